/- How many bars there are at a time: what the program's and the reference's functions give. No statement is made here. -/
import Derived.Test.YtdgahpcgenlcjaaBrDel
namespace Go.AG
open Go.Proofs Go.Proofs.Ytdgahpcgenlcjaa
set_option linter.unusedSimpArgs false
set_option linter.unusedVariables false
set_option maxRecDepth 4000
theorem OwnL.len {α : Type} {enc : α → AV} {sz : Nat} {v : AV} {l : List α} {hp : Heap} (h : OwnL enc sz v l hp) : lenR v = .val (.int .i64 l.length) := by
  cases h <;> simp
abbrev c_impl_size_impl_Bar_o0 : List AJ := [.o ⟨(some 2), none, false, .mv (.c (.int .i64 0)), (some [0])⟩]
def c_impl_size_impl_Bar_0 : ACode := .region c_impl_size_impl_Bar_o0
abbrev c_impl_size_impl_Bar_o1 : List AJ := [.o ⟨(some 3), none, false, .mv (.t 0), none⟩, .o ⟨(some 4), none, false, .len (.t 3), none⟩, .o ⟨(some 2), none, false, .mv (.t 4), (some [2])⟩]
def c_impl_size_impl_Bar_1 : ACode := .region c_impl_size_impl_Bar_o1
def c_impl_size_impl_Bar_2 : ACode := .seq c_impl_size_impl_Bar_1 .ret
def c_impl_size_impl_Bar_3 : ACode := .seq c_impl_size_impl_Bar_0 c_impl_size_impl_Bar_2
section
variable (C : Cx) (n : Nat) (sk : List AItem) (e : Env) (h : Heap) (R : AV → Heap → Prop)
@[simp, simp ↓] theorem c_impl_size_impl_Bar_0_r : vc2 C (n + 1) [] (.code c_impl_size_impl_Bar_0 :: sk) e h R = (vc2 C n c_impl_size_impl_Bar_o0 sk e h R) := nr rfl
@[simp, simp ↓] theorem c_impl_size_impl_Bar_1_r : vc2 C (n + 1) [] (.code c_impl_size_impl_Bar_1 :: sk) e h R = (vc2 C n c_impl_size_impl_Bar_o1 sk e h R) := nr rfl
@[simp, simp ↓] theorem c_impl_size_impl_Bar_2_r : vc2 C (n + 1) [] (.code c_impl_size_impl_Bar_2 :: sk) e h R = (vc2 C n [] (.code c_impl_size_impl_Bar_1 :: .code .ret :: sk) e h R) := nr rfl
@[simp, simp ↓] theorem c_impl_size_impl_Bar_3_r : vc2 C (n + 1) [] (.code c_impl_size_impl_Bar_3 :: sk) e h R = (vc2 C n [] (.code c_impl_size_impl_Bar_0 :: .code c_impl_size_impl_Bar_2 :: sk) e h R) := nr rfl
end
noncomputable def c_impl_size_impl_Bar_C (orc : Orc) : Cx := ⟨Try.prog, [], 35, 5, [.tmp 2], orc⟩
@[simp] theorem c_impl_size_impl_Bar_C_P (orc : Orc) : (c_impl_size_impl_Bar_C orc).P = Try.prog := nr rfl
@[simp] theorem c_impl_size_impl_Bar_C_o (orc : Orc) : (c_impl_size_impl_Bar_C orc).orc = orc := nr rfl
@[simp] theorem c_impl_size_impl_Bar_C_r (orc : Orc) : (c_impl_size_impl_Bar_C orc).res = [.tmp 2] := nr rfl
theorem c_impl_size_impl_Bar_of {args : List AV} {h : Heap} {R : AV → Heap → Prop} {k : Nat} (ha : args.length = k) {orc : Orc} (hp : Pure Try.prog orc) (hk : Is (c_impl_size_impl_Bar_C orc) Try.f35 → Run2 (c_impl_size_impl_Bar_C orc) [.code c_impl_size_impl_Bar_3] (argEnv 0 args) h (Post R)) (hle : k ≤ 5 := by simp) : ACalls Try.prog 35 args h R :=
  contract2 [] c_impl_size_impl_Bar_3 [.tmp 2] Try.func35 (by decide +kernel) rfl (by kernel_rfl) (by rw [ha]; exact hle) (by kernel_rfl) hp hk
theorem c_impl_size_impl_Bar_of0 {args : List AV} {h : Heap} {R : AV → Heap → Prop} {k : Nat} (ha : args.length = k) {orc : Orc} (hp : Pure Try.prog orc) (hk : Is (c_impl_size_impl_Bar_C orc) Try.f35 → Run2 (c_impl_size_impl_Bar_C orc) [.code c_impl_size_impl_Bar_3] (argEnv 0 args) h R) (hle : k ≤ 5 := by simp) : ACalls Try.prog 35 args h R :=
  contract20 [] c_impl_size_impl_Bar_3 [.tmp 2] Try.func35 (by decide +kernel) rfl (by kernel_rfl) (by rw [ha]; exact hle) (by kernel_rfl) hp hk
theorem sizeB_c {u : AV} {n : Nat} (hu : lenR u = .val (.int .i64 n)) (h : Heap) : ACalls Try.prog 35 [u] h (fun v h' => v = .int .i64 n ∧ h' = h) := by
  refine c_impl_size_impl_Bar_of0 rfl noPure fun I => ?_
  refine Run2.of I 1000 ?_
  simp -implicitDefEqProofs [hu]
/-- The bars of a degree at a time. -/
def atB (l : List T) (d time : Int) : List T := l.filter fun x => decide (x.f = d) && (decide (x.t ≤ time) && decide (time < x.en))
noncomputable def atCode (l : List T) (d time : Int) : Int := if validB l then if 0 ≤ d ∧ d ≤ 3 ∧ 0 ≤ time ∧ time ≤ 1000 then 0 else 2 else 1
noncomputable def atNum (l : List T) (d time : Int) : Int := if atCode l d time = 0 then (atB l d time).length else 0
abbrev c_impl_BarsAt_1_o0 : List AJ := [.o ⟨(some 2), none, false, .box false 3 (.t 0), none⟩, .o ⟨(some 3), none, false, .mv (.c (.bool false)), (some [1, 2])⟩]
def c_impl_BarsAt_1_0 : ACode := .region c_impl_BarsAt_1_o0
abbrev c_impl_BarsAt_1_o1 : List AI := [⟨(some 4), none, false, .fieldA 1 (.t 2), none⟩, ⟨(some 5), none, false, .load 1 false (.t 4), none⟩, ⟨(some 6), none, false, .load 1 false (.t 1), none⟩, ⟨(some 7), none, false, .bin .leq (.t 5) (.t 6), none⟩, ⟨(some 8), none, false, .mv (.t 7), none⟩, ⟨(some 9), (some (8, true)), false, .load 3 true (.t 2), none⟩, ⟨(some 10), (some (8, true)), false, .call 38 [(.t 9)], none⟩, ⟨(some 11), (some (8, true)), false, .load 1 false (.t 1), none⟩, ⟨(some 12), (some (8, true)), false, .bin .gtr (.t 10) (.t 11), none⟩, ⟨(some 13), none, false, .pick (.t 8) (.t 12) (.c (.bool false)), (some [13])⟩, ⟨(some 3), none, false, .mv (.t 13), (some [3])⟩]
def c_impl_BarsAt_1_1 : ACode := .draw c_impl_BarsAt_1_o1 [] rfl
def c_impl_BarsAt_1_2 : ACode := .seq c_impl_BarsAt_1_1 .ret
def c_impl_BarsAt_1_3 : ACode := .seq c_impl_BarsAt_1_0 c_impl_BarsAt_1_2
section
variable (C : Cx) (n : Nat) (sk : List AItem) (e : Env) (h : Heap) (R : AV → Heap → Prop)
@[simp, simp ↓] theorem c_impl_BarsAt_1_0_r : vc2 C (n + 1) [] (.code c_impl_BarsAt_1_0 :: sk) e h R = (vc2 C n c_impl_BarsAt_1_o0 sk e h R) := nr rfl
@[simp, simp ↓] theorem c_impl_BarsAt_1_1_r : vc2 C (n + 1) [] (.code c_impl_BarsAt_1_1 :: sk) e h R = (draw2 C h (vK C n [] sk R h) c_impl_BarsAt_1_o1 e) := nr rfl
@[simp, simp ↓] theorem c_impl_BarsAt_1_2_r : vc2 C (n + 1) [] (.code c_impl_BarsAt_1_2 :: sk) e h R = (vc2 C n [] (.code c_impl_BarsAt_1_1 :: .code .ret :: sk) e h R) := nr rfl
@[simp, simp ↓] theorem c_impl_BarsAt_1_3_r : vc2 C (n + 1) [] (.code c_impl_BarsAt_1_3 :: sk) e h R = (vc2 C n [] (.code c_impl_BarsAt_1_0 :: .code c_impl_BarsAt_1_2 :: sk) e h R) := nr rfl
end
noncomputable def c_impl_BarsAt_1_C (orc : Orc) : Cx := ⟨Try.prog, [], 37, 14, [.tmp 3], orc⟩
@[simp] theorem c_impl_BarsAt_1_C_P (orc : Orc) : (c_impl_BarsAt_1_C orc).P = Try.prog := nr rfl
@[simp] theorem c_impl_BarsAt_1_C_o (orc : Orc) : (c_impl_BarsAt_1_C orc).orc = orc := nr rfl
@[simp] theorem c_impl_BarsAt_1_C_r (orc : Orc) : (c_impl_BarsAt_1_C orc).res = [.tmp 3] := nr rfl
theorem c_impl_BarsAt_1_of {args : List AV} {h : Heap} {R : AV → Heap → Prop} {k : Nat} (ha : args.length = k) {orc : Orc} (hp : Pure Try.prog orc) (hk : Is (c_impl_BarsAt_1_C orc) Try.f37 → Run2 (c_impl_BarsAt_1_C orc) [.code c_impl_BarsAt_1_3] (argEnv 0 args) h (Post R)) (hle : k ≤ 14 := by simp) : ACalls Try.prog 37 args h R :=
  contract2 [] c_impl_BarsAt_1_3 [.tmp 3] Try.func37 (by decide +kernel) rfl (by kernel_rfl) (by rw [ha]; exact hle) (by kernel_rfl) hp hk
theorem c_impl_BarsAt_1_of0 {args : List AV} {h : Heap} {R : AV → Heap → Prop} {k : Nat} (ha : args.length = k) {orc : Orc} (hp : Pure Try.prog orc) (hk : Is (c_impl_BarsAt_1_C orc) Try.f37 → Run2 (c_impl_BarsAt_1_C orc) [.code c_impl_BarsAt_1_3] (argEnv 0 args) h R) (hle : k ≤ 14 := by simp) : ACalls Try.prog 37 args h R :=
  contract20 [] c_impl_BarsAt_1_3 [.tmp 3] Try.func37 (by decide +kernel) rfl (by kernel_rfl) (by rw [ha]; exact hle) (by kernel_rfl) hp hk
theorem BarsAt1_t (time : Int) : Tells Try.prog (.fn 37 [.ip [.int .i64 time]]) (fun x => decide (x.t ≤ time) && decide (time < x.en)) := by
  refine ⟨_, _, rfl, rfl, fun x h => ?_⟩
  refine c_impl_BarsAt_1_of0 rfl orc3_p fun I => ?_
  refine Run2.of I 1000 ?_
  simp -implicitDefEqProofs
  grind
abbrev c_impl_BarsAt_o0 : List AJ := [.o ⟨(some 5), none, false, .box false 1 (.t 2), none⟩, .o ⟨(some 6), none, false, .mv (.c (.int .i64 0)), none⟩, .o ⟨(some 7), none, false, .mv (.c (.int .i64 0)), (some [0, 1, 5])⟩]
def c_impl_BarsAt_0 : ACode := .region c_impl_BarsAt_o0
abbrev c_impl_BarsAt_o1 : List AJ := [.o ⟨(some 8), none, false, .mv (.t 0), none⟩, .o ⟨(some 9), none, false, .call 12 [(.t 8)], none⟩, .o ⟨(some 10), none, false, .un .not (.t 9), (some [0, 1, 5, 10])⟩]
def c_impl_BarsAt_1 : ACode := .region c_impl_BarsAt_o1
abbrev c_impl_BarsAt_o2 : List AJ := [.o ⟨(some 6), none, false, .mv (.c (.int .i64 0)), none⟩, .o ⟨(some 7), none, false, .mv (.c (.int .i64 1)), (some [6, 7])⟩]
def c_impl_BarsAt_2 : ACode := .region c_impl_BarsAt_o2
def c_impl_BarsAt_3 : ACode := .seq c_impl_BarsAt_2 .ret
def c_impl_BarsAt_4 : ACode := .cond (.t 10) c_impl_BarsAt_3 .skip
def c_impl_BarsAt_5 : ACode := .seq c_impl_BarsAt_1 c_impl_BarsAt_4
abbrev c_impl_BarsAt_o3 : List AJ := [.o ⟨(some 11), none, false, .mv (.t 1), none⟩, .o ⟨(some 12), none, false, .call 29 [(.t 11)], none⟩, .o ⟨(some 13), none, false, .un .not (.t 12), none⟩, .o ⟨(some 14), none, false, .mv (.t 13), none⟩, .o ⟨(some 15), (some (14, false)), false, .load 1 false (.t 5), none⟩, .o ⟨(some 16), (some (14, false)), false, .call 30 [(.t 15)], none⟩, .o ⟨(some 17), (some (14, false)), false, .un .not (.t 16), none⟩, .o ⟨(some 18), none, false, .pick (.t 14) (.c (.bool true)) (.t 17), (some [0, 1, 5, 18])⟩]
def c_impl_BarsAt_6 : ACode := .region c_impl_BarsAt_o3
abbrev c_impl_BarsAt_o4 : List AJ := [.o ⟨(some 6), none, false, .mv (.c (.int .i64 0)), none⟩, .o ⟨(some 7), none, false, .mv (.c (.int .i64 2)), (some [6, 7])⟩]
def c_impl_BarsAt_7 : ACode := .region c_impl_BarsAt_o4
def c_impl_BarsAt_8 : ACode := .seq c_impl_BarsAt_7 .ret
def c_impl_BarsAt_9 : ACode := .cond (.t 18) c_impl_BarsAt_8 .skip
def c_impl_BarsAt_10 : ACode := .seq c_impl_BarsAt_6 c_impl_BarsAt_9
abbrev c_impl_BarsAt_o5 : List AJ := [.o ⟨(some 19), none, false, .mv (.t 0), none⟩, .o ⟨(some 20), none, false, .mv (.t 1), none⟩, .o ⟨(some 21), none, false, .mkfn 37 [(.t 5)], none⟩, .o ⟨(some 22), none, false, .call 36 [(.t 19), (.t 20), (.t 21)], none⟩, .o ⟨(some 23), none, false, .call 35 [(.t 22)], none⟩, .o ⟨(some 6), none, false, .mv (.t 23), none⟩, .o ⟨(some 7), none, false, .mv (.c (.int .i64 0)), (some [6, 7])⟩]
def c_impl_BarsAt_11 : ACode := .region c_impl_BarsAt_o5
def c_impl_BarsAt_12 : ACode := .seq c_impl_BarsAt_11 .ret
def c_impl_BarsAt_13 : ACode := .seq c_impl_BarsAt_10 c_impl_BarsAt_12
def c_impl_BarsAt_14 : ACode := .seq c_impl_BarsAt_5 c_impl_BarsAt_13
def c_impl_BarsAt_15 : ACode := .seq c_impl_BarsAt_0 c_impl_BarsAt_14
section
variable (C : Cx) (n : Nat) (sk : List AItem) (e : Env) (h : Heap) (R : AV → Heap → Prop)
@[simp, simp ↓] theorem c_impl_BarsAt_0_r : vc2 C (n + 1) [] (.code c_impl_BarsAt_0 :: sk) e h R = (vc2 C n c_impl_BarsAt_o0 sk e h R) := nr rfl
@[simp, simp ↓] theorem c_impl_BarsAt_1_r : vc2 C (n + 1) [] (.code c_impl_BarsAt_1 :: sk) e h R = (vc2 C n c_impl_BarsAt_o1 sk e h R) := nr rfl
@[simp, simp ↓] theorem c_impl_BarsAt_2_r : vc2 C (n + 1) [] (.code c_impl_BarsAt_2 :: sk) e h R = (vc2 C n c_impl_BarsAt_o2 sk e h R) := nr rfl
@[simp, simp ↓] theorem c_impl_BarsAt_3_r : vc2 C (n + 1) [] (.code c_impl_BarsAt_3 :: sk) e h R = (vc2 C n [] (.code c_impl_BarsAt_2 :: .code .ret :: sk) e h R) := nr rfl
@[simp, simp ↓] theorem c_impl_BarsAt_4_r : vc2 C (n + 1) [] (.code c_impl_BarsAt_4 :: sk) e h R = (condK (ev e (.t 10)) (vc2 C n [] (.code c_impl_BarsAt_3 :: sk) e h R) (vc2 C n [] (.code .skip :: sk) e h R)) := nr rfl
@[simp, simp ↓] theorem c_impl_BarsAt_5_r : vc2 C (n + 1) [] (.code c_impl_BarsAt_5 :: sk) e h R = (vc2 C n [] (.code c_impl_BarsAt_1 :: .code c_impl_BarsAt_4 :: sk) e h R) := nr rfl
@[simp, simp ↓] theorem c_impl_BarsAt_6_r : vc2 C (n + 1) [] (.code c_impl_BarsAt_6 :: sk) e h R = (vc2 C n c_impl_BarsAt_o3 sk e h R) := nr rfl
@[simp, simp ↓] theorem c_impl_BarsAt_7_r : vc2 C (n + 1) [] (.code c_impl_BarsAt_7 :: sk) e h R = (vc2 C n c_impl_BarsAt_o4 sk e h R) := nr rfl
@[simp, simp ↓] theorem c_impl_BarsAt_8_r : vc2 C (n + 1) [] (.code c_impl_BarsAt_8 :: sk) e h R = (vc2 C n [] (.code c_impl_BarsAt_7 :: .code .ret :: sk) e h R) := nr rfl
@[simp, simp ↓] theorem c_impl_BarsAt_9_r : vc2 C (n + 1) [] (.code c_impl_BarsAt_9 :: sk) e h R = (condK (ev e (.t 18)) (vc2 C n [] (.code c_impl_BarsAt_8 :: sk) e h R) (vc2 C n [] (.code .skip :: sk) e h R)) := nr rfl
@[simp, simp ↓] theorem c_impl_BarsAt_10_r : vc2 C (n + 1) [] (.code c_impl_BarsAt_10 :: sk) e h R = (vc2 C n [] (.code c_impl_BarsAt_6 :: .code c_impl_BarsAt_9 :: sk) e h R) := nr rfl
@[simp, simp ↓] theorem c_impl_BarsAt_11_r : vc2 C (n + 1) [] (.code c_impl_BarsAt_11 :: sk) e h R = (vc2 C n c_impl_BarsAt_o5 sk e h R) := nr rfl
@[simp, simp ↓] theorem c_impl_BarsAt_12_r : vc2 C (n + 1) [] (.code c_impl_BarsAt_12 :: sk) e h R = (vc2 C n [] (.code c_impl_BarsAt_11 :: .code .ret :: sk) e h R) := nr rfl
@[simp, simp ↓] theorem c_impl_BarsAt_13_r : vc2 C (n + 1) [] (.code c_impl_BarsAt_13 :: sk) e h R = (vc2 C n [] (.code c_impl_BarsAt_10 :: .code c_impl_BarsAt_12 :: sk) e h R) := nr rfl
@[simp, simp ↓] theorem c_impl_BarsAt_14_r : vc2 C (n + 1) [] (.code c_impl_BarsAt_14 :: sk) e h R = (vc2 C n [] (.code c_impl_BarsAt_5 :: .code c_impl_BarsAt_13 :: sk) e h R) := nr rfl
@[simp, simp ↓] theorem c_impl_BarsAt_15_r : vc2 C (n + 1) [] (.code c_impl_BarsAt_15 :: sk) e h R = (vc2 C n [] (.code c_impl_BarsAt_0 :: .code c_impl_BarsAt_14 :: sk) e h R) := nr rfl
end
noncomputable def c_impl_BarsAt_C (orc : Orc) : Cx := ⟨Try.prog, [], 15, 24, [.tmp 6, .tmp 7], orc⟩
@[simp] theorem c_impl_BarsAt_C_P (orc : Orc) : (c_impl_BarsAt_C orc).P = Try.prog := nr rfl
@[simp] theorem c_impl_BarsAt_C_o (orc : Orc) : (c_impl_BarsAt_C orc).orc = orc := nr rfl
@[simp] theorem c_impl_BarsAt_C_r (orc : Orc) : (c_impl_BarsAt_C orc).res = [.tmp 6, .tmp 7] := nr rfl
theorem c_impl_BarsAt_of {args : List AV} {h : Heap} {R : AV → Heap → Prop} {k : Nat} (ha : args.length = k) {orc : Orc} (hp : Pure Try.prog orc) (hk : Is (c_impl_BarsAt_C orc) Try.f15 → Run2 (c_impl_BarsAt_C orc) [.code c_impl_BarsAt_15] (argEnv 0 args) h (Post R)) (hle : k ≤ 24 := by simp) : ACalls Try.prog 15 args h R :=
  contract2 [] c_impl_BarsAt_15 [.tmp 6, .tmp 7] Try.func15 (by decide +kernel) rfl (by kernel_rfl) (by rw [ha]; exact hle) (by kernel_rfl) hp hk
theorem c_impl_BarsAt_of0 {args : List AV} {h : Heap} {R : AV → Heap → Prop} {k : Nat} (ha : args.length = k) {orc : Orc} (hp : Pure Try.prog orc) (hk : Is (c_impl_BarsAt_C orc) Try.f15 → Run2 (c_impl_BarsAt_C orc) [.code c_impl_BarsAt_15] (argEnv 0 args) h R) (hle : k ≤ 24 := by simp) : ACalls Try.prog 15 args h R :=
  contract20 [] c_impl_BarsAt_15 [.tmp 6, .tmp 7] Try.func15 (by decide +kernel) rfl (by kernel_rfl) (by rw [ha]; exact hle) (by kernel_rfl) hp hk
theorem implAt_o (l : List T) (d time : Int) (hl : l.length ≤ 1048576) (ok : okB l) : ACalls Try.prog 15 [.snap 3 (l.map T.av), .int .i64 d, .int .i64 time] [] (fun v h' => v = .tup [.int .i64 (atNum l d time), .int .i64 (atCode l d time)] ∧ h' = []) := by
  refine c_impl_BarsAt_of rfl orcV_p fun I => ?_
  refine Run2.of I 1000 ?_
  by_cases hv : validB l
  · by_cases hr : 0 ≤ d ∧ d ≤ 3 ∧ 0 ≤ time ∧ time ≤ 1000
    · have hc : atCode l d time = 0 := by simp [atCode, hv, hr]
      have hn : atNum l d time = (atB l d time).length := by simp [atNum, hc]
      simp -implicitDefEqProofs [hl, ok, hv, hr.1, hr.2.1, hr.2.2.1, hr.2.2.2]
      refine (ofDegree_o l d hl (BarsAt1_t time)).mono ?_
      intro v h' o
      have hcell := o.cell
      refine gK.go ?_
      simp -implicitDefEqProofs [hcell]
      refine (sizeB_c o.len _).mono ?_
      rintro v h' ⟨rfl, rfl⟩
      refine gK.go ?_
      simp -implicitDefEqProofs
      exact Post.none ⟨by rw [hc, hn]; rfl, rfl⟩
    · have hc : atCode l d time = 2 := by simp [atCode, hv, hr]
      have hn : atNum l d time = 0 := by simp [atNum, hc]
      simp -implicitDefEqProofs [hl, ok, hv, hc, hn]
      repeat' (first | refine And.intro ?_ ?_ | intro _)
      all_goals first | exact .base ⟨rfl, rfl⟩ | (exfalso; omega)
  · have hc : atCode l d time = 1 := by simp [atCode, hv]
    have hn : atNum l d time = 0 := by simp [atNum, hc]
    simp -implicitDefEqProofs [hl, ok, hv, hc, hn]
    exact .base ⟨rfl, rfl⟩
abbrev c_spec_BarsAt_o0 : List AJ := [.o ⟨(some 6), none, false, .mv (.c (.int .i64 0)), none⟩, .o ⟨(some 7), none, false, .mv (.c (.int .i64 0)), (some [0, 1, 2])⟩]
def c_spec_BarsAt_0 : ACode := .region c_spec_BarsAt_o0
abbrev c_spec_BarsAt_o1 : List AJ := [.o ⟨(some 11), none, false, .mv (.t 0), none⟩, .o ⟨(some 12), none, false, .call 27 [(.t 11)], none⟩, .o ⟨(some 13), none, false, .un .not (.t 12), (some [0, 1, 2, 13])⟩]
def c_spec_BarsAt_1 : ACode := .region c_spec_BarsAt_o1
abbrev c_spec_BarsAt_o2 : List AJ := [.o ⟨(some 6), none, false, .mv (.c (.int .i64 0)), none⟩, .o ⟨(some 7), none, false, .mv (.c (.int .i64 1)), (some [6, 7])⟩]
def c_spec_BarsAt_2 : ACode := .region c_spec_BarsAt_o2
def c_spec_BarsAt_3 : ACode := .seq c_spec_BarsAt_2 .ret
def c_spec_BarsAt_4 : ACode := .cond (.t 13) c_spec_BarsAt_3 .skip
def c_spec_BarsAt_5 : ACode := .seq c_spec_BarsAt_1 c_spec_BarsAt_4
abbrev c_spec_BarsAt_o3 : List AJ := [.o ⟨(some 14), none, false, .mv (.t 1), none⟩, .o ⟨(some 15), none, false, .call 33 [(.t 14)], none⟩, .o ⟨(some 16), none, false, .un .not (.t 15), none⟩, .o ⟨(some 17), none, false, .mv (.t 16), none⟩, .o ⟨(some 18), (some (17, false)), false, .mv (.t 2), none⟩, .o ⟨(some 19), (some (17, false)), false, .call 34 [(.t 18)], none⟩, .o ⟨(some 20), (some (17, false)), false, .un .not (.t 19), none⟩, .o ⟨(some 21), none, false, .pick (.t 17) (.c (.bool true)) (.t 20), (some [0, 1, 2, 21])⟩]
def c_spec_BarsAt_6 : ACode := .region c_spec_BarsAt_o3
abbrev c_spec_BarsAt_o4 : List AJ := [.o ⟨(some 6), none, false, .mv (.c (.int .i64 0)), none⟩, .o ⟨(some 7), none, false, .mv (.c (.int .i64 2)), (some [6, 7])⟩]
def c_spec_BarsAt_7 : ACode := .region c_spec_BarsAt_o4
def c_spec_BarsAt_8 : ACode := .seq c_spec_BarsAt_7 .ret
def c_spec_BarsAt_9 : ACode := .cond (.t 21) c_spec_BarsAt_8 .skip
def c_spec_BarsAt_10 : ACode := .seq c_spec_BarsAt_6 c_spec_BarsAt_9
abbrev c_spec_BarsAt_o5 : List AJ := [.o ⟨(some 8), none, false, .mv (.c (.int .i64 0)), (some [0, 1, 2, 8])⟩]
def c_spec_BarsAt_11 : ACode := .region c_spec_BarsAt_o5
abbrev c_spec_BarsAt_o6 : List AJ := [.o ⟨(some 9), none, false, .mv (.c (.int .i64 0)), (some [0, 1, 2, 8, 9])⟩]
def c_spec_BarsAt_12 : ACode := .region c_spec_BarsAt_o6
abbrev c_spec_BarsAt_o7 : List AJ := [.o ⟨(some 22), none, false, .mv (.t 9), none⟩, .o ⟨(some 23), none, false, .mv (.t 0), none⟩, .o ⟨(some 24), none, false, .len (.t 23), none⟩, .o ⟨(some 25), none, false, .bin .lss (.t 22) (.t 24), (some [0, 1, 2, 8, 9, 25])⟩]
def c_spec_BarsAt_13 : ACode := .region c_spec_BarsAt_o7
def c_spec_BarsAt_14 : ACode := .cond (.t 25) .skip (.exit 0)
def c_spec_BarsAt_15 : ACode := .seq c_spec_BarsAt_13 c_spec_BarsAt_14
abbrev c_spec_BarsAt_o8 : List AJ := [.o ⟨(some 28), none, false, .mv (.t 0), none⟩, .o ⟨(some 29), none, false, .mv (.t 9), none⟩, .o ⟨(some 30), none, false, .idxA 3 (.t 28) (.t 29), none⟩, .o ⟨(some 31), none, false, .load 3 true (.t 30), none⟩, .v 10 3 (.agg [(.int .i64 0), (.int .i64 0), (.int .i64 0)]) [] (.t 31) (some [0, 1, 2, 8, 9, 10])]
def c_spec_BarsAt_16 : ACode := .region c_spec_BarsAt_o8
abbrev c_spec_BarsAt_o9 : List AJ := [.o ⟨(some 32), none, false, .fieldA 0 (.t 10), none⟩, .o ⟨(some 33), none, false, .load 1 false (.t 32), none⟩, .o ⟨(some 34), none, false, .mv (.t 1), none⟩, .o ⟨(some 35), none, false, .bin .eql (.t 33) (.t 34), none⟩, .o ⟨(some 36), none, false, .mv (.t 35), none⟩, .o ⟨(some 37), (some (36, true)), false, .fieldA 1 (.t 10), none⟩, .o ⟨(some 38), (some (36, true)), false, .load 1 false (.t 37), none⟩, .o ⟨(some 39), (some (36, true)), false, .mv (.t 2), none⟩, .o ⟨(some 40), (some (36, true)), false, .bin .leq (.t 38) (.t 39), none⟩, .o ⟨(some 41), none, false, .pick (.t 36) (.t 40) (.c (.bool false)), (some [0, 1, 2, 8, 9, 10, 41])⟩, .o ⟨(some 42), none, false, .mv (.t 41), none⟩, .o ⟨(some 43), (some (42, true)), false, .fieldA 2 (.t 10), none⟩, .o ⟨(some 44), (some (42, true)), false, .load 1 false (.t 43), none⟩, .o ⟨(some 45), (some (42, true)), false, .bin .eql (.t 44) (.c (.int .i64 (-1))), none⟩, .o ⟨(some 46), (some (42, true)), false, .mv (.t 45), none⟩, .o ⟨(some 47), (some (46, false)), false, .fieldA 2 (.t 10), none⟩, .o ⟨(some 48), (some (46, false)), false, .load 1 false (.t 47), none⟩, .o ⟨(some 49), (some (46, false)), false, .mv (.t 2), (some [0, 1, 2, 8, 9, 42, 46, 48, 49])⟩, .o ⟨(some 50), (some (46, false)), false, .bin .gtr (.t 48) (.t 49), none⟩, .o ⟨(some 51), (some (42, true)), false, .pick (.t 46) (.c (.bool true)) (.t 50), none⟩, .o ⟨(some 52), none, false, .pick (.t 42) (.t 51) (.c (.bool false)), (some [0, 1, 2, 8, 9, 52])⟩]
def c_spec_BarsAt_17 : ACode := .region c_spec_BarsAt_o9
abbrev c_spec_BarsAt_o10 : List AJ := [.o ⟨(some 53), none, false, .mv (.t 8), none⟩, .o ⟨(some 54), none, true, .bin .add (.t 53) (.c (.int .i64 1)), none⟩, .o ⟨(some 8), none, false, .mv (.t 54), (some [0, 1, 2, 8, 9])⟩]
def c_spec_BarsAt_18 : ACode := .region c_spec_BarsAt_o10
def c_spec_BarsAt_19 : ACode := .cond (.t 52) c_spec_BarsAt_18 .skip
def c_spec_BarsAt_20 : ACode := .seq c_spec_BarsAt_17 c_spec_BarsAt_19
def c_spec_BarsAt_21 : ACode := .seq c_spec_BarsAt_16 c_spec_BarsAt_20
def c_spec_BarsAt_22 : ACode := .block 1 c_spec_BarsAt_21
abbrev c_spec_BarsAt_o11 : List AJ := [.o ⟨(some 26), none, false, .mv (.t 9), none⟩, .o ⟨(some 27), none, true, .bin .add (.t 26) (.c (.int .i64 1)), none⟩, .o ⟨(some 9), none, false, .mv (.t 27), (some [0, 1, 2, 8, 9])⟩]
def c_spec_BarsAt_23 : ACode := .region c_spec_BarsAt_o11
def c_spec_BarsAt_24 : ACode := .seq c_spec_BarsAt_22 c_spec_BarsAt_23
def c_spec_BarsAt_25 : ACode := .seq c_spec_BarsAt_15 c_spec_BarsAt_24
def c_spec_BarsAt_26 : ACode := .loop c_spec_BarsAt_25
def c_spec_BarsAt_27 : ACode := .block 0 c_spec_BarsAt_26
def c_spec_BarsAt_28 : ACode := .seq c_spec_BarsAt_12 c_spec_BarsAt_27
abbrev c_spec_BarsAt_o12 : List AJ := [.o ⟨(some 55), none, false, .mv (.t 8), none⟩, .o ⟨(some 6), none, false, .mv (.t 55), none⟩, .o ⟨(some 7), none, false, .mv (.c (.int .i64 0)), (some [6, 7])⟩]
def c_spec_BarsAt_29 : ACode := .region c_spec_BarsAt_o12
def c_spec_BarsAt_30 : ACode := .seq c_spec_BarsAt_29 .ret
def c_spec_BarsAt_31 : ACode := .seq c_spec_BarsAt_28 c_spec_BarsAt_30
def c_spec_BarsAt_32 : ACode := .seq c_spec_BarsAt_11 c_spec_BarsAt_31
def c_spec_BarsAt_33 : ACode := .seq c_spec_BarsAt_10 c_spec_BarsAt_32
def c_spec_BarsAt_34 : ACode := .seq c_spec_BarsAt_5 c_spec_BarsAt_33
def c_spec_BarsAt_35 : ACode := .seq c_spec_BarsAt_0 c_spec_BarsAt_34
section
variable (C : Cx) (n : Nat) (sk : List AItem) (e : Env) (h : Heap) (R : AV → Heap → Prop)
@[simp, simp ↓] theorem c_spec_BarsAt_0_r : vc2 C (n + 1) [] (.code c_spec_BarsAt_0 :: sk) e h R = (vc2 C n c_spec_BarsAt_o0 sk e h R) := nr rfl
@[simp, simp ↓] theorem c_spec_BarsAt_1_r : vc2 C (n + 1) [] (.code c_spec_BarsAt_1 :: sk) e h R = (vc2 C n c_spec_BarsAt_o1 sk e h R) := nr rfl
@[simp, simp ↓] theorem c_spec_BarsAt_2_r : vc2 C (n + 1) [] (.code c_spec_BarsAt_2 :: sk) e h R = (vc2 C n c_spec_BarsAt_o2 sk e h R) := nr rfl
@[simp, simp ↓] theorem c_spec_BarsAt_3_r : vc2 C (n + 1) [] (.code c_spec_BarsAt_3 :: sk) e h R = (vc2 C n [] (.code c_spec_BarsAt_2 :: .code .ret :: sk) e h R) := nr rfl
@[simp, simp ↓] theorem c_spec_BarsAt_4_r : vc2 C (n + 1) [] (.code c_spec_BarsAt_4 :: sk) e h R = (condK (ev e (.t 13)) (vc2 C n [] (.code c_spec_BarsAt_3 :: sk) e h R) (vc2 C n [] (.code .skip :: sk) e h R)) := nr rfl
@[simp, simp ↓] theorem c_spec_BarsAt_5_r : vc2 C (n + 1) [] (.code c_spec_BarsAt_5 :: sk) e h R = (vc2 C n [] (.code c_spec_BarsAt_1 :: .code c_spec_BarsAt_4 :: sk) e h R) := nr rfl
@[simp, simp ↓] theorem c_spec_BarsAt_6_r : vc2 C (n + 1) [] (.code c_spec_BarsAt_6 :: sk) e h R = (vc2 C n c_spec_BarsAt_o3 sk e h R) := nr rfl
@[simp, simp ↓] theorem c_spec_BarsAt_7_r : vc2 C (n + 1) [] (.code c_spec_BarsAt_7 :: sk) e h R = (vc2 C n c_spec_BarsAt_o4 sk e h R) := nr rfl
@[simp, simp ↓] theorem c_spec_BarsAt_8_r : vc2 C (n + 1) [] (.code c_spec_BarsAt_8 :: sk) e h R = (vc2 C n [] (.code c_spec_BarsAt_7 :: .code .ret :: sk) e h R) := nr rfl
@[simp, simp ↓] theorem c_spec_BarsAt_9_r : vc2 C (n + 1) [] (.code c_spec_BarsAt_9 :: sk) e h R = (condK (ev e (.t 21)) (vc2 C n [] (.code c_spec_BarsAt_8 :: sk) e h R) (vc2 C n [] (.code .skip :: sk) e h R)) := nr rfl
@[simp, simp ↓] theorem c_spec_BarsAt_10_r : vc2 C (n + 1) [] (.code c_spec_BarsAt_10 :: sk) e h R = (vc2 C n [] (.code c_spec_BarsAt_6 :: .code c_spec_BarsAt_9 :: sk) e h R) := nr rfl
@[simp, simp ↓] theorem c_spec_BarsAt_11_r : vc2 C (n + 1) [] (.code c_spec_BarsAt_11 :: sk) e h R = (vc2 C n c_spec_BarsAt_o5 sk e h R) := nr rfl
@[simp, simp ↓] theorem c_spec_BarsAt_12_r : vc2 C (n + 1) [] (.code c_spec_BarsAt_12 :: sk) e h R = (vc2 C n c_spec_BarsAt_o6 sk e h R) := nr rfl
@[simp, simp ↓] theorem c_spec_BarsAt_13_r : vc2 C (n + 1) [] (.code c_spec_BarsAt_13 :: sk) e h R = (vc2 C n c_spec_BarsAt_o7 sk e h R) := nr rfl
@[simp, simp ↓] theorem c_spec_BarsAt_14_r : vc2 C (n + 1) [] (.code c_spec_BarsAt_14 :: sk) e h R = (condK (ev e (.t 25)) (vc2 C n [] (.code .skip :: sk) e h R) (vc2 C n [] (.code (.exit 0) :: sk) e h R)) := nr rfl
@[simp, simp ↓] theorem c_spec_BarsAt_15_r : vc2 C (n + 1) [] (.code c_spec_BarsAt_15 :: sk) e h R = (vc2 C n [] (.code c_spec_BarsAt_13 :: .code c_spec_BarsAt_14 :: sk) e h R) := nr rfl
@[simp, simp ↓] theorem c_spec_BarsAt_16_r : vc2 C (n + 1) [] (.code c_spec_BarsAt_16 :: sk) e h R = (vc2 C n c_spec_BarsAt_o8 sk e h R) := nr rfl
@[simp, simp ↓] theorem c_spec_BarsAt_17_r : vc2 C (n + 1) [] (.code c_spec_BarsAt_17 :: sk) e h R = (vc2 C n c_spec_BarsAt_o9 sk e h R) := nr rfl
@[simp, simp ↓] theorem c_spec_BarsAt_18_r : vc2 C (n + 1) [] (.code c_spec_BarsAt_18 :: sk) e h R = (vc2 C n c_spec_BarsAt_o10 sk e h R) := nr rfl
@[simp, simp ↓] theorem c_spec_BarsAt_19_r : vc2 C (n + 1) [] (.code c_spec_BarsAt_19 :: sk) e h R = (condK (ev e (.t 52)) (vc2 C n [] (.code c_spec_BarsAt_18 :: sk) e h R) (vc2 C n [] (.code .skip :: sk) e h R)) := nr rfl
@[simp, simp ↓] theorem c_spec_BarsAt_20_r : vc2 C (n + 1) [] (.code c_spec_BarsAt_20 :: sk) e h R = (vc2 C n [] (.code c_spec_BarsAt_17 :: .code c_spec_BarsAt_19 :: sk) e h R) := nr rfl
@[simp, simp ↓] theorem c_spec_BarsAt_21_r : vc2 C (n + 1) [] (.code c_spec_BarsAt_21 :: sk) e h R = (vc2 C n [] (.code c_spec_BarsAt_16 :: .code c_spec_BarsAt_20 :: sk) e h R) := nr rfl
@[simp, simp ↓] theorem c_spec_BarsAt_22_r : vc2 C (n + 1) [] (.code c_spec_BarsAt_22 :: sk) e h R = (vc2 C n [] (.code c_spec_BarsAt_21 :: .inBlock 1 :: sk) e h R) := nr rfl
@[simp, simp ↓] theorem c_spec_BarsAt_23_r : vc2 C (n + 1) [] (.code c_spec_BarsAt_23 :: sk) e h R = (vc2 C n c_spec_BarsAt_o11 sk e h R) := nr rfl
@[simp, simp ↓] theorem c_spec_BarsAt_24_r : vc2 C (n + 1) [] (.code c_spec_BarsAt_24 :: sk) e h R = (vc2 C n [] (.code c_spec_BarsAt_22 :: .code c_spec_BarsAt_23 :: sk) e h R) := nr rfl
@[simp, simp ↓] theorem c_spec_BarsAt_25_r : vc2 C (n + 1) [] (.code c_spec_BarsAt_25 :: sk) e h R = (vc2 C n [] (.code c_spec_BarsAt_15 :: .code c_spec_BarsAt_24 :: sk) e h R) := nr rfl
@[simp, simp ↓] theorem c_spec_BarsAt_26_r : vc2 C (n + 1) [] (.code c_spec_BarsAt_26 :: sk) e h R = (Run2 C (.code c_spec_BarsAt_25 :: .inLoop c_spec_BarsAt_25 :: sk) e h R) := nr rfl
@[simp, simp ↓] theorem c_spec_BarsAt_27_r : vc2 C (n + 1) [] (.code c_spec_BarsAt_27 :: sk) e h R = (vc2 C n [] (.code c_spec_BarsAt_26 :: .inBlock 0 :: sk) e h R) := nr rfl
@[simp, simp ↓] theorem c_spec_BarsAt_28_r : vc2 C (n + 1) [] (.code c_spec_BarsAt_28 :: sk) e h R = (vc2 C n [] (.code c_spec_BarsAt_12 :: .code c_spec_BarsAt_27 :: sk) e h R) := nr rfl
@[simp, simp ↓] theorem c_spec_BarsAt_29_r : vc2 C (n + 1) [] (.code c_spec_BarsAt_29 :: sk) e h R = (vc2 C n c_spec_BarsAt_o12 sk e h R) := nr rfl
@[simp, simp ↓] theorem c_spec_BarsAt_30_r : vc2 C (n + 1) [] (.code c_spec_BarsAt_30 :: sk) e h R = (vc2 C n [] (.code c_spec_BarsAt_29 :: .code .ret :: sk) e h R) := nr rfl
@[simp, simp ↓] theorem c_spec_BarsAt_31_r : vc2 C (n + 1) [] (.code c_spec_BarsAt_31 :: sk) e h R = (vc2 C n [] (.code c_spec_BarsAt_28 :: .code c_spec_BarsAt_30 :: sk) e h R) := nr rfl
@[simp, simp ↓] theorem c_spec_BarsAt_32_r : vc2 C (n + 1) [] (.code c_spec_BarsAt_32 :: sk) e h R = (vc2 C n [] (.code c_spec_BarsAt_11 :: .code c_spec_BarsAt_31 :: sk) e h R) := nr rfl
@[simp, simp ↓] theorem c_spec_BarsAt_33_r : vc2 C (n + 1) [] (.code c_spec_BarsAt_33 :: sk) e h R = (vc2 C n [] (.code c_spec_BarsAt_10 :: .code c_spec_BarsAt_32 :: sk) e h R) := nr rfl
@[simp, simp ↓] theorem c_spec_BarsAt_34_r : vc2 C (n + 1) [] (.code c_spec_BarsAt_34 :: sk) e h R = (vc2 C n [] (.code c_spec_BarsAt_5 :: .code c_spec_BarsAt_33 :: sk) e h R) := nr rfl
@[simp, simp ↓] theorem c_spec_BarsAt_35_r : vc2 C (n + 1) [] (.code c_spec_BarsAt_35 :: sk) e h R = (vc2 C n [] (.code c_spec_BarsAt_0 :: .code c_spec_BarsAt_34 :: sk) e h R) := nr rfl
end
noncomputable def c_spec_BarsAt_C (orc : Orc) : Cx := ⟨Try.prog, [10], 14, 56, [.tmp 6, .tmp 7], orc⟩
@[simp] theorem c_spec_BarsAt_C_P (orc : Orc) : (c_spec_BarsAt_C orc).P = Try.prog := nr rfl
@[simp] theorem c_spec_BarsAt_C_o (orc : Orc) : (c_spec_BarsAt_C orc).orc = orc := nr rfl
@[simp] theorem c_spec_BarsAt_C_r (orc : Orc) : (c_spec_BarsAt_C orc).res = [.tmp 6, .tmp 7] := nr rfl
theorem c_spec_BarsAt_of {args : List AV} {h : Heap} {R : AV → Heap → Prop} {k : Nat} (ha : args.length = k) {orc : Orc} (hp : Pure Try.prog orc) (hk : Is (c_spec_BarsAt_C orc) Try.f14 → Run2 (c_spec_BarsAt_C orc) [.code c_spec_BarsAt_35] (argEnv 0 args) h (Post R)) (hle : k ≤ 56 := by simp) : ACalls Try.prog 14 args h R :=
  contract2 [10] c_spec_BarsAt_35 [.tmp 6, .tmp 7] Try.func14 (by decide +kernel) rfl (by kernel_rfl) (by rw [ha]; exact hle) (by kernel_rfl) hp hk
theorem c_spec_BarsAt_of0 {args : List AV} {h : Heap} {R : AV → Heap → Prop} {k : Nat} (ha : args.length = k) {orc : Orc} (hp : Pure Try.prog orc) (hk : Is (c_spec_BarsAt_C orc) Try.f14 → Run2 (c_spec_BarsAt_C orc) [.code c_spec_BarsAt_35] (argEnv 0 args) h R) (hle : k ≤ 56 := by simp) : ACalls Try.prog 14 args h R :=
  contract20 [10] c_spec_BarsAt_35 [.tmp 6, .tmp 7] Try.func14 (by decide +kernel) rfl (by kernel_rfl) (by rw [ha]; exact hle) (by kernel_rfl) hp hk
theorem specAt_c (l : List T) (d time : Int) (h : Heap) (hl : l.length ≤ 1048576) (ok : okB l) : ACalls Try.prog 14 [.snap 3 (l.map T.av), .int .i64 d, .int .i64 time] h (fun v h' => v = .tup [.int .i64 (atNum l d time), .int .i64 (atCode l d time)] ∧ h' = h) := by
  refine c_spec_BarsAt_of0 rfl orcV_p fun I => ?_
  refine Run2.of I 1000 ?_
  by_cases hv : validB l
  · by_cases hr : 0 ≤ d ∧ d ≤ 3 ∧ 0 ≤ time ∧ time ≤ 1000
    · have hc : atCode l d time = 0 := by simp [atCode, hv, hr]
      have hn : atNum l d time = (atB l d time).length := by simp [atNum, hc]
      simp -implicitDefEqProofs [hl, ok, hv, hr.1, hr.2.1, hr.2.2.1, hr.2.2.2]
      refine Run2.loopE (fun (i : Nat) => [(0, .snap 3 (l.map T.av)), (1, .int .i64 d), (2, .int .i64 time), (8, .int .i64 ((atB (l.take i) d time).length : Nat)), (9, .int .i64 i)]) (fun i => h) (fun i => l.length - i) (fun i => i ≤ l.length) 0 (by simp [atB]) rfl (Nat.zero_le _) fun i hi ih => ?_
      by_cases hlt : i < l.length
      · have hel := hv.el (List.getElem_mem hlt)
        have go := ih (i + 1) (by omega) (by omega)
        have hle : (atB (l.take i) d time).length ≤ i := Nat.le_trans (List.length_filter_le _ _) (by simp; omega)
        have hen : time < l[i].en ↔ l[i].s = -1 ∨ time < l[i].s := by
          unfold T.en; unfold T.el at hel; grind
        have hs1 : (l[i].f = d ∧ l[i].t ≤ time ∧ (l[i].s = -1 ∨ time < l[i].s)) → ((atB (l.take (i + 1)) d time).length : Int) = (atB (l.take i) d time).length + 1 := by
          intro h1
          unfold atB
          rw [List.take_succ_eq_append_getElem hlt, List.filter_append, List.length_append]
          simp [h1, hen]
        have hs0 : ¬ (l[i].f = d ∧ l[i].t ≤ time ∧ (l[i].s = -1 ∨ time < l[i].s)) → ((atB (l.take (i + 1)) d time).length : Int) = (atB (l.take i) d time).length := by
          intro h1
          unfold atB
          rw [List.take_succ_eq_append_getElem hlt, List.filter_append, List.length_append, List.filter_cons_of_neg (by simpa [hen] using h1)]
          simp
        have go1 := fun h1 => by have := go; rw [hs1 h1] at this; exact this
        have go0 := fun h1 => by have := go; rw [hs0 h1] at this; exact this
        clear ih go hs1 hs0
        refine Run2.of I 1000 ?_
        simp -implicitDefEqProofs [hlt]
        simp at go1 go0
        repeat' (first | refine And.intro ?_ ?_ | intro _)
        all_goals first | omega | (unfold in64; omega) | (exact go1 (by omega) (by omega) (by omega)) | (exact go0 (by omega))
      · obtain rfl : i = l.length := by omega
        refine Run2.of I 1000 ?_
        simp -implicitDefEqProofs
        exact ⟨hn.symm, hc.symm⟩
    · have hc : atCode l d time = 2 := by simp [atCode, hv, hr]
      have hn : atNum l d time = 0 := by simp [atNum, hc]
      simp -implicitDefEqProofs [hl, ok, hv, hc, hn]
      repeat' (first | refine And.intro ?_ ?_ | intro _)
      all_goals (exfalso; omega)
  · have hc : atCode l d time = 1 := by simp [atCode, hv]
    have hn : atNum l d time = 0 := by simp [atNum, hc]
    simp -implicitDefEqProofs [hl, ok, hv, hc, hn]
end Go.AG
