/- Long bars and the longest one: what the program's and the reference's functions give. No statement is made here. -/
import Derived.Test.YtdgahpcgenlcjaaBrAt
namespace Go.AG
open Go.Proofs Go.Proofs.Ytdgahpcgenlcjaa
set_option linter.unusedSimpArgs false
set_option linter.unusedVariables false
set_option maxRecDepth 4000
theorem validB.bound {l : List T} (h : validB l) {i : Nat} (hi : i < l.length) : 0 ≤ l[i].t ∧ l[i].t ≤ 1000 ∧ -1 ≤ l[i].s ∧ l[i].s ≤ 1000 := by
  have := h.el (List.getElem_mem hi)
  unfold T.el at this
  omega
theorem T.el_b {x : T} (h : x.el) : 0 ≤ x.t ∧ x.t ≤ 1000 ∧ -1 ≤ x.s ∧ x.s ≤ 1000 := by
  unfold T.el at h
  omega
def longB (l : List T) (k : Int) : List T := l.filter fun x => !(!decide (x.s = -1) && decide (x.s - x.t < k))
noncomputable def longCode (l : List T) (k : Int) : Int := if validB l then if 0 ≤ k ∧ k ≤ 1000 then 0 else 2 else 1
noncomputable def longL (l : List T) (k : Int) : List T := if longCode l k = 0 then longB l k else []
theorem longL_len (l : List T) (k : Int) : (longL l k).length ≤ l.length := by
  unfold longL longB
  split
  · exact List.length_filter_le _ _
  · simp
abbrev c_impl_LongBars_1_o0 : List AJ := [.o ⟨(some 2), none, false, .box false 3 (.t 0), none⟩, .o ⟨(some 3), none, false, .mv (.c (.bool false)), (some [1, 2])⟩]
def c_impl_LongBars_1_0 : ACode := .region c_impl_LongBars_1_o0
abbrev c_impl_LongBars_1_o1 : List AJ := [.o ⟨(some 4), none, false, .load 3 true (.t 2), none⟩, .o ⟨(some 5), none, false, .call 39 [(.t 4)], none⟩, .o ⟨(some 6), none, false, .mv (.t 5), none⟩, .o ⟨(some 7), (some (6, true)), false, .fieldA 2 (.t 2), none⟩, .o ⟨(some 8), (some (6, true)), false, .load 1 false (.t 7), none⟩, .o ⟨(some 9), (some (6, true)), false, .fieldA 1 (.t 2), none⟩, .o ⟨(some 10), (some (6, true)), false, .load 1 false (.t 9), none⟩, .o ⟨(some 11), (some (6, true)), false, .bin .sub (.t 8) (.t 10), none⟩, .o ⟨(some 12), (some (6, true)), false, .load 1 false (.t 1), (some [6, 11, 12])⟩, .o ⟨(some 13), (some (6, true)), false, .bin .lss (.t 11) (.t 12), none⟩, .o ⟨(some 14), none, false, .pick (.t 6) (.t 13) (.c (.bool false)), none⟩, .o ⟨(some 3), none, false, .mv (.t 14), (some [3])⟩]
def c_impl_LongBars_1_1 : ACode := .region c_impl_LongBars_1_o1
def c_impl_LongBars_1_2 : ACode := .seq c_impl_LongBars_1_1 .ret
def c_impl_LongBars_1_3 : ACode := .seq c_impl_LongBars_1_0 c_impl_LongBars_1_2
section
variable (C : Cx) (n : Nat) (sk : List AItem) (e : Env) (h : Heap) (R : AV → Heap → Prop)
@[simp, simp ↓] theorem c_impl_LongBars_1_0_r : vc2 C (n + 1) [] (.code c_impl_LongBars_1_0 :: sk) e h R = (vc2 C n c_impl_LongBars_1_o0 sk e h R) := nr rfl
@[simp, simp ↓] theorem c_impl_LongBars_1_1_r : vc2 C (n + 1) [] (.code c_impl_LongBars_1_1 :: sk) e h R = (vc2 C n c_impl_LongBars_1_o1 sk e h R) := nr rfl
@[simp, simp ↓] theorem c_impl_LongBars_1_2_r : vc2 C (n + 1) [] (.code c_impl_LongBars_1_2 :: sk) e h R = (vc2 C n [] (.code c_impl_LongBars_1_1 :: .code .ret :: sk) e h R) := nr rfl
@[simp, simp ↓] theorem c_impl_LongBars_1_3_r : vc2 C (n + 1) [] (.code c_impl_LongBars_1_3 :: sk) e h R = (vc2 C n [] (.code c_impl_LongBars_1_0 :: .code c_impl_LongBars_1_2 :: sk) e h R) := nr rfl
end
noncomputable def c_impl_LongBars_1_C (orc : Orc) : Cx := ⟨Try.prog, [], 42, 15, [.tmp 3], orc⟩
@[simp] theorem c_impl_LongBars_1_C_P (orc : Orc) : (c_impl_LongBars_1_C orc).P = Try.prog := nr rfl
@[simp] theorem c_impl_LongBars_1_C_o (orc : Orc) : (c_impl_LongBars_1_C orc).orc = orc := nr rfl
@[simp] theorem c_impl_LongBars_1_C_r (orc : Orc) : (c_impl_LongBars_1_C orc).res = [.tmp 3] := nr rfl
theorem c_impl_LongBars_1_of {args : List AV} {h : Heap} {R : AV → Heap → Prop} {k : Nat} (ha : args.length = k) {orc : Orc} (hp : Pure Try.prog orc) (hk : Is (c_impl_LongBars_1_C orc) Try.f42 → Run2 (c_impl_LongBars_1_C orc) [.code c_impl_LongBars_1_3] (argEnv 0 args) h (Post R)) (hle : k ≤ 15 := by simp) : ACalls Try.prog 42 args h R :=
  contract2 [] c_impl_LongBars_1_3 [.tmp 3] Try.func42 (by decide +kernel) rfl (by kernel_rfl) (by rw [ha]; exact hle) (by kernel_rfl) hp hk
theorem c_impl_LongBars_1_of0 {args : List AV} {h : Heap} {R : AV → Heap → Prop} {k : Nat} (ha : args.length = k) {orc : Orc} (hp : Pure Try.prog orc) (hk : Is (c_impl_LongBars_1_C orc) Try.f42 → Run2 (c_impl_LongBars_1_C orc) [.code c_impl_LongBars_1_3] (argEnv 0 args) h R) (hle : k ≤ 15 := by simp) : ACalls Try.prog 42 args h R :=
  contract20 [] c_impl_LongBars_1_3 [.tmp 3] Try.func42 (by decide +kernel) rfl (by kernel_rfl) (by rw [ha]; exact hle) (by kernel_rfl) hp hk
theorem LongBars1_t {l : List T} (hv : validB l) (k : Int) (a : T) (ha : a ∈ l) (h : Heap) : ACalls Try.prog 42 [a.av, .ip [.int .i64 k]] h (fun v h' => v = .bool (!decide (a.s = -1) && decide (a.s - a.t < k)) ∧ h' = h) := by
  have hb := T.el_b (hv.el ha)
  refine c_impl_LongBars_1_of0 rfl (lk_pure o_isFinite_k lk_pure0) fun I => ?_
  refine Run2.of I 1000 ?_
  have hw : IntKind.i64.wrap (a.s - a.t) = a.s - a.t := w64 (by omega)
  simp -implicitDefEqProofs [hw]
  grind
abbrev c_impl_LongBars_o0 : List AJ := [.o ⟨(some 3), none, false, .box false 1 (.t 1), none⟩, .o ⟨(some 4), none, false, .mv (.c .nilsl), none⟩, .o ⟨(some 5), none, false, .mv (.c (.int .i64 0)), (some [0, 3])⟩]
def c_impl_LongBars_0 : ACode := .region c_impl_LongBars_o0
abbrev c_impl_LongBars_o1 : List AJ := [.o ⟨(some 6), none, false, .mv (.t 0), none⟩, .o ⟨(some 7), none, false, .call 12 [(.t 6)], none⟩, .o ⟨(some 8), none, false, .un .not (.t 7), (some [0, 3, 8])⟩]
def c_impl_LongBars_1 : ACode := .region c_impl_LongBars_o1
abbrev c_impl_LongBars_o2 : List AJ := [.o ⟨(some 4), none, false, .mv (.c .nilsl), none⟩, .o ⟨(some 5), none, false, .mv (.c (.int .i64 1)), (some [4, 5])⟩]
def c_impl_LongBars_2 : ACode := .region c_impl_LongBars_o2
def c_impl_LongBars_3 : ACode := .seq c_impl_LongBars_2 .ret
def c_impl_LongBars_4 : ACode := .cond (.t 8) c_impl_LongBars_3 .skip
def c_impl_LongBars_5 : ACode := .seq c_impl_LongBars_1 c_impl_LongBars_4
abbrev c_impl_LongBars_o3 : List AJ := [.o ⟨(some 9), none, false, .load 1 false (.t 3), none⟩, .o ⟨(some 10), none, false, .call 30 [(.t 9)], none⟩, .o ⟨(some 11), none, false, .un .not (.t 10), (some [0, 3, 11])⟩]
def c_impl_LongBars_6 : ACode := .region c_impl_LongBars_o3
abbrev c_impl_LongBars_o4 : List AJ := [.o ⟨(some 4), none, false, .mv (.c .nilsl), none⟩, .o ⟨(some 5), none, false, .mv (.c (.int .i64 2)), (some [4, 5])⟩]
def c_impl_LongBars_7 : ACode := .region c_impl_LongBars_o4
def c_impl_LongBars_8 : ACode := .seq c_impl_LongBars_7 .ret
def c_impl_LongBars_9 : ACode := .cond (.t 11) c_impl_LongBars_8 .skip
def c_impl_LongBars_10 : ACode := .seq c_impl_LongBars_6 c_impl_LongBars_9
abbrev c_impl_LongBars_o5 : List AJ := [.o ⟨(some 12), none, false, .mv (.t 0), none⟩, .o ⟨(some 13), none, false, .call 41 [(.t 12)], none⟩, .o ⟨(some 14), none, false, .mkfn 42 [(.t 3)], none⟩, .o ⟨(some 15), none, false, .call 40 [(.t 13), (.t 14)], none⟩, .o ⟨(some 4), none, false, .mv (.t 15), none⟩, .o ⟨(some 5), none, false, .mv (.c (.int .i64 0)), (some [4, 5])⟩]
def c_impl_LongBars_11 : ACode := .region c_impl_LongBars_o5
def c_impl_LongBars_12 : ACode := .seq c_impl_LongBars_11 .ret
def c_impl_LongBars_13 : ACode := .seq c_impl_LongBars_10 c_impl_LongBars_12
def c_impl_LongBars_14 : ACode := .seq c_impl_LongBars_5 c_impl_LongBars_13
def c_impl_LongBars_15 : ACode := .seq c_impl_LongBars_0 c_impl_LongBars_14
section
variable (C : Cx) (n : Nat) (sk : List AItem) (e : Env) (h : Heap) (R : AV → Heap → Prop)
@[simp, simp ↓] theorem c_impl_LongBars_0_r : vc2 C (n + 1) [] (.code c_impl_LongBars_0 :: sk) e h R = (vc2 C n c_impl_LongBars_o0 sk e h R) := nr rfl
@[simp, simp ↓] theorem c_impl_LongBars_1_r : vc2 C (n + 1) [] (.code c_impl_LongBars_1 :: sk) e h R = (vc2 C n c_impl_LongBars_o1 sk e h R) := nr rfl
@[simp, simp ↓] theorem c_impl_LongBars_2_r : vc2 C (n + 1) [] (.code c_impl_LongBars_2 :: sk) e h R = (vc2 C n c_impl_LongBars_o2 sk e h R) := nr rfl
@[simp, simp ↓] theorem c_impl_LongBars_3_r : vc2 C (n + 1) [] (.code c_impl_LongBars_3 :: sk) e h R = (vc2 C n [] (.code c_impl_LongBars_2 :: .code .ret :: sk) e h R) := nr rfl
@[simp, simp ↓] theorem c_impl_LongBars_4_r : vc2 C (n + 1) [] (.code c_impl_LongBars_4 :: sk) e h R = (condK (ev e (.t 8)) (vc2 C n [] (.code c_impl_LongBars_3 :: sk) e h R) (vc2 C n [] (.code .skip :: sk) e h R)) := nr rfl
@[simp, simp ↓] theorem c_impl_LongBars_5_r : vc2 C (n + 1) [] (.code c_impl_LongBars_5 :: sk) e h R = (vc2 C n [] (.code c_impl_LongBars_1 :: .code c_impl_LongBars_4 :: sk) e h R) := nr rfl
@[simp, simp ↓] theorem c_impl_LongBars_6_r : vc2 C (n + 1) [] (.code c_impl_LongBars_6 :: sk) e h R = (vc2 C n c_impl_LongBars_o3 sk e h R) := nr rfl
@[simp, simp ↓] theorem c_impl_LongBars_7_r : vc2 C (n + 1) [] (.code c_impl_LongBars_7 :: sk) e h R = (vc2 C n c_impl_LongBars_o4 sk e h R) := nr rfl
@[simp, simp ↓] theorem c_impl_LongBars_8_r : vc2 C (n + 1) [] (.code c_impl_LongBars_8 :: sk) e h R = (vc2 C n [] (.code c_impl_LongBars_7 :: .code .ret :: sk) e h R) := nr rfl
@[simp, simp ↓] theorem c_impl_LongBars_9_r : vc2 C (n + 1) [] (.code c_impl_LongBars_9 :: sk) e h R = (condK (ev e (.t 11)) (vc2 C n [] (.code c_impl_LongBars_8 :: sk) e h R) (vc2 C n [] (.code .skip :: sk) e h R)) := nr rfl
@[simp, simp ↓] theorem c_impl_LongBars_10_r : vc2 C (n + 1) [] (.code c_impl_LongBars_10 :: sk) e h R = (vc2 C n [] (.code c_impl_LongBars_6 :: .code c_impl_LongBars_9 :: sk) e h R) := nr rfl
@[simp, simp ↓] theorem c_impl_LongBars_11_r : vc2 C (n + 1) [] (.code c_impl_LongBars_11 :: sk) e h R = (vc2 C n c_impl_LongBars_o5 sk e h R) := nr rfl
@[simp, simp ↓] theorem c_impl_LongBars_12_r : vc2 C (n + 1) [] (.code c_impl_LongBars_12 :: sk) e h R = (vc2 C n [] (.code c_impl_LongBars_11 :: .code .ret :: sk) e h R) := nr rfl
@[simp, simp ↓] theorem c_impl_LongBars_13_r : vc2 C (n + 1) [] (.code c_impl_LongBars_13 :: sk) e h R = (vc2 C n [] (.code c_impl_LongBars_10 :: .code c_impl_LongBars_12 :: sk) e h R) := nr rfl
@[simp, simp ↓] theorem c_impl_LongBars_14_r : vc2 C (n + 1) [] (.code c_impl_LongBars_14 :: sk) e h R = (vc2 C n [] (.code c_impl_LongBars_5 :: .code c_impl_LongBars_13 :: sk) e h R) := nr rfl
@[simp, simp ↓] theorem c_impl_LongBars_15_r : vc2 C (n + 1) [] (.code c_impl_LongBars_15 :: sk) e h R = (vc2 C n [] (.code c_impl_LongBars_0 :: .code c_impl_LongBars_14 :: sk) e h R) := nr rfl
end
noncomputable def c_impl_LongBars_C (orc : Orc) : Cx := ⟨Try.prog, [], 20, 16, [.tmp 4, .tmp 5], orc⟩
@[simp] theorem c_impl_LongBars_C_P (orc : Orc) : (c_impl_LongBars_C orc).P = Try.prog := nr rfl
@[simp] theorem c_impl_LongBars_C_o (orc : Orc) : (c_impl_LongBars_C orc).orc = orc := nr rfl
@[simp] theorem c_impl_LongBars_C_r (orc : Orc) : (c_impl_LongBars_C orc).res = [.tmp 4, .tmp 5] := nr rfl
theorem c_impl_LongBars_of {args : List AV} {h : Heap} {R : AV → Heap → Prop} {k : Nat} (ha : args.length = k) {orc : Orc} (hp : Pure Try.prog orc) (hk : Is (c_impl_LongBars_C orc) Try.f20 → Run2 (c_impl_LongBars_C orc) [.code c_impl_LongBars_15] (argEnv 0 args) h (Post R)) (hle : k ≤ 16 := by simp) : ACalls Try.prog 20 args h R :=
  contract2 [] c_impl_LongBars_15 [.tmp 4, .tmp 5] Try.func20 (by decide +kernel) rfl (by kernel_rfl) (by rw [ha]; exact hle) (by kernel_rfl) hp hk
theorem c_impl_LongBars_of0 {args : List AV} {h : Heap} {R : AV → Heap → Prop} {k : Nat} (ha : args.length = k) {orc : Orc} (hp : Pure Try.prog orc) (hk : Is (c_impl_LongBars_C orc) Try.f20 → Run2 (c_impl_LongBars_C orc) [.code c_impl_LongBars_15] (argEnv 0 args) h R) (hle : k ≤ 16 := by simp) : ACalls Try.prog 20 args h R :=
  contract20 [] c_impl_LongBars_15 [.tmp 4, .tmp 5] Try.func20 (by decide +kernel) rfl (by kernel_rfl) (by rw [ha]; exact hle) (by kernel_rfl) hp hk
theorem implLong_o (l : List T) (k : Int) (hl : l.length ≤ 1048576) (ok : okB l) : ACalls Try.prog 20 [.snap 3 (l.map T.av), .int .i64 k] [] (fun v h' => ∃ w, v = .tup [w, .int .i64 (longCode l k)] ∧ OwnL T.av 3 w (longL l k) h') := by
  refine c_impl_LongBars_of0 rfl orcV_p fun I => ?_
  refine Run2.of I 1000 ?_
  by_cases hv : validB l
  · by_cases hr : 0 ≤ k ∧ k ≤ 1000
    · have hc : longCode l k = 0 := by simp [longCode, hv, hr]
      have hn : longL l k = longB l k := by simp [longL, hc]
      simp -implicitDefEqProofs [hl, ok, hv, hr.1, hr.2]
      refine (CloneB_w l [] hl).mono ?_
      rintro v h' ⟨hp, G, rfl⟩
      refine gK.go ?_
      have hG := G.cell
      simp -implicitDefEqProofs [hG]
      refine (DeleteFuncB_o G _ _ _ hl rfl fun a ha h => LongBars1_t hv k a ha h).mono ?_
      intro v h' o
      have hcell := o.cell
      refine gK.go ?_
      simp -implicitDefEqProofs [hcell]
      exact ⟨v, ⟨rfl, hc.symm⟩, by rw [hn]; exact o⟩
    · have hc : longCode l k = 2 := by simp [longCode, hv, hr]
      have hn : longL l k = [] := by simp [longL, hc]
      simp -implicitDefEqProofs [hl, ok, hv, hc, hn]
      repeat' (first | refine And.intro ?_ ?_ | intro _)
      all_goals first | exact .nil | (exfalso; omega)
  · have hc : longCode l k = 1 := by simp [longCode, hv]
    have hn : longL l k = [] := by simp [longL, hc]
    simp -implicitDefEqProofs [hl, ok, hv, hc, hn]
    exact .nil
abbrev c_spec_LongBars_o0 : List AJ := [.o ⟨(some 4), none, false, .mv (.c .nilsl), none⟩, .o ⟨(some 5), none, false, .mv (.c (.int .i64 0)), (some [0, 1])⟩]
def c_spec_LongBars_0 : ACode := .region c_spec_LongBars_o0
abbrev c_spec_LongBars_o1 : List AJ := [.o ⟨(some 8), none, false, .mv (.t 0), none⟩, .o ⟨(some 9), none, false, .call 27 [(.t 8)], none⟩, .o ⟨(some 10), none, false, .un .not (.t 9), (some [0, 1, 10])⟩]
def c_spec_LongBars_1 : ACode := .region c_spec_LongBars_o1
abbrev c_spec_LongBars_o2 : List AJ := [.o ⟨(some 4), none, false, .mv (.c .nilsl), none⟩, .o ⟨(some 5), none, false, .mv (.c (.int .i64 1)), (some [4, 5])⟩]
def c_spec_LongBars_2 : ACode := .region c_spec_LongBars_o2
def c_spec_LongBars_3 : ACode := .seq c_spec_LongBars_2 .ret
def c_spec_LongBars_4 : ACode := .cond (.t 10) c_spec_LongBars_3 .skip
def c_spec_LongBars_5 : ACode := .seq c_spec_LongBars_1 c_spec_LongBars_4
abbrev c_spec_LongBars_o3 : List AJ := [.o ⟨(some 11), none, false, .mv (.t 1), none⟩, .o ⟨(some 12), none, false, .call 34 [(.t 11)], none⟩, .o ⟨(some 13), none, false, .un .not (.t 12), (some [0, 1, 13])⟩]
def c_spec_LongBars_6 : ACode := .region c_spec_LongBars_o3
abbrev c_spec_LongBars_o4 : List AJ := [.o ⟨(some 4), none, false, .mv (.c .nilsl), none⟩, .o ⟨(some 5), none, false, .mv (.c (.int .i64 2)), (some [4, 5])⟩]
def c_spec_LongBars_7 : ACode := .region c_spec_LongBars_o4
def c_spec_LongBars_8 : ACode := .seq c_spec_LongBars_7 .ret
def c_spec_LongBars_9 : ACode := .cond (.t 13) c_spec_LongBars_8 .skip
def c_spec_LongBars_10 : ACode := .seq c_spec_LongBars_6 c_spec_LongBars_9
abbrev c_spec_LongBars_o5 : List AJ := [.e 14 3 none, .o ⟨(some 6), none, false, .mv (.t 14), (some [0, 1, 6])⟩]
def c_spec_LongBars_11 : ACode := .region c_spec_LongBars_o5
abbrev c_spec_LongBars_o6 : List AJ := [.o ⟨(some 7), none, false, .mv (.c (.int .i64 0)), (some [0, 1, 6, 7])⟩]
def c_spec_LongBars_12 : ACode := .region c_spec_LongBars_o6
abbrev c_spec_LongBars_o7 : List AJ := [.o ⟨(some 15), none, false, .mv (.t 7), none⟩, .o ⟨(some 16), none, false, .mv (.t 0), none⟩, .o ⟨(some 17), none, false, .len (.t 16), none⟩, .o ⟨(some 18), none, false, .bin .lss (.t 15) (.t 17), (some [0, 1, 6, 7, 18])⟩]
def c_spec_LongBars_13 : ACode := .region c_spec_LongBars_o7
def c_spec_LongBars_14 : ACode := .cond (.t 18) .skip (.exit 0)
def c_spec_LongBars_15 : ACode := .seq c_spec_LongBars_13 c_spec_LongBars_14
abbrev c_spec_LongBars_o8 : List AI := [⟨(some 21), none, false, .mv (.t 0), none⟩, ⟨(some 22), none, false, .mv (.t 7), none⟩, ⟨(some 23), none, false, .idxA 3 (.t 21) (.t 22), none⟩, ⟨(some 24), none, false, .fieldA 2 (.t 23), none⟩, ⟨(some 25), none, false, .load 1 false (.t 24), none⟩, ⟨(some 26), none, false, .bin .eql (.t 25) (.c (.int .i64 (-1))), none⟩, ⟨(some 27), none, false, .mv (.t 26), none⟩, ⟨(some 28), (some (27, false)), false, .mv (.t 0), none⟩, ⟨(some 29), (some (27, false)), false, .mv (.t 7), none⟩, ⟨(some 30), (some (27, false)), false, .idxA 3 (.t 28) (.t 29), none⟩, ⟨(some 31), (some (27, false)), false, .fieldA 2 (.t 30), (some [0, 1, 6, 7, 27, 31])⟩, ⟨(some 32), (some (27, false)), false, .load 1 false (.t 31), none⟩, ⟨(some 33), (some (27, false)), false, .mv (.t 0), none⟩, ⟨(some 34), (some (27, false)), false, .mv (.t 7), none⟩, ⟨(some 35), (some (27, false)), false, .idxA 3 (.t 33) (.t 34), none⟩, ⟨(some 36), (some (27, false)), false, .fieldA 1 (.t 35), none⟩, ⟨(some 37), (some (27, false)), false, .load 1 false (.t 36), none⟩, ⟨(some 38), (some (27, false)), true, .bin .sub (.t 32) (.t 37), (some [0, 1, 6, 7, 27, 38])⟩, ⟨(some 39), (some (27, false)), false, .mv (.t 1), none⟩, ⟨(some 40), (some (27, false)), false, .bin .geq (.t 38) (.t 39), none⟩, ⟨(some 41), none, false, .pick (.t 27) (.c (.bool true)) (.t 40), (some [0, 1, 6, 7, 41])⟩]
def c_spec_LongBars_16 : ACode := .draw c_spec_LongBars_o8 [] rfl
abbrev c_spec_LongBars_o9 : List AJ := [.o ⟨(some 42), none, false, .mv (.t 6), none⟩, .o ⟨(some 43), none, false, .mv (.t 0), none⟩, .o ⟨(some 44), none, false, .mv (.t 7), none⟩, .o ⟨(some 45), none, false, .idxA 3 (.t 43) (.t 44), none⟩, .o ⟨(some 46), none, false, .load 3 true (.t 45), none⟩, .o ⟨(some 47), none, false, .bsl false 3 [(.t 46)], none⟩, .o ⟨(some 48), none, false, .append 3 24 (.t 42) (.t 47), none⟩, .o ⟨(some 6), none, false, .mv (.t 48), (some [0, 1, 6, 7])⟩]
def c_spec_LongBars_17 : ACode := .region c_spec_LongBars_o9
def c_spec_LongBars_18 : ACode := .cond (.t 41) c_spec_LongBars_17 .skip
def c_spec_LongBars_19 : ACode := .seq c_spec_LongBars_16 c_spec_LongBars_18
def c_spec_LongBars_20 : ACode := .block 1 c_spec_LongBars_19
abbrev c_spec_LongBars_o10 : List AJ := [.o ⟨(some 19), none, false, .mv (.t 7), none⟩, .o ⟨(some 20), none, true, .bin .add (.t 19) (.c (.int .i64 1)), none⟩, .o ⟨(some 7), none, false, .mv (.t 20), (some [0, 1, 6, 7])⟩]
def c_spec_LongBars_21 : ACode := .region c_spec_LongBars_o10
def c_spec_LongBars_22 : ACode := .seq c_spec_LongBars_20 c_spec_LongBars_21
def c_spec_LongBars_23 : ACode := .seq c_spec_LongBars_15 c_spec_LongBars_22
def c_spec_LongBars_24 : ACode := .loop c_spec_LongBars_23
def c_spec_LongBars_25 : ACode := .block 0 c_spec_LongBars_24
def c_spec_LongBars_26 : ACode := .seq c_spec_LongBars_12 c_spec_LongBars_25
abbrev c_spec_LongBars_o11 : List AJ := [.o ⟨(some 49), none, false, .mv (.t 6), none⟩, .o ⟨(some 4), none, false, .mv (.t 49), none⟩, .o ⟨(some 5), none, false, .mv (.c (.int .i64 0)), (some [4, 5])⟩]
def c_spec_LongBars_27 : ACode := .region c_spec_LongBars_o11
def c_spec_LongBars_28 : ACode := .seq c_spec_LongBars_27 .ret
def c_spec_LongBars_29 : ACode := .seq c_spec_LongBars_26 c_spec_LongBars_28
def c_spec_LongBars_30 : ACode := .seq c_spec_LongBars_11 c_spec_LongBars_29
def c_spec_LongBars_31 : ACode := .seq c_spec_LongBars_10 c_spec_LongBars_30
def c_spec_LongBars_32 : ACode := .seq c_spec_LongBars_5 c_spec_LongBars_31
def c_spec_LongBars_33 : ACode := .seq c_spec_LongBars_0 c_spec_LongBars_32
section
variable (C : Cx) (n : Nat) (sk : List AItem) (e : Env) (h : Heap) (R : AV → Heap → Prop)
@[simp, simp ↓] theorem c_spec_LongBars_0_r : vc2 C (n + 1) [] (.code c_spec_LongBars_0 :: sk) e h R = (vc2 C n c_spec_LongBars_o0 sk e h R) := nr rfl
@[simp, simp ↓] theorem c_spec_LongBars_1_r : vc2 C (n + 1) [] (.code c_spec_LongBars_1 :: sk) e h R = (vc2 C n c_spec_LongBars_o1 sk e h R) := nr rfl
@[simp, simp ↓] theorem c_spec_LongBars_2_r : vc2 C (n + 1) [] (.code c_spec_LongBars_2 :: sk) e h R = (vc2 C n c_spec_LongBars_o2 sk e h R) := nr rfl
@[simp, simp ↓] theorem c_spec_LongBars_3_r : vc2 C (n + 1) [] (.code c_spec_LongBars_3 :: sk) e h R = (vc2 C n [] (.code c_spec_LongBars_2 :: .code .ret :: sk) e h R) := nr rfl
@[simp, simp ↓] theorem c_spec_LongBars_4_r : vc2 C (n + 1) [] (.code c_spec_LongBars_4 :: sk) e h R = (condK (ev e (.t 10)) (vc2 C n [] (.code c_spec_LongBars_3 :: sk) e h R) (vc2 C n [] (.code .skip :: sk) e h R)) := nr rfl
@[simp, simp ↓] theorem c_spec_LongBars_5_r : vc2 C (n + 1) [] (.code c_spec_LongBars_5 :: sk) e h R = (vc2 C n [] (.code c_spec_LongBars_1 :: .code c_spec_LongBars_4 :: sk) e h R) := nr rfl
@[simp, simp ↓] theorem c_spec_LongBars_6_r : vc2 C (n + 1) [] (.code c_spec_LongBars_6 :: sk) e h R = (vc2 C n c_spec_LongBars_o3 sk e h R) := nr rfl
@[simp, simp ↓] theorem c_spec_LongBars_7_r : vc2 C (n + 1) [] (.code c_spec_LongBars_7 :: sk) e h R = (vc2 C n c_spec_LongBars_o4 sk e h R) := nr rfl
@[simp, simp ↓] theorem c_spec_LongBars_8_r : vc2 C (n + 1) [] (.code c_spec_LongBars_8 :: sk) e h R = (vc2 C n [] (.code c_spec_LongBars_7 :: .code .ret :: sk) e h R) := nr rfl
@[simp, simp ↓] theorem c_spec_LongBars_9_r : vc2 C (n + 1) [] (.code c_spec_LongBars_9 :: sk) e h R = (condK (ev e (.t 13)) (vc2 C n [] (.code c_spec_LongBars_8 :: sk) e h R) (vc2 C n [] (.code .skip :: sk) e h R)) := nr rfl
@[simp, simp ↓] theorem c_spec_LongBars_10_r : vc2 C (n + 1) [] (.code c_spec_LongBars_10 :: sk) e h R = (vc2 C n [] (.code c_spec_LongBars_6 :: .code c_spec_LongBars_9 :: sk) e h R) := nr rfl
@[simp, simp ↓] theorem c_spec_LongBars_11_r : vc2 C (n + 1) [] (.code c_spec_LongBars_11 :: sk) e h R = (vc2 C n c_spec_LongBars_o5 sk e h R) := nr rfl
@[simp, simp ↓] theorem c_spec_LongBars_12_r : vc2 C (n + 1) [] (.code c_spec_LongBars_12 :: sk) e h R = (vc2 C n c_spec_LongBars_o6 sk e h R) := nr rfl
@[simp, simp ↓] theorem c_spec_LongBars_13_r : vc2 C (n + 1) [] (.code c_spec_LongBars_13 :: sk) e h R = (vc2 C n c_spec_LongBars_o7 sk e h R) := nr rfl
@[simp, simp ↓] theorem c_spec_LongBars_14_r : vc2 C (n + 1) [] (.code c_spec_LongBars_14 :: sk) e h R = (condK (ev e (.t 18)) (vc2 C n [] (.code .skip :: sk) e h R) (vc2 C n [] (.code (.exit 0) :: sk) e h R)) := nr rfl
@[simp, simp ↓] theorem c_spec_LongBars_15_r : vc2 C (n + 1) [] (.code c_spec_LongBars_15 :: sk) e h R = (vc2 C n [] (.code c_spec_LongBars_13 :: .code c_spec_LongBars_14 :: sk) e h R) := nr rfl
@[simp, simp ↓] theorem c_spec_LongBars_16_r : vc2 C (n + 1) [] (.code c_spec_LongBars_16 :: sk) e h R = (draw2 C h (vK C n [] sk R h) c_spec_LongBars_o8 e) := nr rfl
@[simp, simp ↓] theorem c_spec_LongBars_17_r : vc2 C (n + 1) [] (.code c_spec_LongBars_17 :: sk) e h R = (vc2 C n c_spec_LongBars_o9 sk e h R) := nr rfl
@[simp, simp ↓] theorem c_spec_LongBars_18_r : vc2 C (n + 1) [] (.code c_spec_LongBars_18 :: sk) e h R = (condK (ev e (.t 41)) (vc2 C n [] (.code c_spec_LongBars_17 :: sk) e h R) (vc2 C n [] (.code .skip :: sk) e h R)) := nr rfl
@[simp, simp ↓] theorem c_spec_LongBars_19_r : vc2 C (n + 1) [] (.code c_spec_LongBars_19 :: sk) e h R = (vc2 C n [] (.code c_spec_LongBars_16 :: .code c_spec_LongBars_18 :: sk) e h R) := nr rfl
@[simp, simp ↓] theorem c_spec_LongBars_20_r : vc2 C (n + 1) [] (.code c_spec_LongBars_20 :: sk) e h R = (vc2 C n [] (.code c_spec_LongBars_19 :: .inBlock 1 :: sk) e h R) := nr rfl
@[simp, simp ↓] theorem c_spec_LongBars_21_r : vc2 C (n + 1) [] (.code c_spec_LongBars_21 :: sk) e h R = (vc2 C n c_spec_LongBars_o10 sk e h R) := nr rfl
@[simp, simp ↓] theorem c_spec_LongBars_22_r : vc2 C (n + 1) [] (.code c_spec_LongBars_22 :: sk) e h R = (vc2 C n [] (.code c_spec_LongBars_20 :: .code c_spec_LongBars_21 :: sk) e h R) := nr rfl
@[simp, simp ↓] theorem c_spec_LongBars_23_r : vc2 C (n + 1) [] (.code c_spec_LongBars_23 :: sk) e h R = (vc2 C n [] (.code c_spec_LongBars_15 :: .code c_spec_LongBars_22 :: sk) e h R) := nr rfl
@[simp, simp ↓] theorem c_spec_LongBars_24_r : vc2 C (n + 1) [] (.code c_spec_LongBars_24 :: sk) e h R = (Run2 C (.code c_spec_LongBars_23 :: .inLoop c_spec_LongBars_23 :: sk) e h R) := nr rfl
@[simp, simp ↓] theorem c_spec_LongBars_25_r : vc2 C (n + 1) [] (.code c_spec_LongBars_25 :: sk) e h R = (vc2 C n [] (.code c_spec_LongBars_24 :: .inBlock 0 :: sk) e h R) := nr rfl
@[simp, simp ↓] theorem c_spec_LongBars_26_r : vc2 C (n + 1) [] (.code c_spec_LongBars_26 :: sk) e h R = (vc2 C n [] (.code c_spec_LongBars_12 :: .code c_spec_LongBars_25 :: sk) e h R) := nr rfl
@[simp, simp ↓] theorem c_spec_LongBars_27_r : vc2 C (n + 1) [] (.code c_spec_LongBars_27 :: sk) e h R = (vc2 C n c_spec_LongBars_o11 sk e h R) := nr rfl
@[simp, simp ↓] theorem c_spec_LongBars_28_r : vc2 C (n + 1) [] (.code c_spec_LongBars_28 :: sk) e h R = (vc2 C n [] (.code c_spec_LongBars_27 :: .code .ret :: sk) e h R) := nr rfl
@[simp, simp ↓] theorem c_spec_LongBars_29_r : vc2 C (n + 1) [] (.code c_spec_LongBars_29 :: sk) e h R = (vc2 C n [] (.code c_spec_LongBars_26 :: .code c_spec_LongBars_28 :: sk) e h R) := nr rfl
@[simp, simp ↓] theorem c_spec_LongBars_30_r : vc2 C (n + 1) [] (.code c_spec_LongBars_30 :: sk) e h R = (vc2 C n [] (.code c_spec_LongBars_11 :: .code c_spec_LongBars_29 :: sk) e h R) := nr rfl
@[simp, simp ↓] theorem c_spec_LongBars_31_r : vc2 C (n + 1) [] (.code c_spec_LongBars_31 :: sk) e h R = (vc2 C n [] (.code c_spec_LongBars_10 :: .code c_spec_LongBars_30 :: sk) e h R) := nr rfl
@[simp, simp ↓] theorem c_spec_LongBars_32_r : vc2 C (n + 1) [] (.code c_spec_LongBars_32 :: sk) e h R = (vc2 C n [] (.code c_spec_LongBars_5 :: .code c_spec_LongBars_31 :: sk) e h R) := nr rfl
@[simp, simp ↓] theorem c_spec_LongBars_33_r : vc2 C (n + 1) [] (.code c_spec_LongBars_33 :: sk) e h R = (vc2 C n [] (.code c_spec_LongBars_0 :: .code c_spec_LongBars_32 :: sk) e h R) := nr rfl
end
noncomputable def c_spec_LongBars_C (orc : Orc) : Cx := ⟨Try.prog, [14], 19, 50, [.tmp 4, .tmp 5], orc⟩
@[simp] theorem c_spec_LongBars_C_P (orc : Orc) : (c_spec_LongBars_C orc).P = Try.prog := nr rfl
@[simp] theorem c_spec_LongBars_C_o (orc : Orc) : (c_spec_LongBars_C orc).orc = orc := nr rfl
@[simp] theorem c_spec_LongBars_C_r (orc : Orc) : (c_spec_LongBars_C orc).res = [.tmp 4, .tmp 5] := nr rfl
theorem c_spec_LongBars_of {args : List AV} {h : Heap} {R : AV → Heap → Prop} {k : Nat} (ha : args.length = k) {orc : Orc} (hp : Pure Try.prog orc) (hk : Is (c_spec_LongBars_C orc) Try.f19 → Run2 (c_spec_LongBars_C orc) [.code c_spec_LongBars_33] (argEnv 0 args) h (Post R)) (hle : k ≤ 50 := by simp) : ACalls Try.prog 19 args h R :=
  contract2 [14] c_spec_LongBars_33 [.tmp 4, .tmp 5] Try.func19 (by decide +kernel) rfl (by kernel_rfl) (by rw [ha]; exact hle) (by kernel_rfl) hp hk
theorem c_spec_LongBars_of0 {args : List AV} {h : Heap} {R : AV → Heap → Prop} {k : Nat} (ha : args.length = k) {orc : Orc} (hp : Pure Try.prog orc) (hk : Is (c_spec_LongBars_C orc) Try.f19 → Run2 (c_spec_LongBars_C orc) [.code c_spec_LongBars_33] (argEnv 0 args) h R) (hle : k ≤ 50 := by simp) : ACalls Try.prog 19 args h R :=
  contract20 [14] c_spec_LongBars_33 [.tmp 4, .tmp 5] Try.func19 (by decide +kernel) rfl (by kernel_rfl) (by rw [ha]; exact hle) (by kernel_rfl) hp hk
theorem specLong_c (l : List T) (k : Int) (h : Heap) (hl : l.length ≤ 1048576) (ok : okB l) : ACalls Try.prog 19 [.snap 3 (l.map T.av), .int .i64 k] h (fun v h' => v = .tup [.snap 3 ((longL l k).map T.av), .int .i64 (longCode l k)] ∧ h' = h) := by
  refine c_spec_LongBars_of rfl orcV_p fun I => ?_
  refine Run2.of I 1000 ?_
  by_cases hv : validB l
  · by_cases hr : 0 ≤ k ∧ k ≤ 1000
    · have hc : longCode l k = 0 := by simp [longCode, hv, hr]
      have hn : longL l k = longB l k := by simp [longL, hc]
      simp -implicitDefEqProofs [hl, ok, hv, hr.1, hr.2]
      refine Run2.loopE (α := Nat × AV × Heap) (fun s => [(0, .snap 3 (l.map T.av)), (1, .int .i64 k), (6, s.2.1), (7, .int .i64 (s.1 : Nat))]) (fun s => s.2.2 ++ h) (fun s => l.length - s.1) (fun s => s.1 ≤ l.length ∧ Grow 3 s.2.1 ((longB (l.take s.1) k).map T.av) s.2.2) (0, .emp, []) (by simp) rfl ⟨Nat.zero_le _, by simpa [longB] using Grow.emp⟩ ?_
      rintro ⟨i, w, hp'⟩ ⟨hi, hg⟩ ih
      simp only at hi hg
      by_cases hlt : i < l.length
      · have hb := hv.bound hlt
        have hle : (longB (l.take i) k).length ≤ i := Nat.le_trans (List.length_filter_le _ _) (by simp; omega)
        have hs1 : (l[i].s = -1 ∨ k ≤ l[i].s - l[i].t) → longB (l.take (i + 1)) k = longB (l.take i) k ++ [l[i]] := by
          intro h1
          unfold longB
          rw [List.take_succ_eq_append_getElem hlt, List.filter_append]
          congr 1
          rw [List.filter_cons_of_pos (by simpa using h1)]; rfl
        have hs0 : ¬ (l[i].s = -1 ∨ k ≤ l[i].s - l[i].t) → longB (l.take (i + 1)) k = longB (l.take i) k := by
          intro h1
          unfold longB
          rw [List.take_succ_eq_append_getElem hlt, List.filter_append, List.filter_cons_of_neg (by simpa using h1)]
          simp
        have go1 := fun (h1 : l[i].s = -1 ∨ k ≤ l[i].s - l[i].t) w' hp'' (g : Grow 3 w' ((longB (l.take i) k).map T.av ++ [l[i].av]) hp'') => ih (i + 1, w', hp'') ⟨by simp; omega, by rw [hs1 h1]; simpa using g⟩ (by simp; omega)
        have go0 := fun (h1 : ¬ (l[i].s = -1 ∨ k ≤ l[i].s - l[i].t)) => ih (i + 1, w, hp') ⟨by simp; omega, by rw [hs0 h1]; exact hg⟩ (by simp; omega)
        clear ih hs1 hs0
        have hcell := hg.cell
        refine Run2.of I 1000 ?_
        simp -implicitDefEqProofs [hlt, hcell]
        simp at go1 go0
        repeat' (first | refine And.intro ?_ ?_ | intro _)
        all_goals first | omega | (unfold in64; omega) | (exact go0 (by omega) (by omega)) | skip
        all_goals
          refine hg.app (by simp; omega) (by simp) fun w' hp'' hg' => ?_
          have hcell' := hg'.cell
          simp -implicitDefEqProofs [hcell']
          refine ⟨by omega, go1 (by omega) w' hp'' hg'⟩
      · have : i = l.length := by omega
        subst this
        rw [List.take_length] at hg
        refine Run2.of I 1000 ?_
        have hcell := hg.cell
        simp -implicitDefEqProofs [hlt, hcell]
        refine hg.froze (fun x => .tup [x, .int .i64 0]) (fun id b x => by simp [fz, fzs]) (fun x y hxy => Wk.tup (.cons hxy (.cons (.refl _) .nil))) (.base ⟨by rw [hc, hn], rfl⟩)
    · have hc : longCode l k = 2 := by simp [longCode, hv, hr]
      have hn : longL l k = [] := by simp [longL, hc]
      simp -implicitDefEqProofs [hl, ok, hv, hc, hn]
      repeat' (first | refine And.intro ?_ ?_ | intro _)
      all_goals first | (exact .wk (Wk.tup (.cons (Wk.nil 3) (.refl _))) (.base ⟨rfl, rfl⟩)) | (exfalso; omega)
  · have hc : longCode l k = 1 := by simp [longCode, hv]
    have hn : longL l k = [] := by simp [longL, hc]
    simp -implicitDefEqProofs [hl, ok, hv, hc, hn]
    exact .wk (Wk.tup (.cons (Wk.nil 3) (.refl _))) (.base ⟨rfl, rfl⟩)
end Go.AG
