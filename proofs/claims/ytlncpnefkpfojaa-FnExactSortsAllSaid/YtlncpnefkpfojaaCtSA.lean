/- Do rounds sort all values: what the program's and the reference's functions give. No statement is made here. -/
import Derived.Test.YtlncpnefkpfojaaCtEx
namespace Go.AG
open Go.Proofs Go.Proofs.Ytlncpnefkpfojaa
set_option linter.unusedSimpArgs false
set_option linter.unusedVariables false
set_option maxRecDepth 4000
def sortedP (l : List Int) : Prop := ∀ j (h : j + 1 < l.length), l[j] ≤ l[j + 1]
noncomputable instance (l : List Int) : Decidable (sortedP l) := Classical.propDecidable _
abbrev c_cmp_Less_int64_o0 : List AJ := [.o ⟨(some 4), none, false, .mv (.c (.bool false)), (some [0, 1])⟩]
def c_cmp_Less_int64_0 : ACode := .region c_cmp_Less_int64_o0
abbrev c_cmp_Less_int64_o1 : List AJ := [.o ⟨(some 5), none, false, .mv (.t 0), none⟩, .o ⟨(some 6), none, false, .call 145 [(.t 5)], none⟩, .o ⟨(some 7), none, false, .mv (.t 6), none⟩, .o ⟨(some 8), (some (7, true)), false, .mv (.t 1), none⟩, .o ⟨(some 9), (some (7, true)), false, .call 145 [(.t 8)], none⟩, .o ⟨(some 10), (some (7, true)), false, .un .not (.t 9), none⟩, .o ⟨(some 11), none, false, .pick (.t 7) (.t 10) (.c (.bool false)), none⟩, .o ⟨(some 12), none, false, .mv (.t 11), none⟩, .o ⟨(some 13), (some (12, false)), false, .mv (.t 0), none⟩, .o ⟨(some 14), (some (12, false)), false, .mv (.t 1), (some [12, 13, 14])⟩, .o ⟨(some 15), (some (12, false)), false, .bin .lss (.t 13) (.t 14), none⟩, .o ⟨(some 16), none, false, .pick (.t 12) (.c (.bool true)) (.t 15), none⟩, .o ⟨(some 4), none, false, .mv (.t 16), (some [4])⟩]
def c_cmp_Less_int64_1 : ACode := .region c_cmp_Less_int64_o1
def c_cmp_Less_int64_2 : ACode := .seq c_cmp_Less_int64_1 .ret
def c_cmp_Less_int64_3 : ACode := .seq c_cmp_Less_int64_0 c_cmp_Less_int64_2
section
variable (C : Cx) (n : Nat) (sk : List AItem) (e : Env) (h : Heap) (R : AV → Heap → Prop)
@[simp, simp ↓] theorem c_cmp_Less_int64_0_r : vc2 C (n + 1) [] (.code c_cmp_Less_int64_0 :: sk) e h R = (vc2 C n c_cmp_Less_int64_o0 sk e h R) := nr rfl
@[simp, simp ↓] theorem c_cmp_Less_int64_1_r : vc2 C (n + 1) [] (.code c_cmp_Less_int64_1 :: sk) e h R = (vc2 C n c_cmp_Less_int64_o1 sk e h R) := nr rfl
@[simp, simp ↓] theorem c_cmp_Less_int64_2_r : vc2 C (n + 1) [] (.code c_cmp_Less_int64_2 :: sk) e h R = (vc2 C n [] (.code c_cmp_Less_int64_1 :: .code .ret :: sk) e h R) := nr rfl
@[simp, simp ↓] theorem c_cmp_Less_int64_3_r : vc2 C (n + 1) [] (.code c_cmp_Less_int64_3 :: sk) e h R = (vc2 C n [] (.code c_cmp_Less_int64_0 :: .code c_cmp_Less_int64_2 :: sk) e h R) := nr rfl
end
noncomputable def c_cmp_Less_int64_C (orc : Orc) : Cx := ⟨Try.prog, [], 119, 17, [.tmp 4], orc⟩
@[simp] theorem c_cmp_Less_int64_C_P (orc : Orc) : (c_cmp_Less_int64_C orc).P = Try.prog := nr rfl
@[simp] theorem c_cmp_Less_int64_C_o (orc : Orc) : (c_cmp_Less_int64_C orc).orc = orc := nr rfl
@[simp] theorem c_cmp_Less_int64_C_r (orc : Orc) : (c_cmp_Less_int64_C orc).res = [.tmp 4] := nr rfl
theorem c_cmp_Less_int64_of {args : List AV} {h : Heap} {R : AV → Heap → Prop} {k : Nat} (ha : args.length = k) {orc : Orc} (hp : Pure Try.prog orc) (hk : Is (c_cmp_Less_int64_C orc) Try.f119 → Run2 (c_cmp_Less_int64_C orc) [.code c_cmp_Less_int64_3] (argEnv 0 args) h (Post R)) (hle : k ≤ 17 := by simp) : ACalls Try.prog 119 args h R :=
  contract2 [] c_cmp_Less_int64_3 [.tmp 4] Try.func119 (by decide +kernel) rfl (by kernel_rfl) (by rw [ha]; exact hle) (by kernel_rfl) hp hk
theorem c_cmp_Less_int64_of0 {args : List AV} {h : Heap} {R : AV → Heap → Prop} {k : Nat} (ha : args.length = k) {orc : Orc} (hp : Pure Try.prog orc) (hk : Is (c_cmp_Less_int64_C orc) Try.f119 → Run2 (c_cmp_Less_int64_C orc) [.code c_cmp_Less_int64_3] (argEnv 0 args) h R) (hle : k ≤ 17 := by simp) : ACalls Try.prog 119 args h R :=
  contract20 [] c_cmp_Less_int64_3 [.tmp 4] Try.func119 (by decide +kernel) rfl (by kernel_rfl) (by rw [ha]; exact hle) (by kernel_rfl) hp hk
theorem Less_c (a b : Int) (h : Heap) : ACalls Try.prog 119 [.int .i64 a, .int .i64 b] h (fun v h' => v = .bool (decide (a < b)) ∧ h' = h) := by
  refine c_cmp_Less_int64_of0 rfl orc1_p fun I => ?_
  refine Run2.of I 1000 ?_
  simp -implicitDefEqProofs
noncomputable def o_less : List AV → Option (Prop × AV) := tab (fun (x : Int × Int) => match x with | (a, b) => [.int .i64 a, .int .i64 b]) (fun x => match x with | (a, b) => True) (fun x => match x with | (a, b) => .bool (decide (a < b)))
@[simp] theorem o_less_e (a : Int) (b : Int) : o_less [.int .i64 a, .int .i64 b] = some (True, .bool (decide (a < b))) := tab_at (enc := fun (x : Int × Int) => match x with | (a, b) => [.int .i64 a, .int .i64 b]) (fun x y h => by
  obtain ⟨a1, b1⟩ := x; obtain ⟨a2, b2⟩ := y; simp at h; simp [h]) _ _ (a, b)
theorem o_less_k : Knows Try.prog 119 o_less := tab_knows fun x hx h => by
  obtain ⟨a, b⟩ := x; exact Less_c a b h
abbrev c_slices_IsSorted_int64_int64_o0 : List AJ := [.o ⟨(some 2), none, false, .mv (.c (.bool false)), (some [0])⟩]
def c_slices_IsSorted_int64_int64_0 : ACode := .region c_slices_IsSorted_int64_int64_o0
abbrev c_slices_IsSorted_int64_int64_o1 : List AJ := [.o ⟨(some 4), none, false, .mv (.t 0), none⟩, .o ⟨(some 5), none, false, .len (.t 4), none⟩, .o ⟨(some 6), none, true, .bin .sub (.t 5) (.c (.int .i64 1)), none⟩, .o ⟨(some 3), none, false, .mv (.t 6), (some [0, 3])⟩]
def c_slices_IsSorted_int64_int64_1 : ACode := .region c_slices_IsSorted_int64_int64_o1
abbrev c_slices_IsSorted_int64_int64_o2 : List AJ := [.o ⟨(some 7), none, false, .mv (.t 3), none⟩, .o ⟨(some 8), none, false, .bin .gtr (.t 7) (.c (.int .i64 0)), (some [0, 3, 8])⟩]
def c_slices_IsSorted_int64_int64_2 : ACode := .region c_slices_IsSorted_int64_int64_o2
def c_slices_IsSorted_int64_int64_3 : ACode := .cond (.t 8) .skip (.exit 0)
def c_slices_IsSorted_int64_int64_4 : ACode := .seq c_slices_IsSorted_int64_int64_2 c_slices_IsSorted_int64_int64_3
abbrev c_slices_IsSorted_int64_int64_o3 : List AI := [⟨(some 11), none, false, .mv (.t 0), none⟩, ⟨(some 12), none, false, .mv (.t 3), none⟩, ⟨(some 13), none, false, .idxA 1 (.t 11) (.t 12), none⟩, ⟨(some 14), none, false, .load 1 false (.t 13), none⟩, ⟨(some 15), none, false, .mv (.t 0), none⟩, ⟨(some 16), none, false, .mv (.t 3), none⟩, ⟨(some 17), none, true, .bin .sub (.t 16) (.c (.int .i64 1)), none⟩, ⟨(some 18), none, false, .idxA 1 (.t 15) (.t 17), none⟩, ⟨(some 19), none, false, .load 1 false (.t 18), none⟩, ⟨(some 20), none, false, .call 119 [(.t 14), (.t 19)], (some [0, 3, 20])⟩]
def c_slices_IsSorted_int64_int64_5 : ACode := .draw c_slices_IsSorted_int64_int64_o3 [] rfl
abbrev c_slices_IsSorted_int64_int64_o4 : List AJ := [.o ⟨(some 2), none, false, .mv (.c (.bool false)), (some [2])⟩]
def c_slices_IsSorted_int64_int64_6 : ACode := .region c_slices_IsSorted_int64_int64_o4
def c_slices_IsSorted_int64_int64_7 : ACode := .seq c_slices_IsSorted_int64_int64_6 .ret
def c_slices_IsSorted_int64_int64_8 : ACode := .cond (.t 20) c_slices_IsSorted_int64_int64_7 .skip
def c_slices_IsSorted_int64_int64_9 : ACode := .seq c_slices_IsSorted_int64_int64_5 c_slices_IsSorted_int64_int64_8
def c_slices_IsSorted_int64_int64_10 : ACode := .block 1 c_slices_IsSorted_int64_int64_9
abbrev c_slices_IsSorted_int64_int64_o5 : List AJ := [.o ⟨(some 9), none, false, .mv (.t 3), none⟩, .o ⟨(some 10), none, true, .bin .sub (.t 9) (.c (.int .i64 1)), none⟩, .o ⟨(some 3), none, false, .mv (.t 10), (some [0, 3])⟩]
def c_slices_IsSorted_int64_int64_11 : ACode := .region c_slices_IsSorted_int64_int64_o5
def c_slices_IsSorted_int64_int64_12 : ACode := .seq c_slices_IsSorted_int64_int64_10 c_slices_IsSorted_int64_int64_11
def c_slices_IsSorted_int64_int64_13 : ACode := .seq c_slices_IsSorted_int64_int64_4 c_slices_IsSorted_int64_int64_12
def c_slices_IsSorted_int64_int64_14 : ACode := .loop c_slices_IsSorted_int64_int64_13
def c_slices_IsSorted_int64_int64_15 : ACode := .block 0 c_slices_IsSorted_int64_int64_14
def c_slices_IsSorted_int64_int64_16 : ACode := .seq c_slices_IsSorted_int64_int64_1 c_slices_IsSorted_int64_int64_15
abbrev c_slices_IsSorted_int64_int64_o6 : List AJ := [.o ⟨(some 2), none, false, .mv (.c (.bool true)), (some [2])⟩]
def c_slices_IsSorted_int64_int64_17 : ACode := .region c_slices_IsSorted_int64_int64_o6
def c_slices_IsSorted_int64_int64_18 : ACode := .seq c_slices_IsSorted_int64_int64_17 .ret
def c_slices_IsSorted_int64_int64_19 : ACode := .seq c_slices_IsSorted_int64_int64_16 c_slices_IsSorted_int64_int64_18
def c_slices_IsSorted_int64_int64_20 : ACode := .seq c_slices_IsSorted_int64_int64_0 c_slices_IsSorted_int64_int64_19
section
variable (C : Cx) (n : Nat) (sk : List AItem) (e : Env) (h : Heap) (R : AV → Heap → Prop)
@[simp, simp ↓] theorem c_slices_IsSorted_int64_int64_0_r : vc2 C (n + 1) [] (.code c_slices_IsSorted_int64_int64_0 :: sk) e h R = (vc2 C n c_slices_IsSorted_int64_int64_o0 sk e h R) := nr rfl
@[simp, simp ↓] theorem c_slices_IsSorted_int64_int64_1_r : vc2 C (n + 1) [] (.code c_slices_IsSorted_int64_int64_1 :: sk) e h R = (vc2 C n c_slices_IsSorted_int64_int64_o1 sk e h R) := nr rfl
@[simp, simp ↓] theorem c_slices_IsSorted_int64_int64_2_r : vc2 C (n + 1) [] (.code c_slices_IsSorted_int64_int64_2 :: sk) e h R = (vc2 C n c_slices_IsSorted_int64_int64_o2 sk e h R) := nr rfl
@[simp, simp ↓] theorem c_slices_IsSorted_int64_int64_3_r : vc2 C (n + 1) [] (.code c_slices_IsSorted_int64_int64_3 :: sk) e h R = (condK (ev e (.t 8)) (vc2 C n [] (.code .skip :: sk) e h R) (vc2 C n [] (.code (.exit 0) :: sk) e h R)) := nr rfl
@[simp, simp ↓] theorem c_slices_IsSorted_int64_int64_4_r : vc2 C (n + 1) [] (.code c_slices_IsSorted_int64_int64_4 :: sk) e h R = (vc2 C n [] (.code c_slices_IsSorted_int64_int64_2 :: .code c_slices_IsSorted_int64_int64_3 :: sk) e h R) := nr rfl
@[simp, simp ↓] theorem c_slices_IsSorted_int64_int64_5_r : vc2 C (n + 1) [] (.code c_slices_IsSorted_int64_int64_5 :: sk) e h R = (draw2 C h (vK C n [] sk R h) c_slices_IsSorted_int64_int64_o3 e) := nr rfl
@[simp, simp ↓] theorem c_slices_IsSorted_int64_int64_6_r : vc2 C (n + 1) [] (.code c_slices_IsSorted_int64_int64_6 :: sk) e h R = (vc2 C n c_slices_IsSorted_int64_int64_o4 sk e h R) := nr rfl
@[simp, simp ↓] theorem c_slices_IsSorted_int64_int64_7_r : vc2 C (n + 1) [] (.code c_slices_IsSorted_int64_int64_7 :: sk) e h R = (vc2 C n [] (.code c_slices_IsSorted_int64_int64_6 :: .code .ret :: sk) e h R) := nr rfl
@[simp, simp ↓] theorem c_slices_IsSorted_int64_int64_8_r : vc2 C (n + 1) [] (.code c_slices_IsSorted_int64_int64_8 :: sk) e h R = (condK (ev e (.t 20)) (vc2 C n [] (.code c_slices_IsSorted_int64_int64_7 :: sk) e h R) (vc2 C n [] (.code .skip :: sk) e h R)) := nr rfl
@[simp, simp ↓] theorem c_slices_IsSorted_int64_int64_9_r : vc2 C (n + 1) [] (.code c_slices_IsSorted_int64_int64_9 :: sk) e h R = (vc2 C n [] (.code c_slices_IsSorted_int64_int64_5 :: .code c_slices_IsSorted_int64_int64_8 :: sk) e h R) := nr rfl
@[simp, simp ↓] theorem c_slices_IsSorted_int64_int64_10_r : vc2 C (n + 1) [] (.code c_slices_IsSorted_int64_int64_10 :: sk) e h R = (vc2 C n [] (.code c_slices_IsSorted_int64_int64_9 :: .inBlock 1 :: sk) e h R) := nr rfl
@[simp, simp ↓] theorem c_slices_IsSorted_int64_int64_11_r : vc2 C (n + 1) [] (.code c_slices_IsSorted_int64_int64_11 :: sk) e h R = (vc2 C n c_slices_IsSorted_int64_int64_o5 sk e h R) := nr rfl
@[simp, simp ↓] theorem c_slices_IsSorted_int64_int64_12_r : vc2 C (n + 1) [] (.code c_slices_IsSorted_int64_int64_12 :: sk) e h R = (vc2 C n [] (.code c_slices_IsSorted_int64_int64_10 :: .code c_slices_IsSorted_int64_int64_11 :: sk) e h R) := nr rfl
@[simp, simp ↓] theorem c_slices_IsSorted_int64_int64_13_r : vc2 C (n + 1) [] (.code c_slices_IsSorted_int64_int64_13 :: sk) e h R = (vc2 C n [] (.code c_slices_IsSorted_int64_int64_4 :: .code c_slices_IsSorted_int64_int64_12 :: sk) e h R) := nr rfl
@[simp, simp ↓] theorem c_slices_IsSorted_int64_int64_14_r : vc2 C (n + 1) [] (.code c_slices_IsSorted_int64_int64_14 :: sk) e h R = (Run2 C (.code c_slices_IsSorted_int64_int64_13 :: .inLoop c_slices_IsSorted_int64_int64_13 :: sk) e h R) := nr rfl
@[simp, simp ↓] theorem c_slices_IsSorted_int64_int64_15_r : vc2 C (n + 1) [] (.code c_slices_IsSorted_int64_int64_15 :: sk) e h R = (vc2 C n [] (.code c_slices_IsSorted_int64_int64_14 :: .inBlock 0 :: sk) e h R) := nr rfl
@[simp, simp ↓] theorem c_slices_IsSorted_int64_int64_16_r : vc2 C (n + 1) [] (.code c_slices_IsSorted_int64_int64_16 :: sk) e h R = (vc2 C n [] (.code c_slices_IsSorted_int64_int64_1 :: .code c_slices_IsSorted_int64_int64_15 :: sk) e h R) := nr rfl
@[simp, simp ↓] theorem c_slices_IsSorted_int64_int64_17_r : vc2 C (n + 1) [] (.code c_slices_IsSorted_int64_int64_17 :: sk) e h R = (vc2 C n c_slices_IsSorted_int64_int64_o6 sk e h R) := nr rfl
@[simp, simp ↓] theorem c_slices_IsSorted_int64_int64_18_r : vc2 C (n + 1) [] (.code c_slices_IsSorted_int64_int64_18 :: sk) e h R = (vc2 C n [] (.code c_slices_IsSorted_int64_int64_17 :: .code .ret :: sk) e h R) := nr rfl
@[simp, simp ↓] theorem c_slices_IsSorted_int64_int64_19_r : vc2 C (n + 1) [] (.code c_slices_IsSorted_int64_int64_19 :: sk) e h R = (vc2 C n [] (.code c_slices_IsSorted_int64_int64_16 :: .code c_slices_IsSorted_int64_int64_18 :: sk) e h R) := nr rfl
@[simp, simp ↓] theorem c_slices_IsSorted_int64_int64_20_r : vc2 C (n + 1) [] (.code c_slices_IsSorted_int64_int64_20 :: sk) e h R = (vc2 C n [] (.code c_slices_IsSorted_int64_int64_0 :: .code c_slices_IsSorted_int64_int64_19 :: sk) e h R) := nr rfl
end
noncomputable def c_slices_IsSorted_int64_int64_C (orc : Orc) : Cx := ⟨Try.prog, [], 80, 21, [.tmp 2], orc⟩
@[simp] theorem c_slices_IsSorted_int64_int64_C_P (orc : Orc) : (c_slices_IsSorted_int64_int64_C orc).P = Try.prog := nr rfl
@[simp] theorem c_slices_IsSorted_int64_int64_C_o (orc : Orc) : (c_slices_IsSorted_int64_int64_C orc).orc = orc := nr rfl
@[simp] theorem c_slices_IsSorted_int64_int64_C_r (orc : Orc) : (c_slices_IsSorted_int64_int64_C orc).res = [.tmp 2] := nr rfl
theorem c_slices_IsSorted_int64_int64_of {args : List AV} {h : Heap} {R : AV → Heap → Prop} {k : Nat} (ha : args.length = k) {orc : Orc} (hp : Pure Try.prog orc) (hk : Is (c_slices_IsSorted_int64_int64_C orc) Try.f80 → Run2 (c_slices_IsSorted_int64_int64_C orc) [.code c_slices_IsSorted_int64_int64_20] (argEnv 0 args) h (Post R)) (hle : k ≤ 21 := by simp) : ACalls Try.prog 80 args h R :=
  contract2 [] c_slices_IsSorted_int64_int64_20 [.tmp 2] Try.func80 (by decide +kernel) rfl (by kernel_rfl) (by rw [ha]; exact hle) (by kernel_rfl) hp hk
theorem c_slices_IsSorted_int64_int64_of0 {args : List AV} {h : Heap} {R : AV → Heap → Prop} {k : Nat} (ha : args.length = k) {orc : Orc} (hp : Pure Try.prog orc) (hk : Is (c_slices_IsSorted_int64_int64_C orc) Try.f80 → Run2 (c_slices_IsSorted_int64_int64_C orc) [.code c_slices_IsSorted_int64_int64_20] (argEnv 0 args) h R) (hle : k ≤ 21 := by simp) : ACalls Try.prog 80 args h R :=
  contract20 [] c_slices_IsSorted_int64_int64_20 [.tmp 2] Try.func80 (by decide +kernel) rfl (by kernel_rfl) (by rw [ha]; exact hle) (by kernel_rfl) hp hk
theorem IsSorted_s (l : List Int) (h : Heap) (hl : l.length ≤ 1048576) : ACalls Try.prog 80 [.snap 1 (l.map iv)] h (fun v h' => v = .bool (decide (sortedP l)) ∧ h' = h) := by
  refine c_slices_IsSorted_int64_int64_of0 rfl (lk_pure o_less_k lk_pure0) fun I => ?_
  refine Run2.of I 1000 ?_
  simp -implicitDefEqProofs
  refine ⟨by omega, ?_⟩
  by_cases h0 : l = []
  · subst h0
    refine Run2.loopE (α := Unit) (fun _ => [(0, .snap 1 []), (3, .int .i64 (-1))]) (fun _ => h) (fun _ => 0) (fun _ => True) () (by simp) rfl trivial fun _ _ _ => ?_
    refine Run2.of I 1000 ?_
    simp -implicitDefEqProofs
    intro j hj
    simp at hj
  · have hpos : 0 < l.length := List.length_pos_iff.2 h0
    refine Run2.loopE (fun (i : Nat) => [(0, .snap 1 (l.map iv)), (3, .int .i64 i)]) (fun i => h) (fun i => i) (fun i => i < l.length ∧ ∀ j (hj : j + 1 < l.length), i ≤ j → l[j] ≤ l[j + 1]) (l.length - 1) (by
      have : ((l.length - 1 : Nat) : Int) = l.length - 1 := by omega
      simp [this]) rfl ⟨by omega, fun j hj hij => by omega⟩ fun i hi ih => ?_
    cases i with
    | zero =>
      have hs : sortedP l := fun j hj => hi.2 j hj (Nat.zero_le _)
      refine Run2.of I 1000 ?_
      simp -implicitDefEqProofs
      exact hs
    | succ i =>
      have hlt : i + 1 < l.length := hi.1
      have hlt' : i < l.length := by omega
      have hc : ((i : Int) + 1 - 1).toNat = i := by omega
      have hc2 : (i : Int) + 1 - 1 = i := by omega
      have hbad : l[i + 1] < l[i] → ¬ sortedP l := fun h1 h2 => by have := h2 i hlt; omega
      have go := fun (h1 : ¬ l[i + 1] < l[i]) => ih i ⟨hlt', fun j hj hij => by
        rcases Nat.lt_or_ge i j with h | h
        · exact hi.2 j hj h
        · obtain rfl : j = i := by omega
          omega⟩ (by omega)
      clear ih
      refine Run2.of I 1000 ?_
      simp -implicitDefEqProofs [hlt, hlt', hc, hc2]
      simp at go
      repeat' (first | refine And.intro ?_ ?_ | intro _)
      all_goals first | omega | (unfold in64; omega) | exact absurd ‹sortedP l› (hbad (by omega)) | exact go (by omega)
/-- The values whose bits are those of a number. -/
def bitV (s : Int) (i : Nat) : Int := bits .and .i64 (s.fdiv (2 ^ (min i IntKind.i64.bits))) 1
def vals (n : Nat) (s : Int) : List Int := (List.range n).map (bitV s)
@[simp] theorem vals_length (n : Nat) (s : Int) : (vals n s).length = n := by simp [vals]
theorem vals_succ (n : Nat) (s : Int) : vals (n + 1) s = vals n s ++ [bitV s n] := by simp [vals, List.range_succ]
def saTo (x : Gr) (rs : List (List Int)) (times : Int) (k : Nat) : Prop := ∀ s : Nat, s < k → sortedP (runT x exch rs (vals x.n.toNat s) times.toNat)
def Gr.saOk (x : Gr) (rs : List (List Int)) (times : Int) : Prop := ((x.valid ∧ x.rsOk rs) ∧ 0 ≤ times ∧ times ≤ 100) ∧ saTo x rs times (2 ^ x.n.toNat)
noncomputable instance (x : Gr) (rs : List (List Int)) (times : Int) : Decidable (x.saOk rs times) := Classical.propDecidable _
theorem saTo_succ {x : Gr} {rs : List (List Int)} {times : Int} {k : Nat} (h : saTo x rs times k) (h1 : sortedP (runT x exch rs (vals x.n.toNat k) times.toNat)) : saTo x rs times (k + 1) := fun s hs => by
  rcases Nat.lt_or_ge s k with h2 | h2
  · exact h s h2
  · obtain rfl : s = k := by omega
    exact h1
abbrev c_impl_SortsAll_o0 : List AJ := [.o ⟨(some 3), none, false, .box false 2 (.t 0), none⟩, .o ⟨(some 6), none, false, .mv (.c (.bool false)), (some [1, 2, 3])⟩]
def c_impl_SortsAll_0 : ACode := .region c_impl_SortsAll_o0
abbrev c_impl_SortsAll_o1 : List AJ := [.o ⟨(some 10), none, false, .load 2 true (.t 3), none⟩, .o ⟨(some 11), none, false, .mv (.t 1), none⟩, .o ⟨(some 12), none, false, .call 78 [(.t 10), (.t 11)], none⟩, .o ⟨(some 13), none, false, .bin .neq (.t 12) (.c (.int .i64 0)), none⟩, .o ⟨(some 14), none, false, .mv (.t 13), none⟩, .o ⟨(some 15), (some (14, false)), false, .mv (.t 2), none⟩, .o ⟨(some 16), (some (14, false)), false, .call 79 [(.t 15)], none⟩, .o ⟨(some 17), (some (14, false)), false, .un .not (.t 16), none⟩, .o ⟨(some 18), none, false, .pick (.t 14) (.c (.bool true)) (.t 17), (some [1, 2, 3, 18])⟩]
def c_impl_SortsAll_1 : ACode := .region c_impl_SortsAll_o1
abbrev c_impl_SortsAll_o2 : List AJ := [.o ⟨(some 6), none, false, .mv (.c (.bool false)), (some [6])⟩]
def c_impl_SortsAll_2 : ACode := .region c_impl_SortsAll_o2
def c_impl_SortsAll_3 : ACode := .seq c_impl_SortsAll_2 .ret
def c_impl_SortsAll_4 : ACode := .cond (.t 18) c_impl_SortsAll_3 .skip
def c_impl_SortsAll_5 : ACode := .seq c_impl_SortsAll_1 c_impl_SortsAll_4
abbrev c_impl_SortsAll_o3 : List AJ := [.o ⟨(some 19), none, false, .fieldA 0 (.t 3), none⟩, .o ⟨(some 20), none, false, .load 1 false (.t 19), none⟩, .o ⟨(some 21), none, false, .bin .shl (.c (.int .i64 1)) (.t 20), none⟩, .o ⟨(some 22), none, false, .mv (.c (.int .i64 0)), (some [1, 2, 3, 21, 22])⟩]
def c_impl_SortsAll_6 : ACode := .region c_impl_SortsAll_o3
abbrev c_impl_SortsAll_o4 : List AJ := [.o ⟨(some 23), none, false, .bin .lss (.t 22) (.t 21), (some [1, 2, 3, 21, 22, 23])⟩]
def c_impl_SortsAll_7 : ACode := .region c_impl_SortsAll_o4
def c_impl_SortsAll_8 : ACode := .cond (.t 23) .skip (.exit 0)
abbrev c_impl_SortsAll_o5 : List AJ := [.o ⟨(some 24), none, false, .mv (.t 22), none⟩, .o ⟨(some 7), none, false, .mv (.t 24), (some [1, 2, 3, 7, 21, 22])⟩]
def c_impl_SortsAll_9 : ACode := .region c_impl_SortsAll_o5
abbrev c_impl_SortsAll_o6 : List AJ := [.o ⟨(some 25), none, false, .fieldA 0 (.t 3), none⟩, .o ⟨(some 26), none, false, .load 1 false (.t 25), none⟩, .o ⟨(some 27), none, false, .mksl 1 8 (.int .i64 0) (.t 26) (.t 26), none⟩, .o ⟨(some 8), none, false, .mv (.t 27), (some [1, 2, 3, 7, 8, 21, 22])⟩]
def c_impl_SortsAll_10 : ACode := .region c_impl_SortsAll_o6
abbrev c_impl_SortsAll_o7 : List AJ := [.o ⟨(some 28), none, false, .mv (.t 8), none⟩, .o ⟨(some 29), none, false, .len (.t 28), none⟩, .o ⟨(some 30), none, false, .mv (.c (.int .i64 0)), (some [1, 2, 3, 7, 8, 21, 22, 29, 30])⟩]
def c_impl_SortsAll_11 : ACode := .region c_impl_SortsAll_o7
abbrev c_impl_SortsAll_o8 : List AJ := [.o ⟨(some 31), none, false, .bin .lss (.t 30) (.t 29), (some [1, 2, 3, 7, 8, 21, 22, 29, 30, 31])⟩]
def c_impl_SortsAll_12 : ACode := .region c_impl_SortsAll_o8
def c_impl_SortsAll_13 : ACode := .cond (.t 31) .skip (.exit 2)
abbrev c_impl_SortsAll_o9 : List AJ := [.o ⟨(some 32), none, false, .mv (.t 30), none⟩, .o ⟨(some 9), none, false, .mv (.t 32), (some [1, 2, 3, 7, 8, 9, 21, 22, 29, 30])⟩]
def c_impl_SortsAll_14 : ACode := .region c_impl_SortsAll_o9
abbrev c_impl_SortsAll_o10 : List AJ := [.o ⟨(some 33), none, false, .mv (.t 8), none⟩, .o ⟨(some 34), none, false, .mv (.t 9), none⟩, .o ⟨(some 35), none, false, .mv (.t 7), none⟩, .o ⟨(some 36), none, false, .mv (.t 9), none⟩, .o ⟨(some 37), none, false, .bin .shr (.t 35) (.t 36), none⟩, .o ⟨(some 38), none, false, .bin .and (.t 37) (.c (.int .i64 1)), none⟩, .o ⟨(some 39), none, false, .idxA 1 (.t 33) (.t 34), none⟩, .o ⟨none, none, false, .store 1 (.t 39) (.t 38), (some [1, 2, 3, 7, 8, 21, 22, 29, 30])⟩]
def c_impl_SortsAll_15 : ACode := .region c_impl_SortsAll_o10
def c_impl_SortsAll_16 : ACode := .seq c_impl_SortsAll_14 c_impl_SortsAll_15
def c_impl_SortsAll_17 : ACode := .block 3 c_impl_SortsAll_16
abbrev c_impl_SortsAll_o11 : List AJ := [.o ⟨(some 40), none, true, .bin .add (.t 30) (.c (.int .i64 1)), none⟩, .o ⟨(some 30), none, false, .mv (.t 40), (some [1, 2, 3, 7, 8, 21, 22, 29, 30])⟩]
def c_impl_SortsAll_18 : ACode := .region c_impl_SortsAll_o11
def c_impl_SortsAll_19 : ACode := .seq c_impl_SortsAll_17 c_impl_SortsAll_18
def c_impl_SortsAll_20 : ACode := .seq c_impl_SortsAll_13 c_impl_SortsAll_19
def c_impl_SortsAll_21 : ACode := .seq c_impl_SortsAll_12 c_impl_SortsAll_20
def c_impl_SortsAll_22 : ACode := .loop c_impl_SortsAll_21
def c_impl_SortsAll_23 : ACode := .block 2 c_impl_SortsAll_22
def c_impl_SortsAll_24 : ACode := .seq c_impl_SortsAll_11 c_impl_SortsAll_23
abbrev c_impl_SortsAll_o12 : List AJ := [.o ⟨(some 41), none, false, .load 2 true (.t 3), none⟩, .o ⟨(some 42), none, false, .mv (.t 1), none⟩, .o ⟨(some 43), none, false, .mv (.t 8), none⟩, .o ⟨(some 44), none, false, .mv (.t 2), none⟩, .o ⟨(some 45), none, false, .call 81 [(.t 41), (.t 42), (.t 43), (.t 44)], none⟩, .o ⟨(some 46), none, false, .call 80 [(.t 45)], none⟩, .o ⟨(some 47), none, false, .un .not (.t 46), (some [1, 2, 3, 21, 22, 47])⟩]
def c_impl_SortsAll_25 : ACode := .region c_impl_SortsAll_o12
abbrev c_impl_SortsAll_o13 : List AJ := [.o ⟨(some 6), none, false, .mv (.c (.bool false)), (some [6])⟩]
def c_impl_SortsAll_26 : ACode := .region c_impl_SortsAll_o13
def c_impl_SortsAll_27 : ACode := .seq c_impl_SortsAll_26 .ret
def c_impl_SortsAll_28 : ACode := .cond (.t 47) c_impl_SortsAll_27 .skip
def c_impl_SortsAll_29 : ACode := .seq c_impl_SortsAll_25 c_impl_SortsAll_28
def c_impl_SortsAll_30 : ACode := .seq c_impl_SortsAll_24 c_impl_SortsAll_29
def c_impl_SortsAll_31 : ACode := .seq c_impl_SortsAll_10 c_impl_SortsAll_30
def c_impl_SortsAll_32 : ACode := .seq c_impl_SortsAll_9 c_impl_SortsAll_31
def c_impl_SortsAll_33 : ACode := .block 1 c_impl_SortsAll_32
abbrev c_impl_SortsAll_o14 : List AJ := [.o ⟨(some 48), none, true, .bin .add (.t 22) (.c (.int .i64 1)), none⟩, .o ⟨(some 22), none, false, .mv (.t 48), (some [1, 2, 3, 21, 22])⟩]
def c_impl_SortsAll_34 : ACode := .region c_impl_SortsAll_o14
def c_impl_SortsAll_35 : ACode := .seq c_impl_SortsAll_33 c_impl_SortsAll_34
def c_impl_SortsAll_36 : ACode := .seq c_impl_SortsAll_8 c_impl_SortsAll_35
def c_impl_SortsAll_37 : ACode := .seq c_impl_SortsAll_7 c_impl_SortsAll_36
def c_impl_SortsAll_38 : ACode := .loop c_impl_SortsAll_37
def c_impl_SortsAll_39 : ACode := .block 0 c_impl_SortsAll_38
def c_impl_SortsAll_40 : ACode := .seq c_impl_SortsAll_6 c_impl_SortsAll_39
abbrev c_impl_SortsAll_o15 : List AJ := [.o ⟨(some 6), none, false, .mv (.c (.bool true)), (some [6])⟩]
def c_impl_SortsAll_41 : ACode := .region c_impl_SortsAll_o15
def c_impl_SortsAll_42 : ACode := .seq c_impl_SortsAll_41 .ret
def c_impl_SortsAll_43 : ACode := .seq c_impl_SortsAll_40 c_impl_SortsAll_42
def c_impl_SortsAll_44 : ACode := .seq c_impl_SortsAll_5 c_impl_SortsAll_43
def c_impl_SortsAll_45 : ACode := .seq c_impl_SortsAll_0 c_impl_SortsAll_44
section
variable (C : Cx) (n : Nat) (sk : List AItem) (e : Env) (h : Heap) (R : AV → Heap → Prop)
@[simp, simp ↓] theorem c_impl_SortsAll_0_r : vc2 C (n + 1) [] (.code c_impl_SortsAll_0 :: sk) e h R = (vc2 C n c_impl_SortsAll_o0 sk e h R) := nr rfl
@[simp, simp ↓] theorem c_impl_SortsAll_1_r : vc2 C (n + 1) [] (.code c_impl_SortsAll_1 :: sk) e h R = (vc2 C n c_impl_SortsAll_o1 sk e h R) := nr rfl
@[simp, simp ↓] theorem c_impl_SortsAll_2_r : vc2 C (n + 1) [] (.code c_impl_SortsAll_2 :: sk) e h R = (vc2 C n c_impl_SortsAll_o2 sk e h R) := nr rfl
@[simp, simp ↓] theorem c_impl_SortsAll_3_r : vc2 C (n + 1) [] (.code c_impl_SortsAll_3 :: sk) e h R = (vc2 C n [] (.code c_impl_SortsAll_2 :: .code .ret :: sk) e h R) := nr rfl
@[simp, simp ↓] theorem c_impl_SortsAll_4_r : vc2 C (n + 1) [] (.code c_impl_SortsAll_4 :: sk) e h R = (condK (ev e (.t 18)) (vc2 C n [] (.code c_impl_SortsAll_3 :: sk) e h R) (vc2 C n [] (.code .skip :: sk) e h R)) := nr rfl
@[simp, simp ↓] theorem c_impl_SortsAll_5_r : vc2 C (n + 1) [] (.code c_impl_SortsAll_5 :: sk) e h R = (vc2 C n [] (.code c_impl_SortsAll_1 :: .code c_impl_SortsAll_4 :: sk) e h R) := nr rfl
@[simp, simp ↓] theorem c_impl_SortsAll_6_r : vc2 C (n + 1) [] (.code c_impl_SortsAll_6 :: sk) e h R = (vc2 C n c_impl_SortsAll_o3 sk e h R) := nr rfl
@[simp, simp ↓] theorem c_impl_SortsAll_7_r : vc2 C (n + 1) [] (.code c_impl_SortsAll_7 :: sk) e h R = (vc2 C n c_impl_SortsAll_o4 sk e h R) := nr rfl
@[simp, simp ↓] theorem c_impl_SortsAll_8_r : vc2 C (n + 1) [] (.code c_impl_SortsAll_8 :: sk) e h R = (condK (ev e (.t 23)) (vc2 C n [] (.code .skip :: sk) e h R) (vc2 C n [] (.code (.exit 0) :: sk) e h R)) := nr rfl
@[simp, simp ↓] theorem c_impl_SortsAll_9_r : vc2 C (n + 1) [] (.code c_impl_SortsAll_9 :: sk) e h R = (vc2 C n c_impl_SortsAll_o5 sk e h R) := nr rfl
@[simp, simp ↓] theorem c_impl_SortsAll_10_r : vc2 C (n + 1) [] (.code c_impl_SortsAll_10 :: sk) e h R = (vc2 C n c_impl_SortsAll_o6 sk e h R) := nr rfl
@[simp, simp ↓] theorem c_impl_SortsAll_11_r : vc2 C (n + 1) [] (.code c_impl_SortsAll_11 :: sk) e h R = (vc2 C n c_impl_SortsAll_o7 sk e h R) := nr rfl
@[simp, simp ↓] theorem c_impl_SortsAll_12_r : vc2 C (n + 1) [] (.code c_impl_SortsAll_12 :: sk) e h R = (vc2 C n c_impl_SortsAll_o8 sk e h R) := nr rfl
@[simp, simp ↓] theorem c_impl_SortsAll_13_r : vc2 C (n + 1) [] (.code c_impl_SortsAll_13 :: sk) e h R = (condK (ev e (.t 31)) (vc2 C n [] (.code .skip :: sk) e h R) (vc2 C n [] (.code (.exit 2) :: sk) e h R)) := nr rfl
@[simp, simp ↓] theorem c_impl_SortsAll_14_r : vc2 C (n + 1) [] (.code c_impl_SortsAll_14 :: sk) e h R = (vc2 C n c_impl_SortsAll_o9 sk e h R) := nr rfl
@[simp, simp ↓] theorem c_impl_SortsAll_15_r : vc2 C (n + 1) [] (.code c_impl_SortsAll_15 :: sk) e h R = (vc2 C n c_impl_SortsAll_o10 sk e h R) := nr rfl
@[simp, simp ↓] theorem c_impl_SortsAll_16_r : vc2 C (n + 1) [] (.code c_impl_SortsAll_16 :: sk) e h R = (vc2 C n [] (.code c_impl_SortsAll_14 :: .code c_impl_SortsAll_15 :: sk) e h R) := nr rfl
@[simp, simp ↓] theorem c_impl_SortsAll_17_r : vc2 C (n + 1) [] (.code c_impl_SortsAll_17 :: sk) e h R = (vc2 C n [] (.code c_impl_SortsAll_16 :: .inBlock 3 :: sk) e h R) := nr rfl
@[simp, simp ↓] theorem c_impl_SortsAll_18_r : vc2 C (n + 1) [] (.code c_impl_SortsAll_18 :: sk) e h R = (vc2 C n c_impl_SortsAll_o11 sk e h R) := nr rfl
@[simp, simp ↓] theorem c_impl_SortsAll_19_r : vc2 C (n + 1) [] (.code c_impl_SortsAll_19 :: sk) e h R = (vc2 C n [] (.code c_impl_SortsAll_17 :: .code c_impl_SortsAll_18 :: sk) e h R) := nr rfl
@[simp, simp ↓] theorem c_impl_SortsAll_20_r : vc2 C (n + 1) [] (.code c_impl_SortsAll_20 :: sk) e h R = (vc2 C n [] (.code c_impl_SortsAll_13 :: .code c_impl_SortsAll_19 :: sk) e h R) := nr rfl
@[simp, simp ↓] theorem c_impl_SortsAll_21_r : vc2 C (n + 1) [] (.code c_impl_SortsAll_21 :: sk) e h R = (vc2 C n [] (.code c_impl_SortsAll_12 :: .code c_impl_SortsAll_20 :: sk) e h R) := nr rfl
@[simp, simp ↓] theorem c_impl_SortsAll_22_r : vc2 C (n + 1) [] (.code c_impl_SortsAll_22 :: sk) e h R = (Run2 C (.code c_impl_SortsAll_21 :: .inLoop c_impl_SortsAll_21 :: sk) e h R) := nr rfl
@[simp, simp ↓] theorem c_impl_SortsAll_23_r : vc2 C (n + 1) [] (.code c_impl_SortsAll_23 :: sk) e h R = (vc2 C n [] (.code c_impl_SortsAll_22 :: .inBlock 2 :: sk) e h R) := nr rfl
@[simp, simp ↓] theorem c_impl_SortsAll_24_r : vc2 C (n + 1) [] (.code c_impl_SortsAll_24 :: sk) e h R = (vc2 C n [] (.code c_impl_SortsAll_11 :: .code c_impl_SortsAll_23 :: sk) e h R) := nr rfl
@[simp, simp ↓] theorem c_impl_SortsAll_25_r : vc2 C (n + 1) [] (.code c_impl_SortsAll_25 :: sk) e h R = (vc2 C n c_impl_SortsAll_o12 sk e h R) := nr rfl
@[simp, simp ↓] theorem c_impl_SortsAll_26_r : vc2 C (n + 1) [] (.code c_impl_SortsAll_26 :: sk) e h R = (vc2 C n c_impl_SortsAll_o13 sk e h R) := nr rfl
@[simp, simp ↓] theorem c_impl_SortsAll_27_r : vc2 C (n + 1) [] (.code c_impl_SortsAll_27 :: sk) e h R = (vc2 C n [] (.code c_impl_SortsAll_26 :: .code .ret :: sk) e h R) := nr rfl
@[simp, simp ↓] theorem c_impl_SortsAll_28_r : vc2 C (n + 1) [] (.code c_impl_SortsAll_28 :: sk) e h R = (condK (ev e (.t 47)) (vc2 C n [] (.code c_impl_SortsAll_27 :: sk) e h R) (vc2 C n [] (.code .skip :: sk) e h R)) := nr rfl
@[simp, simp ↓] theorem c_impl_SortsAll_29_r : vc2 C (n + 1) [] (.code c_impl_SortsAll_29 :: sk) e h R = (vc2 C n [] (.code c_impl_SortsAll_25 :: .code c_impl_SortsAll_28 :: sk) e h R) := nr rfl
@[simp, simp ↓] theorem c_impl_SortsAll_30_r : vc2 C (n + 1) [] (.code c_impl_SortsAll_30 :: sk) e h R = (vc2 C n [] (.code c_impl_SortsAll_24 :: .code c_impl_SortsAll_29 :: sk) e h R) := nr rfl
@[simp, simp ↓] theorem c_impl_SortsAll_31_r : vc2 C (n + 1) [] (.code c_impl_SortsAll_31 :: sk) e h R = (vc2 C n [] (.code c_impl_SortsAll_10 :: .code c_impl_SortsAll_30 :: sk) e h R) := nr rfl
@[simp, simp ↓] theorem c_impl_SortsAll_32_r : vc2 C (n + 1) [] (.code c_impl_SortsAll_32 :: sk) e h R = (vc2 C n [] (.code c_impl_SortsAll_9 :: .code c_impl_SortsAll_31 :: sk) e h R) := nr rfl
@[simp, simp ↓] theorem c_impl_SortsAll_33_r : vc2 C (n + 1) [] (.code c_impl_SortsAll_33 :: sk) e h R = (vc2 C n [] (.code c_impl_SortsAll_32 :: .inBlock 1 :: sk) e h R) := nr rfl
@[simp, simp ↓] theorem c_impl_SortsAll_34_r : vc2 C (n + 1) [] (.code c_impl_SortsAll_34 :: sk) e h R = (vc2 C n c_impl_SortsAll_o14 sk e h R) := nr rfl
@[simp, simp ↓] theorem c_impl_SortsAll_35_r : vc2 C (n + 1) [] (.code c_impl_SortsAll_35 :: sk) e h R = (vc2 C n [] (.code c_impl_SortsAll_33 :: .code c_impl_SortsAll_34 :: sk) e h R) := nr rfl
@[simp, simp ↓] theorem c_impl_SortsAll_36_r : vc2 C (n + 1) [] (.code c_impl_SortsAll_36 :: sk) e h R = (vc2 C n [] (.code c_impl_SortsAll_8 :: .code c_impl_SortsAll_35 :: sk) e h R) := nr rfl
@[simp, simp ↓] theorem c_impl_SortsAll_37_r : vc2 C (n + 1) [] (.code c_impl_SortsAll_37 :: sk) e h R = (vc2 C n [] (.code c_impl_SortsAll_7 :: .code c_impl_SortsAll_36 :: sk) e h R) := nr rfl
@[simp, simp ↓] theorem c_impl_SortsAll_38_r : vc2 C (n + 1) [] (.code c_impl_SortsAll_38 :: sk) e h R = (Run2 C (.code c_impl_SortsAll_37 :: .inLoop c_impl_SortsAll_37 :: sk) e h R) := nr rfl
@[simp, simp ↓] theorem c_impl_SortsAll_39_r : vc2 C (n + 1) [] (.code c_impl_SortsAll_39 :: sk) e h R = (vc2 C n [] (.code c_impl_SortsAll_38 :: .inBlock 0 :: sk) e h R) := nr rfl
@[simp, simp ↓] theorem c_impl_SortsAll_40_r : vc2 C (n + 1) [] (.code c_impl_SortsAll_40 :: sk) e h R = (vc2 C n [] (.code c_impl_SortsAll_6 :: .code c_impl_SortsAll_39 :: sk) e h R) := nr rfl
@[simp, simp ↓] theorem c_impl_SortsAll_41_r : vc2 C (n + 1) [] (.code c_impl_SortsAll_41 :: sk) e h R = (vc2 C n c_impl_SortsAll_o15 sk e h R) := nr rfl
@[simp, simp ↓] theorem c_impl_SortsAll_42_r : vc2 C (n + 1) [] (.code c_impl_SortsAll_42 :: sk) e h R = (vc2 C n [] (.code c_impl_SortsAll_41 :: .code .ret :: sk) e h R) := nr rfl
@[simp, simp ↓] theorem c_impl_SortsAll_43_r : vc2 C (n + 1) [] (.code c_impl_SortsAll_43 :: sk) e h R = (vc2 C n [] (.code c_impl_SortsAll_40 :: .code c_impl_SortsAll_42 :: sk) e h R) := nr rfl
@[simp, simp ↓] theorem c_impl_SortsAll_44_r : vc2 C (n + 1) [] (.code c_impl_SortsAll_44 :: sk) e h R = (vc2 C n [] (.code c_impl_SortsAll_5 :: .code c_impl_SortsAll_43 :: sk) e h R) := nr rfl
@[simp, simp ↓] theorem c_impl_SortsAll_45_r : vc2 C (n + 1) [] (.code c_impl_SortsAll_45 :: sk) e h R = (vc2 C n [] (.code c_impl_SortsAll_0 :: .code c_impl_SortsAll_44 :: sk) e h R) := nr rfl
end
noncomputable def c_impl_SortsAll_C (orc : Orc) : Cx := ⟨Try.prog, [], 33, 49, [.tmp 6], orc⟩
@[simp] theorem c_impl_SortsAll_C_P (orc : Orc) : (c_impl_SortsAll_C orc).P = Try.prog := nr rfl
@[simp] theorem c_impl_SortsAll_C_o (orc : Orc) : (c_impl_SortsAll_C orc).orc = orc := nr rfl
@[simp] theorem c_impl_SortsAll_C_r (orc : Orc) : (c_impl_SortsAll_C orc).res = [.tmp 6] := nr rfl
theorem c_impl_SortsAll_of {args : List AV} {h : Heap} {R : AV → Heap → Prop} {k : Nat} (ha : args.length = k) {orc : Orc} (hp : Pure Try.prog orc) (hk : Is (c_impl_SortsAll_C orc) Try.f33 → Run2 (c_impl_SortsAll_C orc) [.code c_impl_SortsAll_45] (argEnv 0 args) h (Post R)) (hle : k ≤ 49 := by simp) : ACalls Try.prog 33 args h R :=
  contract2 [] c_impl_SortsAll_45 [.tmp 6] Try.func33 (by decide +kernel) rfl (by kernel_rfl) (by rw [ha]; exact hle) (by kernel_rfl) hp hk
theorem c_impl_SortsAll_of0 {args : List AV} {h : Heap} {R : AV → Heap → Prop} {k : Nat} (ha : args.length = k) {orc : Orc} (hp : Pure Try.prog orc) (hk : Is (c_impl_SortsAll_C orc) Try.f33 → Run2 (c_impl_SortsAll_C orc) [.code c_impl_SortsAll_45] (argEnv 0 args) h R) (hle : k ≤ 49 := by simp) : ACalls Try.prog 33 args h R :=
  contract20 [] c_impl_SortsAll_45 [.tmp 6] Try.func33 (by decide +kernel) rfl (by kernel_rfl) (by rw [ha]; exact hle) (by kernel_rfl) hp hk
theorem implSA_o (x : Gr) (rs : List (List Int)) (times : Int) (hl : x.ts.length ≤ 1048576) (ok : x.ok) (hr : ssTot rs ≤ 1048576) : ACalls Try.prog 33 [x.av, .snap 1 (rs.map il), .int .i64 times] [] (fun v h' => v = .bool (decide (x.saOk rs times)) ∧ h' = []) := by
  refine c_impl_SortsAll_of rfl orcK_p fun I => ?_
  by_cases hs : x.sCode rs = 0
  · by_cases hk : 0 ≤ times ∧ times ≤ 100
    · obtain ⟨hv, hok⟩ := Gr.sCode_ok hs
      have hn1 := hv.1
      have hn2 := hv.2.1
      have hnn : ((x.n.toNat : Nat) : Int) = x.n := Int.toNat_of_nonneg (by omega)
      have hp : 2 ^ x.n.toNat ≤ 4096 := by
        have : 2 ^ x.n.toNat ≤ 2 ^ 12 := Nat.pow_le_pow_right (by omega) (by omega)
        omega
      obtain ⟨K, hK⟩ : ∃ K, 2 ^ x.n.toNat = K := ⟨_, rfl⟩
      rw [hK] at hp
      have hsh : IntKind.i64.wrap ((2 : Int) ^ (min x.n.toNat IntKind.i64.bits)) = (K : Int) := by
        rw [show IntKind.i64.bits = 64 from rfl, Nat.min_eq_left (by omega), show (2 : Int) ^ x.n.toNat = (K : Int) by rw [← hK]; simp, w64 (by omega)]
      refine Run2.of I 1000 ?_
      simp -implicitDefEqProofs [hl, ok, hr, hs, hk.1, hk.2, hsh]
      refine ⟨by omega, ?_⟩
      refine Run2.loopE (fun (i : Nat) => [(1, .snap 1 (rs.map il)), (2, .int .i64 times), (3, .ip [.int .i64 x.n, .snap 3 (x.ts.map T.av)]), (21, .int .i64 K), (22, .int .i64 i)]) (fun i => []) (fun i => K - i) (fun i => i ≤ K ∧ saTo x rs times i) 0 (by simp) rfl ⟨Nat.zero_le _, fun _ h => by omega⟩ fun i hi ih => ?_
      by_cases hlt : i < K
      · have hbad : ¬ sortedP (runT x exch rs (vals x.n.toNat i) times.toNat) → ¬ x.saOk rs times := fun h1 h2 => h1 (h2.2 i (by rw [hK]; exact hlt))
        have go := fun h1 => ih (i + 1) ⟨hlt, saTo_succ hi.2 h1⟩ (by omega)
        clear ih
        refine Run2.of I 1000 ?_
        simp -implicitDefEqProofs [hlt]
        refine ⟨by omega, by omega, fun id => ?_⟩
        refine Run2.loopE (fun (j : Nat) => [(1, .snap 1 (rs.map il)), (2, .int .i64 times), (3, .ip [.int .i64 x.n, .snap 3 (x.ts.map T.av)]), (7, .int .i64 i), (8, .sl id 1 0 x.n.toNat (some x.n.toNat)), (21, .int .i64 K), (22, .int .i64 i), (29, .int .i64 x.n.toNat), (30, .int .i64 j)]) (fun j => [(id, ⟨1, (vals j i).map iv ++ List.replicate (x.n.toNat - j) (.int .i64 0)⟩)]) (fun j => x.n.toNat - j) (fun j => j ≤ x.n.toNat) 0 (by simp) (by simp [vals]) (Nat.zero_le _) fun j hj ihj => ?_
        by_cases hlt2 : j < x.n.toNat
        · have goj := ihj (j + 1) (by omega) (by omega)
          have hset : ((vals j i).map iv ++ List.replicate (x.n.toNat - j) (AV.int .i64 0)).set j (.int .i64 (bitV i j)) = (vals (j + 1) i).map iv ++ List.replicate (x.n.toNat - (j + 1)) (.int .i64 0) := by
            rw [List.set_append_right _ _ (by simp), show x.n.toNat - j = (x.n.toNat - (j + 1)) + 1 by omega, List.replicate_succ, vals_succ, List.map_append, List.append_assoc]
            simp
          have hlen : ((vals j i).map iv ++ List.replicate (x.n.toNat - j) (AV.int .i64 0)).length = x.n.toNat := by simp; omega
          unfold bitV at hset
          clear ihj
          generalize ((vals j i).map iv ++ List.replicate (x.n.toNat - j) (AV.int .i64 0)) = L at *
          refine Run2.of I 1000 ?_
          simp -implicitDefEqProofs [hlt2, hset, hlen]
          refine ⟨fun h => ⟨by omega, ?_⟩, fun h => by exfalso; omega⟩
          simpa using goj
        · obtain rfl : j = x.n.toNat := by omega
          have o : OwnL iv 1 (.sl id 1 0 x.n.toNat (some x.n.toNat)) (vals x.n.toNat i) [(id, ⟨1, (vals x.n.toNat i).map iv⟩)] := by
            have := OwnL.sl (enc := iv) (sz := 1) (l := vals x.n.toNat i) id (some x.n.toNat) [] rfl
            simpa using this
          refine Run2.of I 1000 ?_
          simp -implicitDefEqProofs
          refine (ACalls.gives [(id, ⟨1, (vals x.n.toNat i).map iv⟩)] (fun p hp => hp) (S := fun w h' => OwnL iv 1 w (runT x exch rs (vals x.n.toNat i) times.toNat) h') ?_ (fun v h' o => o.own own_iv1)).mono ?_
          · rw [lend_cons, lend_cons, lend_cons, lend_cons, lend_nil', lend1_cold _ (x := .agg [.int .i64 x.n, .snap 3 (x.ts.map T.av)]) x.is.cold, lend1_cold _ (x := .snap 1 (rs.map il)) (by simp [cold]), lend1_cold _ (x := .int .i64 times) rfl]
            exact ACalls.wk (.cons (.refl _) (.cons (.refl _) (.cons o.lent.wk (.refl _)))) (exchanged_n x rs (vals x.n.toNat i) times hr hv hok (by simp; omega) hk)
          rintro w h'' ⟨g', o', hd, rfl⟩
          have hcell := o'.cell
          have hl' := runT_inv x exch (Inv := fun l => l.length = x.n.toNat) (fun a e _ ha => by rw [exch_length]; exact ha) (fun r hr k hk => (hok.1 r hr).2.2.1 k hk) (rs := rs) (a := vals x.n.toNat i) (by simp) times.toNat
          refine gK.go ?_
          simp -implicitDefEqProofs [hcell]
          refine (ACalls.reads g' (fun p hp => List.mem_append_left _ hp) (v0 := .bool (decide (sortedP (runT x exch rs (vals x.n.toNat i) times.toNat)))) ?_ rfl).mono ?_
          · rw [lend_cons, lend_nil']
            exact ACalls.wk (.cons o'.lent.wk .nil) (IsSorted_s _ [] (by have : (runT x exch rs (vals x.n.toNat i) times.toNat).length = x.n.toNat := hl'; omega))
          rintro v h' ⟨rfl, rfl⟩
          refine gK.go ?_
          by_cases hS : sortedP (runT x exch rs (vals x.n.toNat i) times.toNat)
          · simp -implicitDefEqProofs [hS]
            refine ⟨by omega, Run2.sub (h' := []) (by simp) (by simp [dom]) ?_⟩
            simpa using go hS
          · have hb := hbad hS
            simp -implicitDefEqProofs [hS, hb]
            exact Post.none ⟨rfl, rfl⟩
      · have hie : i = K := by omega
        subst hie
        have hall : x.saOk rs times := ⟨⟨⟨hv, hok⟩, hk⟩, by rw [hK]; exact hi.2⟩
        refine Run2.of I 1000 ?_
        simp -implicitDefEqProofs [hall]
        exact .base ⟨rfl, rfl⟩
    · have hb : ¬ x.saOk rs times := fun h => hk h.1.2
      refine Run2.of I 1000 ?_
      simp -implicitDefEqProofs [hl, ok, hr, hs, hb]
      refine ⟨fun _ => .base ⟨rfl, rfl⟩, fun h1 h2 => absurd ⟨h1, h2⟩ hk⟩
  · have hb : ¬ x.saOk rs times := fun h => hs (by
      unfold Gr.sCode
      rw [if_pos h.1.1.1, if_pos h.1.1.2])
    refine Run2.of I 1000 ?_
    simp -implicitDefEqProofs [hl, ok, hr, hs, hb]
    exact .base ⟨rfl, rfl⟩
noncomputable def orcY : List (Nat × (List AV → Option (Prop × AV))) := (69, o_l00In) :: orcS
theorem orcY_p : Pure Try.prog (lk orcY) := (lk_pure o_l00In_k orcS_p)
@[simp] theorem orcY_l (g : FuncId) (l : List AV) : lk orcY g l = if g = 69 then o_l00In l else lk orcS g l := nr rfl
abbrev c_spec_SortsAll_o0 : List AJ := [.o ⟨(some 3), none, false, .box false 2 (.t 0), none⟩, .o ⟨(some 6), none, false, .mv (.c (.bool false)), (some [1, 2, 3])⟩]
def c_spec_SortsAll_0 : ACode := .region c_spec_SortsAll_o0
abbrev c_spec_SortsAll_o1 : List AJ := [.o ⟨(some 11), none, false, .call 57 [(.t 3)], none⟩, .o ⟨(some 12), none, false, .un .not (.t 11), none⟩, .o ⟨(some 13), none, false, .mv (.t 12), none⟩, .o ⟨(some 14), (some (13, false)), false, .mv (.t 1), none⟩, .o ⟨(some 15), (some (13, false)), false, .call 75 [(.t 3), (.t 14)], none⟩, .o ⟨(some 16), (some (13, false)), false, .un .not (.t 15), none⟩, .o ⟨(some 17), none, false, .pick (.t 13) (.c (.bool true)) (.t 16), none⟩, .o ⟨(some 18), none, false, .mv (.t 17), none⟩, .o ⟨(some 19), (some (18, false)), false, .mv (.t 2), none⟩, .o ⟨(some 20), (some (18, false)), false, .call 69 [(.t 19), (.c (.int .i64 0)), (.c (.int .i64 100))], (some [1, 2, 3, 18, 20])⟩, .o ⟨(some 21), (some (18, false)), false, .un .not (.t 20), none⟩, .o ⟨(some 22), none, false, .pick (.t 18) (.c (.bool true)) (.t 21), (some [1, 2, 3, 22])⟩]
def c_spec_SortsAll_1 : ACode := .region c_spec_SortsAll_o1
abbrev c_spec_SortsAll_o2 : List AJ := [.o ⟨(some 6), none, false, .mv (.c (.bool false)), (some [6])⟩]
def c_spec_SortsAll_2 : ACode := .region c_spec_SortsAll_o2
def c_spec_SortsAll_3 : ACode := .seq c_spec_SortsAll_2 .ret
def c_spec_SortsAll_4 : ACode := .cond (.t 22) c_spec_SortsAll_3 .skip
def c_spec_SortsAll_5 : ACode := .seq c_spec_SortsAll_1 c_spec_SortsAll_4
abbrev c_spec_SortsAll_o3 : List AJ := [.o ⟨(some 7), none, false, .mv (.c (.int .i64 0)), (some [1, 2, 3, 7])⟩]
def c_spec_SortsAll_6 : ACode := .region c_spec_SortsAll_o3
abbrev c_spec_SortsAll_o4 : List AJ := [.o ⟨(some 23), none, false, .mv (.t 7), none⟩, .o ⟨(some 24), none, false, .fieldA 0 (.t 3), none⟩, .o ⟨(some 25), none, false, .load 1 false (.t 24), none⟩, .o ⟨(some 26), none, false, .bin .shl (.c (.int .i64 1)) (.t 25), none⟩, .o ⟨(some 27), none, false, .bin .lss (.t 23) (.t 26), (some [1, 2, 3, 7, 27])⟩]
def c_spec_SortsAll_7 : ACode := .region c_spec_SortsAll_o4
def c_spec_SortsAll_8 : ACode := .cond (.t 27) .skip (.exit 0)
def c_spec_SortsAll_9 : ACode := .seq c_spec_SortsAll_7 c_spec_SortsAll_8
abbrev c_spec_SortsAll_o5 : List AJ := [.e 30 1 none, .o ⟨(some 8), none, false, .mv (.t 30), (some [1, 2, 3, 7, 8])⟩]
def c_spec_SortsAll_10 : ACode := .region c_spec_SortsAll_o5
abbrev c_spec_SortsAll_o6 : List AJ := [.o ⟨(some 9), none, false, .mv (.c (.int .i64 0)), (some [1, 2, 3, 7, 8, 9])⟩]
def c_spec_SortsAll_11 : ACode := .region c_spec_SortsAll_o6
abbrev c_spec_SortsAll_o7 : List AJ := [.o ⟨(some 31), none, false, .mv (.t 9), none⟩, .o ⟨(some 32), none, false, .fieldA 0 (.t 3), none⟩, .o ⟨(some 33), none, false, .load 1 false (.t 32), none⟩, .o ⟨(some 34), none, false, .bin .lss (.t 31) (.t 33), (some [1, 2, 3, 7, 8, 9, 34])⟩]
def c_spec_SortsAll_12 : ACode := .region c_spec_SortsAll_o7
def c_spec_SortsAll_13 : ACode := .cond (.t 34) .skip (.exit 2)
def c_spec_SortsAll_14 : ACode := .seq c_spec_SortsAll_12 c_spec_SortsAll_13
abbrev c_spec_SortsAll_o8 : List AJ := [.o ⟨(some 37), none, false, .mv (.t 8), none⟩, .o ⟨(some 38), none, false, .mv (.t 7), none⟩, .o ⟨(some 39), none, false, .mv (.t 9), none⟩, .o ⟨(some 40), none, false, .bin .shr (.t 38) (.t 39), none⟩, .o ⟨(some 41), none, false, .bin .and (.t 40) (.c (.int .i64 1)), none⟩, .o ⟨(some 42), none, false, .bsl false 1 [(.t 41)], none⟩, .o ⟨(some 43), none, false, .append 1 8 (.t 37) (.t 42), none⟩, .o ⟨(some 8), none, false, .mv (.t 43), (some [1, 2, 3, 7, 8, 9])⟩]
def c_spec_SortsAll_15 : ACode := .region c_spec_SortsAll_o8
def c_spec_SortsAll_16 : ACode := .block 3 c_spec_SortsAll_15
abbrev c_spec_SortsAll_o9 : List AJ := [.o ⟨(some 35), none, false, .mv (.t 9), none⟩, .o ⟨(some 36), none, true, .bin .add (.t 35) (.c (.int .i64 1)), none⟩, .o ⟨(some 9), none, false, .mv (.t 36), (some [1, 2, 3, 7, 8, 9])⟩]
def c_spec_SortsAll_17 : ACode := .region c_spec_SortsAll_o9
def c_spec_SortsAll_18 : ACode := .seq c_spec_SortsAll_16 c_spec_SortsAll_17
def c_spec_SortsAll_19 : ACode := .seq c_spec_SortsAll_14 c_spec_SortsAll_18
def c_spec_SortsAll_20 : ACode := .loop c_spec_SortsAll_19
def c_spec_SortsAll_21 : ACode := .block 2 c_spec_SortsAll_20
def c_spec_SortsAll_22 : ACode := .seq c_spec_SortsAll_11 c_spec_SortsAll_21
abbrev c_spec_SortsAll_o10 : List AJ := [.o ⟨(some 44), none, false, .mv (.t 1), none⟩, .o ⟨(some 45), none, false, .mv (.t 8), none⟩, .o ⟨(some 46), none, false, .mv (.t 2), none⟩, .o ⟨(some 47), none, false, .call 77 [(.t 3), (.t 44), (.t 45), (.t 46)], none⟩, .o ⟨(some 8), none, false, .mv (.t 47), (some [1, 2, 3, 7, 8])⟩]
def c_spec_SortsAll_23 : ACode := .region c_spec_SortsAll_o10
abbrev c_spec_SortsAll_o11 : List AJ := [.o ⟨(some 10), none, false, .mv (.c (.int .i64 1)), (some [1, 2, 3, 7, 8, 10])⟩]
def c_spec_SortsAll_24 : ACode := .region c_spec_SortsAll_o11
abbrev c_spec_SortsAll_o12 : List AJ := [.o ⟨(some 48), none, false, .mv (.t 10), none⟩, .o ⟨(some 49), none, false, .mv (.t 8), none⟩, .o ⟨(some 50), none, false, .len (.t 49), none⟩, .o ⟨(some 51), none, false, .bin .lss (.t 48) (.t 50), (some [1, 2, 3, 7, 8, 10, 51])⟩]
def c_spec_SortsAll_25 : ACode := .region c_spec_SortsAll_o12
def c_spec_SortsAll_26 : ACode := .cond (.t 51) .skip (.exit 4)
def c_spec_SortsAll_27 : ACode := .seq c_spec_SortsAll_25 c_spec_SortsAll_26
abbrev c_spec_SortsAll_o13 : List AI := [⟨(some 54), none, false, .mv (.t 8), none⟩, ⟨(some 55), none, false, .mv (.t 10), none⟩, ⟨(some 56), none, true, .bin .sub (.t 55) (.c (.int .i64 1)), none⟩, ⟨(some 57), none, false, .idxA 1 (.t 54) (.t 56), none⟩, ⟨(some 58), none, false, .load 1 false (.t 57), none⟩, ⟨(some 59), none, false, .mv (.t 8), none⟩, ⟨(some 60), none, false, .mv (.t 10), none⟩, ⟨(some 61), none, false, .idxA 1 (.t 59) (.t 60), none⟩, ⟨(some 62), none, false, .load 1 false (.t 61), none⟩, ⟨(some 63), none, false, .bin .gtr (.t 58) (.t 62), (some [1, 2, 3, 7, 8, 10, 63])⟩]
def c_spec_SortsAll_28 : ACode := .draw c_spec_SortsAll_o13 [] rfl
abbrev c_spec_SortsAll_o14 : List AJ := [.o ⟨(some 6), none, false, .mv (.c (.bool false)), (some [6])⟩]
def c_spec_SortsAll_29 : ACode := .region c_spec_SortsAll_o14
def c_spec_SortsAll_30 : ACode := .seq c_spec_SortsAll_29 .ret
def c_spec_SortsAll_31 : ACode := .cond (.t 63) c_spec_SortsAll_30 .skip
def c_spec_SortsAll_32 : ACode := .seq c_spec_SortsAll_28 c_spec_SortsAll_31
def c_spec_SortsAll_33 : ACode := .block 5 c_spec_SortsAll_32
abbrev c_spec_SortsAll_o15 : List AJ := [.o ⟨(some 52), none, false, .mv (.t 10), none⟩, .o ⟨(some 53), none, true, .bin .add (.t 52) (.c (.int .i64 1)), none⟩, .o ⟨(some 10), none, false, .mv (.t 53), (some [1, 2, 3, 7, 8, 10])⟩]
def c_spec_SortsAll_34 : ACode := .region c_spec_SortsAll_o15
def c_spec_SortsAll_35 : ACode := .seq c_spec_SortsAll_33 c_spec_SortsAll_34
def c_spec_SortsAll_36 : ACode := .seq c_spec_SortsAll_27 c_spec_SortsAll_35
def c_spec_SortsAll_37 : ACode := .loop c_spec_SortsAll_36
def c_spec_SortsAll_38 : ACode := .block 4 c_spec_SortsAll_37
def c_spec_SortsAll_39 : ACode := .seq c_spec_SortsAll_24 c_spec_SortsAll_38
def c_spec_SortsAll_40 : ACode := .seq c_spec_SortsAll_23 c_spec_SortsAll_39
def c_spec_SortsAll_41 : ACode := .seq c_spec_SortsAll_22 c_spec_SortsAll_40
def c_spec_SortsAll_42 : ACode := .seq c_spec_SortsAll_10 c_spec_SortsAll_41
def c_spec_SortsAll_43 : ACode := .block 1 c_spec_SortsAll_42
abbrev c_spec_SortsAll_o16 : List AJ := [.o ⟨(some 28), none, false, .mv (.t 7), none⟩, .o ⟨(some 29), none, true, .bin .add (.t 28) (.c (.int .i64 1)), none⟩, .o ⟨(some 7), none, false, .mv (.t 29), (some [1, 2, 3, 7])⟩]
def c_spec_SortsAll_44 : ACode := .region c_spec_SortsAll_o16
def c_spec_SortsAll_45 : ACode := .seq c_spec_SortsAll_43 c_spec_SortsAll_44
def c_spec_SortsAll_46 : ACode := .seq c_spec_SortsAll_9 c_spec_SortsAll_45
def c_spec_SortsAll_47 : ACode := .loop c_spec_SortsAll_46
def c_spec_SortsAll_48 : ACode := .block 0 c_spec_SortsAll_47
def c_spec_SortsAll_49 : ACode := .seq c_spec_SortsAll_6 c_spec_SortsAll_48
abbrev c_spec_SortsAll_o17 : List AJ := [.o ⟨(some 6), none, false, .mv (.c (.bool true)), (some [6])⟩]
def c_spec_SortsAll_50 : ACode := .region c_spec_SortsAll_o17
def c_spec_SortsAll_51 : ACode := .seq c_spec_SortsAll_50 .ret
def c_spec_SortsAll_52 : ACode := .seq c_spec_SortsAll_49 c_spec_SortsAll_51
def c_spec_SortsAll_53 : ACode := .seq c_spec_SortsAll_5 c_spec_SortsAll_52
def c_spec_SortsAll_54 : ACode := .seq c_spec_SortsAll_0 c_spec_SortsAll_53
section
variable (C : Cx) (n : Nat) (sk : List AItem) (e : Env) (h : Heap) (R : AV → Heap → Prop)
@[simp, simp ↓] theorem c_spec_SortsAll_0_r : vc2 C (n + 1) [] (.code c_spec_SortsAll_0 :: sk) e h R = (vc2 C n c_spec_SortsAll_o0 sk e h R) := nr rfl
@[simp, simp ↓] theorem c_spec_SortsAll_1_r : vc2 C (n + 1) [] (.code c_spec_SortsAll_1 :: sk) e h R = (vc2 C n c_spec_SortsAll_o1 sk e h R) := nr rfl
@[simp, simp ↓] theorem c_spec_SortsAll_2_r : vc2 C (n + 1) [] (.code c_spec_SortsAll_2 :: sk) e h R = (vc2 C n c_spec_SortsAll_o2 sk e h R) := nr rfl
@[simp, simp ↓] theorem c_spec_SortsAll_3_r : vc2 C (n + 1) [] (.code c_spec_SortsAll_3 :: sk) e h R = (vc2 C n [] (.code c_spec_SortsAll_2 :: .code .ret :: sk) e h R) := nr rfl
@[simp, simp ↓] theorem c_spec_SortsAll_4_r : vc2 C (n + 1) [] (.code c_spec_SortsAll_4 :: sk) e h R = (condK (ev e (.t 22)) (vc2 C n [] (.code c_spec_SortsAll_3 :: sk) e h R) (vc2 C n [] (.code .skip :: sk) e h R)) := nr rfl
@[simp, simp ↓] theorem c_spec_SortsAll_5_r : vc2 C (n + 1) [] (.code c_spec_SortsAll_5 :: sk) e h R = (vc2 C n [] (.code c_spec_SortsAll_1 :: .code c_spec_SortsAll_4 :: sk) e h R) := nr rfl
@[simp, simp ↓] theorem c_spec_SortsAll_6_r : vc2 C (n + 1) [] (.code c_spec_SortsAll_6 :: sk) e h R = (vc2 C n c_spec_SortsAll_o3 sk e h R) := nr rfl
@[simp, simp ↓] theorem c_spec_SortsAll_7_r : vc2 C (n + 1) [] (.code c_spec_SortsAll_7 :: sk) e h R = (vc2 C n c_spec_SortsAll_o4 sk e h R) := nr rfl
@[simp, simp ↓] theorem c_spec_SortsAll_8_r : vc2 C (n + 1) [] (.code c_spec_SortsAll_8 :: sk) e h R = (condK (ev e (.t 27)) (vc2 C n [] (.code .skip :: sk) e h R) (vc2 C n [] (.code (.exit 0) :: sk) e h R)) := nr rfl
@[simp, simp ↓] theorem c_spec_SortsAll_9_r : vc2 C (n + 1) [] (.code c_spec_SortsAll_9 :: sk) e h R = (vc2 C n [] (.code c_spec_SortsAll_7 :: .code c_spec_SortsAll_8 :: sk) e h R) := nr rfl
@[simp, simp ↓] theorem c_spec_SortsAll_10_r : vc2 C (n + 1) [] (.code c_spec_SortsAll_10 :: sk) e h R = (vc2 C n c_spec_SortsAll_o5 sk e h R) := nr rfl
@[simp, simp ↓] theorem c_spec_SortsAll_11_r : vc2 C (n + 1) [] (.code c_spec_SortsAll_11 :: sk) e h R = (vc2 C n c_spec_SortsAll_o6 sk e h R) := nr rfl
@[simp, simp ↓] theorem c_spec_SortsAll_12_r : vc2 C (n + 1) [] (.code c_spec_SortsAll_12 :: sk) e h R = (vc2 C n c_spec_SortsAll_o7 sk e h R) := nr rfl
@[simp, simp ↓] theorem c_spec_SortsAll_13_r : vc2 C (n + 1) [] (.code c_spec_SortsAll_13 :: sk) e h R = (condK (ev e (.t 34)) (vc2 C n [] (.code .skip :: sk) e h R) (vc2 C n [] (.code (.exit 2) :: sk) e h R)) := nr rfl
@[simp, simp ↓] theorem c_spec_SortsAll_14_r : vc2 C (n + 1) [] (.code c_spec_SortsAll_14 :: sk) e h R = (vc2 C n [] (.code c_spec_SortsAll_12 :: .code c_spec_SortsAll_13 :: sk) e h R) := nr rfl
@[simp, simp ↓] theorem c_spec_SortsAll_15_r : vc2 C (n + 1) [] (.code c_spec_SortsAll_15 :: sk) e h R = (vc2 C n c_spec_SortsAll_o8 sk e h R) := nr rfl
@[simp, simp ↓] theorem c_spec_SortsAll_16_r : vc2 C (n + 1) [] (.code c_spec_SortsAll_16 :: sk) e h R = (vc2 C n [] (.code c_spec_SortsAll_15 :: .inBlock 3 :: sk) e h R) := nr rfl
@[simp, simp ↓] theorem c_spec_SortsAll_17_r : vc2 C (n + 1) [] (.code c_spec_SortsAll_17 :: sk) e h R = (vc2 C n c_spec_SortsAll_o9 sk e h R) := nr rfl
@[simp, simp ↓] theorem c_spec_SortsAll_18_r : vc2 C (n + 1) [] (.code c_spec_SortsAll_18 :: sk) e h R = (vc2 C n [] (.code c_spec_SortsAll_16 :: .code c_spec_SortsAll_17 :: sk) e h R) := nr rfl
@[simp, simp ↓] theorem c_spec_SortsAll_19_r : vc2 C (n + 1) [] (.code c_spec_SortsAll_19 :: sk) e h R = (vc2 C n [] (.code c_spec_SortsAll_14 :: .code c_spec_SortsAll_18 :: sk) e h R) := nr rfl
@[simp, simp ↓] theorem c_spec_SortsAll_20_r : vc2 C (n + 1) [] (.code c_spec_SortsAll_20 :: sk) e h R = (Run2 C (.code c_spec_SortsAll_19 :: .inLoop c_spec_SortsAll_19 :: sk) e h R) := nr rfl
@[simp, simp ↓] theorem c_spec_SortsAll_21_r : vc2 C (n + 1) [] (.code c_spec_SortsAll_21 :: sk) e h R = (vc2 C n [] (.code c_spec_SortsAll_20 :: .inBlock 2 :: sk) e h R) := nr rfl
@[simp, simp ↓] theorem c_spec_SortsAll_22_r : vc2 C (n + 1) [] (.code c_spec_SortsAll_22 :: sk) e h R = (vc2 C n [] (.code c_spec_SortsAll_11 :: .code c_spec_SortsAll_21 :: sk) e h R) := nr rfl
@[simp, simp ↓] theorem c_spec_SortsAll_23_r : vc2 C (n + 1) [] (.code c_spec_SortsAll_23 :: sk) e h R = (vc2 C n c_spec_SortsAll_o10 sk e h R) := nr rfl
@[simp, simp ↓] theorem c_spec_SortsAll_24_r : vc2 C (n + 1) [] (.code c_spec_SortsAll_24 :: sk) e h R = (vc2 C n c_spec_SortsAll_o11 sk e h R) := nr rfl
@[simp, simp ↓] theorem c_spec_SortsAll_25_r : vc2 C (n + 1) [] (.code c_spec_SortsAll_25 :: sk) e h R = (vc2 C n c_spec_SortsAll_o12 sk e h R) := nr rfl
@[simp, simp ↓] theorem c_spec_SortsAll_26_r : vc2 C (n + 1) [] (.code c_spec_SortsAll_26 :: sk) e h R = (condK (ev e (.t 51)) (vc2 C n [] (.code .skip :: sk) e h R) (vc2 C n [] (.code (.exit 4) :: sk) e h R)) := nr rfl
@[simp, simp ↓] theorem c_spec_SortsAll_27_r : vc2 C (n + 1) [] (.code c_spec_SortsAll_27 :: sk) e h R = (vc2 C n [] (.code c_spec_SortsAll_25 :: .code c_spec_SortsAll_26 :: sk) e h R) := nr rfl
@[simp, simp ↓] theorem c_spec_SortsAll_28_r : vc2 C (n + 1) [] (.code c_spec_SortsAll_28 :: sk) e h R = (draw2 C h (vK C n [] sk R h) c_spec_SortsAll_o13 e) := nr rfl
@[simp, simp ↓] theorem c_spec_SortsAll_29_r : vc2 C (n + 1) [] (.code c_spec_SortsAll_29 :: sk) e h R = (vc2 C n c_spec_SortsAll_o14 sk e h R) := nr rfl
@[simp, simp ↓] theorem c_spec_SortsAll_30_r : vc2 C (n + 1) [] (.code c_spec_SortsAll_30 :: sk) e h R = (vc2 C n [] (.code c_spec_SortsAll_29 :: .code .ret :: sk) e h R) := nr rfl
@[simp, simp ↓] theorem c_spec_SortsAll_31_r : vc2 C (n + 1) [] (.code c_spec_SortsAll_31 :: sk) e h R = (condK (ev e (.t 63)) (vc2 C n [] (.code c_spec_SortsAll_30 :: sk) e h R) (vc2 C n [] (.code .skip :: sk) e h R)) := nr rfl
@[simp, simp ↓] theorem c_spec_SortsAll_32_r : vc2 C (n + 1) [] (.code c_spec_SortsAll_32 :: sk) e h R = (vc2 C n [] (.code c_spec_SortsAll_28 :: .code c_spec_SortsAll_31 :: sk) e h R) := nr rfl
@[simp, simp ↓] theorem c_spec_SortsAll_33_r : vc2 C (n + 1) [] (.code c_spec_SortsAll_33 :: sk) e h R = (vc2 C n [] (.code c_spec_SortsAll_32 :: .inBlock 5 :: sk) e h R) := nr rfl
@[simp, simp ↓] theorem c_spec_SortsAll_34_r : vc2 C (n + 1) [] (.code c_spec_SortsAll_34 :: sk) e h R = (vc2 C n c_spec_SortsAll_o15 sk e h R) := nr rfl
@[simp, simp ↓] theorem c_spec_SortsAll_35_r : vc2 C (n + 1) [] (.code c_spec_SortsAll_35 :: sk) e h R = (vc2 C n [] (.code c_spec_SortsAll_33 :: .code c_spec_SortsAll_34 :: sk) e h R) := nr rfl
@[simp, simp ↓] theorem c_spec_SortsAll_36_r : vc2 C (n + 1) [] (.code c_spec_SortsAll_36 :: sk) e h R = (vc2 C n [] (.code c_spec_SortsAll_27 :: .code c_spec_SortsAll_35 :: sk) e h R) := nr rfl
@[simp, simp ↓] theorem c_spec_SortsAll_37_r : vc2 C (n + 1) [] (.code c_spec_SortsAll_37 :: sk) e h R = (Run2 C (.code c_spec_SortsAll_36 :: .inLoop c_spec_SortsAll_36 :: sk) e h R) := nr rfl
@[simp, simp ↓] theorem c_spec_SortsAll_38_r : vc2 C (n + 1) [] (.code c_spec_SortsAll_38 :: sk) e h R = (vc2 C n [] (.code c_spec_SortsAll_37 :: .inBlock 4 :: sk) e h R) := nr rfl
@[simp, simp ↓] theorem c_spec_SortsAll_39_r : vc2 C (n + 1) [] (.code c_spec_SortsAll_39 :: sk) e h R = (vc2 C n [] (.code c_spec_SortsAll_24 :: .code c_spec_SortsAll_38 :: sk) e h R) := nr rfl
@[simp, simp ↓] theorem c_spec_SortsAll_40_r : vc2 C (n + 1) [] (.code c_spec_SortsAll_40 :: sk) e h R = (vc2 C n [] (.code c_spec_SortsAll_23 :: .code c_spec_SortsAll_39 :: sk) e h R) := nr rfl
@[simp, simp ↓] theorem c_spec_SortsAll_41_r : vc2 C (n + 1) [] (.code c_spec_SortsAll_41 :: sk) e h R = (vc2 C n [] (.code c_spec_SortsAll_22 :: .code c_spec_SortsAll_40 :: sk) e h R) := nr rfl
@[simp, simp ↓] theorem c_spec_SortsAll_42_r : vc2 C (n + 1) [] (.code c_spec_SortsAll_42 :: sk) e h R = (vc2 C n [] (.code c_spec_SortsAll_10 :: .code c_spec_SortsAll_41 :: sk) e h R) := nr rfl
@[simp, simp ↓] theorem c_spec_SortsAll_43_r : vc2 C (n + 1) [] (.code c_spec_SortsAll_43 :: sk) e h R = (vc2 C n [] (.code c_spec_SortsAll_42 :: .inBlock 1 :: sk) e h R) := nr rfl
@[simp, simp ↓] theorem c_spec_SortsAll_44_r : vc2 C (n + 1) [] (.code c_spec_SortsAll_44 :: sk) e h R = (vc2 C n c_spec_SortsAll_o16 sk e h R) := nr rfl
@[simp, simp ↓] theorem c_spec_SortsAll_45_r : vc2 C (n + 1) [] (.code c_spec_SortsAll_45 :: sk) e h R = (vc2 C n [] (.code c_spec_SortsAll_43 :: .code c_spec_SortsAll_44 :: sk) e h R) := nr rfl
@[simp, simp ↓] theorem c_spec_SortsAll_46_r : vc2 C (n + 1) [] (.code c_spec_SortsAll_46 :: sk) e h R = (vc2 C n [] (.code c_spec_SortsAll_9 :: .code c_spec_SortsAll_45 :: sk) e h R) := nr rfl
@[simp, simp ↓] theorem c_spec_SortsAll_47_r : vc2 C (n + 1) [] (.code c_spec_SortsAll_47 :: sk) e h R = (Run2 C (.code c_spec_SortsAll_46 :: .inLoop c_spec_SortsAll_46 :: sk) e h R) := nr rfl
@[simp, simp ↓] theorem c_spec_SortsAll_48_r : vc2 C (n + 1) [] (.code c_spec_SortsAll_48 :: sk) e h R = (vc2 C n [] (.code c_spec_SortsAll_47 :: .inBlock 0 :: sk) e h R) := nr rfl
@[simp, simp ↓] theorem c_spec_SortsAll_49_r : vc2 C (n + 1) [] (.code c_spec_SortsAll_49 :: sk) e h R = (vc2 C n [] (.code c_spec_SortsAll_6 :: .code c_spec_SortsAll_48 :: sk) e h R) := nr rfl
@[simp, simp ↓] theorem c_spec_SortsAll_50_r : vc2 C (n + 1) [] (.code c_spec_SortsAll_50 :: sk) e h R = (vc2 C n c_spec_SortsAll_o17 sk e h R) := nr rfl
@[simp, simp ↓] theorem c_spec_SortsAll_51_r : vc2 C (n + 1) [] (.code c_spec_SortsAll_51 :: sk) e h R = (vc2 C n [] (.code c_spec_SortsAll_50 :: .code .ret :: sk) e h R) := nr rfl
@[simp, simp ↓] theorem c_spec_SortsAll_52_r : vc2 C (n + 1) [] (.code c_spec_SortsAll_52 :: sk) e h R = (vc2 C n [] (.code c_spec_SortsAll_49 :: .code c_spec_SortsAll_51 :: sk) e h R) := nr rfl
@[simp, simp ↓] theorem c_spec_SortsAll_53_r : vc2 C (n + 1) [] (.code c_spec_SortsAll_53 :: sk) e h R = (vc2 C n [] (.code c_spec_SortsAll_5 :: .code c_spec_SortsAll_52 :: sk) e h R) := nr rfl
@[simp, simp ↓] theorem c_spec_SortsAll_54_r : vc2 C (n + 1) [] (.code c_spec_SortsAll_54 :: sk) e h R = (vc2 C n [] (.code c_spec_SortsAll_0 :: .code c_spec_SortsAll_53 :: sk) e h R) := nr rfl
end
noncomputable def c_spec_SortsAll_C (orc : Orc) : Cx := ⟨Try.prog, [30], 32, 64, [.tmp 6], orc⟩
@[simp] theorem c_spec_SortsAll_C_P (orc : Orc) : (c_spec_SortsAll_C orc).P = Try.prog := nr rfl
@[simp] theorem c_spec_SortsAll_C_o (orc : Orc) : (c_spec_SortsAll_C orc).orc = orc := nr rfl
@[simp] theorem c_spec_SortsAll_C_r (orc : Orc) : (c_spec_SortsAll_C orc).res = [.tmp 6] := nr rfl
theorem c_spec_SortsAll_of {args : List AV} {h : Heap} {R : AV → Heap → Prop} {k : Nat} (ha : args.length = k) {orc : Orc} (hp : Pure Try.prog orc) (hk : Is (c_spec_SortsAll_C orc) Try.f32 → Run2 (c_spec_SortsAll_C orc) [.code c_spec_SortsAll_54] (argEnv 0 args) h (Post R)) (hle : k ≤ 64 := by simp) : ACalls Try.prog 32 args h R :=
  contract2 [30] c_spec_SortsAll_54 [.tmp 6] Try.func32 (by decide +kernel) rfl (by kernel_rfl) (by rw [ha]; exact hle) (by kernel_rfl) hp hk
theorem c_spec_SortsAll_of0 {args : List AV} {h : Heap} {R : AV → Heap → Prop} {k : Nat} (ha : args.length = k) {orc : Orc} (hp : Pure Try.prog orc) (hk : Is (c_spec_SortsAll_C orc) Try.f32 → Run2 (c_spec_SortsAll_C orc) [.code c_spec_SortsAll_54] (argEnv 0 args) h R) (hle : k ≤ 64 := by simp) : ACalls Try.prog 32 args h R :=
  contract20 [30] c_spec_SortsAll_54 [.tmp 6] Try.func32 (by decide +kernel) rfl (by kernel_rfl) (by rw [ha]; exact hle) (by kernel_rfl) hp hk
theorem specSA_c (x : Gr) (rs : List (List Int)) (times : Int) (h : Heap) (hl : x.ts.length ≤ 1048576) (ok : x.ok) (hr : ssTot rs ≤ 1048576) : ACalls Try.prog 32 [x.av, .snap 1 (rs.map il), .int .i64 times] h (fun v h' => v = .bool (decide (x.saOk rs times)) ∧ h' = h) := by
  refine c_spec_SortsAll_of rfl orcY_p fun I => ?_
  by_cases hv : x.valid
  · have h24 := hv.le
    by_cases hok : x.rsOk rs
    · by_cases hk : 0 ≤ times ∧ times ≤ 100
      · have hn1 := hv.1
        have hn2 := hv.2.1
        have hp : 2 ^ x.n.toNat ≤ 4096 := by
          have : 2 ^ x.n.toNat ≤ 2 ^ 12 := Nat.pow_le_pow_right (by omega) (by omega)
          omega
        obtain ⟨K, hK⟩ : ∃ K, 2 ^ x.n.toNat = K := ⟨_, rfl⟩
        rw [hK] at hp
        have hsh : IntKind.i64.wrap ((2 : Int) ^ (min x.n.toNat IntKind.i64.bits)) = (K : Int) := by
          rw [show IntKind.i64.bits = 64 from rfl, Nat.min_eq_left (by omega), show (2 : Int) ^ x.n.toNat = (K : Int) by rw [← hK]; simp, w64 (by omega)]
        refine Run2.of I 1000 ?_
        simp -implicitDefEqProofs [hl, ok, hv, h24, hr, hok, hk.1, hk.2]
        refine Run2.loopE (fun (i : Nat) => [(1, .snap 1 (rs.map il)), (2, .int .i64 times), (3, .ip [.int .i64 x.n, .snap 3 (x.ts.map T.av)]), (7, .int .i64 i)]) (fun i => h) (fun i => K - i) (fun i => i ≤ K ∧ saTo x rs times i) 0 (by simp) rfl ⟨Nat.zero_le _, fun _ h => by omega⟩ fun i hi ih => ?_
        by_cases hlt : i < K
        · have hbad : ¬ sortedP (runT x exch rs (vals x.n.toNat i) times.toNat) → ¬ x.saOk rs times := fun h1 h2 => h1 (h2.2 i (by rw [hK]; exact hlt))
          have go := fun h1 => ih (i + 1) ⟨hlt, saTo_succ hi.2 h1⟩ (by omega)
          clear ih
          refine Run2.of I 1000 ?_
          simp -implicitDefEqProofs [hlt, hsh]
          refine ⟨by omega, ?_⟩
          refine Run2.loopE (α := Nat × AV × Heap) (fun s => [(1, .snap 1 (rs.map il)), (2, .int .i64 times), (3, .ip [.int .i64 x.n, .snap 3 (x.ts.map T.av)]), (7, .int .i64 i), (8, s.2.1), (9, .int .i64 (s.1 : Nat))]) (fun s => s.2.2 ++ h) (fun s => x.n.toNat - s.1) (fun s => s.1 ≤ x.n.toNat ∧ Grow 1 s.2.1 ((vals s.1 i).map iv) s.2.2) (0, .emp, []) (by simp) rfl ⟨Nat.zero_le _, by simpa [vals] using Grow.emp⟩ ?_
          rintro ⟨j, w, hpw⟩ ⟨hj, hg⟩ ihj
          simp only at hj hg
          have hcell := hg.cell
          by_cases hlt2 : j < x.n.toNat
          · have hjn : (j : Int) < x.n := by omega
            have goj := fun w' hp' (g : Grow 1 w' ((vals j i).map iv ++ [.int .i64 (bitV i j)]) hp') => ihj (j + 1, w', hp') ⟨hlt2, by simp only; rw [vals_succ, List.map_append]; exact g⟩ (by simp; omega)
            unfold bitV at goj
            clear ihj
            refine Run2.of I 1000 ?_
            simp -implicitDefEqProofs [hjn, hcell]
            refine hg.app (by simp; omega) (by simp) fun w' hp' hg' => ?_
            have hcell' := hg'.cell
            simp -implicitDefEqProofs [hcell']
            refine ⟨by omega, ?_⟩
            simpa using goj w' hp' hg'
          · obtain rfl : j = x.n.toNat := by omega
            have hjn : ¬ ((x.n.toNat : Int) < x.n) := by omega
            have hcold : cold (.ip [.int .i64 x.n, .snap 3 (x.ts.map T.av)]) = true := by simpa [cold] using x.is.cold
            have hl' : (runT x exch rs (vals x.n.toNat i) times.toNat).length = x.n.toNat := runT_inv x exch (Inv := fun l => l.length = x.n.toNat) (fun a e _ ha => by rw [exch_length]; exact ha) (fun r hr k hk => (hok.1 r hr).2.2.1 k hk) (rs := rs) (a := vals x.n.toNat i) (by simp) times.toNat
            generalize hX : runT x exch rs (vals x.n.toNat i) times.toNat = X at *
            have hcall := ACalls.gives (h := hpw ++ h) hpw (fun p hp => List.mem_append_left _ hp) (P := Try.prog) (g := 77) (args := [.ip [.int .i64 x.n, .snap 3 (x.ts.map T.av)], .snap 1 (rs.map il), w, .int .i64 times]) (S := fun w h' => OwnL iv 1 w X h') (by
              rw [lend_cons, lend_cons, lend_cons, lend_cons, lend_nil', lend1_cold _ hcold, lend1_cold _ (x := .snap 1 (rs.map il)) (by simp [cold]), lend1_cold _ (x := .int .i64 times) rfl]
              refine ACalls.wk (.cons (.refl _) (.cons (.refl _) (.cons hg.own.lent.wk (.refl _)))) ((l24Exchange_g x rs (vals x.n.toNat i) times [] hr hv hok (by simp; omega) (by simp; omega) hk).mono ?_)
              rintro w h' ⟨hp', g, rfl⟩
              rw [List.append_nil, ← hX]
              exact g.own) (fun v h' o => o.own own_iv1)
            refine Run2.of I 1000 ?_
            simp -implicitDefEqProofs [hjn, hcell]
            refine ⟨fun h1 => by exfalso; omega, fun _ => ?_⟩
            refine hcall.mono ?_
            rintro w2 h'' ⟨g', o', hd, rfl⟩
            have hX0 : X ≠ [] := fun e => by rw [e] at hl'; simp at hl'; omega
            cases o' with
            | nil => exact absurd rfl hX0
            | emp => exact absurd rfl hX0
            | sl id2 cap ex hex =>
              have hget : ∀ j (hj : j < X.length), (X.map iv ++ ex)[j]? = some (.int .i64 X[j]) := by
                intro j hj
                rw [List.getElem?_append_left (by simpa using hj)]
                simp [hj]
              refine gK.go ?_
              simp -implicitDefEqProofs
              refine Run2.loopE (fun (j : Nat) => [(1, .snap 1 (rs.map il)), (2, .int .i64 times), (3, .ip [.int .i64 x.n, .snap 3 (x.ts.map T.av)]), (7, .int .i64 i), (8, .sl id2 1 0 X.length cap), (10, .int .i64 (j + 1 : Nat))]) (fun j => (id2, ⟨1, X.map iv ++ ex⟩) :: (hpw ++ h)) (fun j => X.length - j) (fun j => j + 1 ≤ X.length ∧ ∀ j' (hj' : j' + 1 < X.length), j' < j → X[j'] ≤ X[j' + 1]) 0 (by simp) (by simp) ⟨by omega, fun _ _ h => by omega⟩ fun j hj ihj2 => ?_
              by_cases hlt3 : j + 1 < X.length
              · have hlt4 : j < X.length := by omega
                have hc : ((j : Int) + 1 - 1).toNat = j := by omega
                have q1 := hget _ hlt3
                have q2 := hget _ hlt4
                have hc3 : (j : Int) + 1 < X.length := by omega
                have hbad2 : X[j + 1] < X[j] → ¬ x.saOk rs times := fun h1 => hbad fun h2 => by have := h2 j hlt3; omega
                have goj := fun (h1 : X[j] ≤ X[j + 1]) => ihj2 (j + 1) ⟨by omega, fun j' hj' hjj => by
                  rcases Nat.lt_or_ge j' j with h | h
                  · exact hj.2 j' hj' h
                  · obtain rfl : j' = j := by omega
                    exact h1⟩ (by omega)
                have hdrop : ∀ b : Bool, b = decide (x.saOk rs times) → Post (fun v h' => v = .bool (decide (x.saOk rs times)) ∧ h' = h) (.bool b) ((id2, ⟨1, X.map iv ++ ex⟩) :: (hpw ++ h)) := fun b hb => .drop id2 (by simp only [hdel, if_true]; exact hg.dropped (.base ⟨by rw [hb], rfl⟩))
                clear ihj2
                generalize X.map iv ++ ex = L at *
                refine Run2.of I 1000 ?_
                simp -implicitDefEqProofs [hlt3, hlt4, hc, q1, q2, hc3]
                simp at goj
                repeat' (first | refine And.intro ?_ ?_ | intro _)
                all_goals first | omega | (unfold in64; omega) | exact hdrop false (by simp [hbad2 (by omega)]) | exact goj (by omega)
              · have hc3 : ¬ ((j : Int) + 1 < X.length) := by omega
                have hsort : sortedP X := fun j' hj' => hj.2 j' hj' (by omega)
                have go1 := go hsort
                refine Run2.of I 1000 ?_
                simp -implicitDefEqProofs [hc3]
                refine ⟨by omega, Run2.sub (h' := h) (fun p hp => by simp [hp]) (fun nd => ?_) ?_⟩
                · simp only [dom_cons, dom_append, List.nodup_cons, List.nodup_append] at nd
                  exact nd.2.2.1
                · simpa using go1
        · have hie : i = K := by omega
          subst hie
          have hall : x.saOk rs times := ⟨⟨⟨hv, hok⟩, hk⟩, by rw [hK]; exact hi.2⟩
          refine Run2.of I 1000 ?_
          simp -implicitDefEqProofs [hall, hsh]
          exact ⟨by omega, .base ⟨rfl, rfl⟩⟩
      · have hb : ¬ x.saOk rs times := fun h => hk h.1.2
        refine Run2.of I 1000 ?_
        simp -implicitDefEqProofs [hl, ok, hv, h24, hr, hok, hb]
        refine ⟨fun _ => .base ⟨rfl, rfl⟩, fun h1 h2 => absurd ⟨h1, h2⟩ hk⟩
    · have hb : ¬ x.saOk rs times := fun h => hok h.1.1.2
      refine Run2.of I 1000 ?_
      simp -implicitDefEqProofs [hl, ok, hv, h24, hr, hok, hb]
      exact .base ⟨rfl, rfl⟩
  · have hb : ¬ x.saOk rs times := fun h => hv h.1.1.1
    refine Run2.of I 1000 ?_
    simp -implicitDefEqProofs [hl, ok, hv, hr, hb]
    exact .base ⟨rfl, rfl⟩
end Go.AG
