/- Small functions of graphs that have no effect, and what they give. No statement is made here. -/
import Derived.Test.YtlncpnefkpfojaaGrA
namespace Go.AG
open Go.Proofs Go.Proofs.Ytlncpnefkpfojaa
set_option linter.unusedSimpArgs false
set_option linter.unusedVariables false
set_option maxRecDepth 4000
abbrev c_spec_l00In_o0 : List AJ := [.o ⟨(some 6), none, false, .mv (.c (.bool false)), (some [0, 1, 2])⟩]
def c_spec_l00In_0 : ACode := .region c_spec_l00In_o0
abbrev c_spec_l00In_o1 : List AJ := [.o ⟨(some 7), none, false, .mv (.t 0), none⟩, .o ⟨(some 8), none, false, .mv (.t 1), none⟩, .o ⟨(some 9), none, false, .bin .geq (.t 7) (.t 8), none⟩, .o ⟨(some 10), none, false, .mv (.t 9), none⟩, .o ⟨(some 11), (some (10, true)), false, .mv (.t 0), none⟩, .o ⟨(some 12), (some (10, true)), false, .mv (.t 2), none⟩, .o ⟨(some 13), (some (10, true)), false, .bin .leq (.t 11) (.t 12), none⟩, .o ⟨(some 14), none, false, .pick (.t 10) (.t 13) (.c (.bool false)), none⟩, .o ⟨(some 6), none, false, .mv (.t 14), (some [6])⟩]
def c_spec_l00In_1 : ACode := .region c_spec_l00In_o1
def c_spec_l00In_2 : ACode := .seq c_spec_l00In_1 .ret
def c_spec_l00In_3 : ACode := .seq c_spec_l00In_0 c_spec_l00In_2
section
variable (C : Cx) (n : Nat) (sk : List AItem) (e : Env) (h : Heap) (R : AV → Heap → Prop)
@[simp, simp ↓] theorem c_spec_l00In_0_r : vc2 C (n + 1) [] (.code c_spec_l00In_0 :: sk) e h R = (vc2 C n c_spec_l00In_o0 sk e h R) := nr rfl
@[simp, simp ↓] theorem c_spec_l00In_1_r : vc2 C (n + 1) [] (.code c_spec_l00In_1 :: sk) e h R = (vc2 C n c_spec_l00In_o1 sk e h R) := nr rfl
@[simp, simp ↓] theorem c_spec_l00In_2_r : vc2 C (n + 1) [] (.code c_spec_l00In_2 :: sk) e h R = (vc2 C n [] (.code c_spec_l00In_1 :: .code .ret :: sk) e h R) := nr rfl
@[simp, simp ↓] theorem c_spec_l00In_3_r : vc2 C (n + 1) [] (.code c_spec_l00In_3 :: sk) e h R = (vc2 C n [] (.code c_spec_l00In_0 :: .code c_spec_l00In_2 :: sk) e h R) := nr rfl
end
noncomputable def c_spec_l00In_C (orc : Orc) : Cx := ⟨Try.prog, [], 69, 15, [.tmp 6], orc⟩
@[simp] theorem c_spec_l00In_C_P (orc : Orc) : (c_spec_l00In_C orc).P = Try.prog := nr rfl
@[simp] theorem c_spec_l00In_C_o (orc : Orc) : (c_spec_l00In_C orc).orc = orc := nr rfl
@[simp] theorem c_spec_l00In_C_r (orc : Orc) : (c_spec_l00In_C orc).res = [.tmp 6] := nr rfl
theorem c_spec_l00In_of {args : List AV} {h : Heap} {R : AV → Heap → Prop} {k : Nat} (ha : args.length = k) {orc : Orc} (hp : Pure Try.prog orc) (hk : Is (c_spec_l00In_C orc) Try.f69 → Run2 (c_spec_l00In_C orc) [.code c_spec_l00In_3] (argEnv 0 args) h (Post R)) (hle : k ≤ 15 := by simp) : ACalls Try.prog 69 args h R :=
  contract2 [] c_spec_l00In_3 [.tmp 6] Try.func69 (by decide +kernel) rfl (by kernel_rfl) (by rw [ha]; exact hle) (by kernel_rfl) hp hk
theorem c_spec_l00In_of0 {args : List AV} {h : Heap} {R : AV → Heap → Prop} {k : Nat} (ha : args.length = k) {orc : Orc} (hp : Pure Try.prog orc) (hk : Is (c_spec_l00In_C orc) Try.f69 → Run2 (c_spec_l00In_C orc) [.code c_spec_l00In_3] (argEnv 0 args) h R) (hle : k ≤ 15 := by simp) : ACalls Try.prog 69 args h R :=
  contract20 [] c_spec_l00In_3 [.tmp 6] Try.func69 (by decide +kernel) rfl (by kernel_rfl) (by rw [ha]; exact hle) (by kernel_rfl) hp hk
theorem l00In_c (a b c : Int) (h : Heap) : ACalls Try.prog 69 [.int .i64 a, .int .i64 b, .int .i64 c] h (fun v h' => v = .bool (decide (b ≤ a) && decide (a ≤ c)) ∧ h' = h) := by
  refine c_spec_l00In_of0 rfl noPure fun I => ?_
  refine Run2.of I 1000 ?_
  simp -implicitDefEqProofs
  grind
noncomputable def o_l00In : List AV → Option (Prop × AV) := tab (fun (x : Int × Int × Int) => match x with | (a, b, c) => [.int .i64 a, .int .i64 b, .int .i64 c]) (fun x => match x with | (a, b, c) => True) (fun x => match x with | (a, b, c) => .bool (decide (b ≤ a) && decide (a ≤ c)))
@[simp] theorem o_l00In_e (a : Int) (b : Int) (c : Int) : o_l00In [.int .i64 a, .int .i64 b, .int .i64 c] = some (True, .bool (decide (b ≤ a) && decide (a ≤ c))) := tab_at (enc := fun (x : Int × Int × Int) => match x with | (a, b, c) => [.int .i64 a, .int .i64 b, .int .i64 c]) (fun x y h => by
  obtain ⟨a1, b1, c1⟩ := x; obtain ⟨a2, b2, c2⟩ := y; simp at h; simp [h]) _ _ (a, b, c)
theorem o_l00In_k : Knows Try.prog 69 o_l00In := tab_knows fun x hx h => by
  obtain ⟨a, b, c⟩ := x; exact l00In_c _ _ _ h
abbrev c_impl_within_o0 : List AJ := [.o ⟨(some 6), none, false, .mv (.c (.bool false)), (some [0, 1, 2])⟩]
def c_impl_within_0 : ACode := .region c_impl_within_o0
abbrev c_impl_within_o1 : List AJ := [.o ⟨(some 7), none, false, .mv (.t 0), none⟩, .o ⟨(some 8), none, false, .mv (.t 1), none⟩, .o ⟨(some 9), none, false, .bin .geq (.t 7) (.t 8), none⟩, .o ⟨(some 10), none, false, .mv (.t 9), none⟩, .o ⟨(some 11), (some (10, true)), false, .mv (.t 0), none⟩, .o ⟨(some 12), (some (10, true)), false, .mv (.t 2), none⟩, .o ⟨(some 13), (some (10, true)), false, .bin .leq (.t 11) (.t 12), none⟩, .o ⟨(some 14), none, false, .pick (.t 10) (.t 13) (.c (.bool false)), none⟩, .o ⟨(some 6), none, false, .mv (.t 14), (some [6])⟩]
def c_impl_within_1 : ACode := .region c_impl_within_o1
def c_impl_within_2 : ACode := .seq c_impl_within_1 .ret
def c_impl_within_3 : ACode := .seq c_impl_within_0 c_impl_within_2
section
variable (C : Cx) (n : Nat) (sk : List AItem) (e : Env) (h : Heap) (R : AV → Heap → Prop)
@[simp, simp ↓] theorem c_impl_within_0_r : vc2 C (n + 1) [] (.code c_impl_within_0 :: sk) e h R = (vc2 C n c_impl_within_o0 sk e h R) := nr rfl
@[simp, simp ↓] theorem c_impl_within_1_r : vc2 C (n + 1) [] (.code c_impl_within_1 :: sk) e h R = (vc2 C n c_impl_within_o1 sk e h R) := nr rfl
@[simp, simp ↓] theorem c_impl_within_2_r : vc2 C (n + 1) [] (.code c_impl_within_2 :: sk) e h R = (vc2 C n [] (.code c_impl_within_1 :: .code .ret :: sk) e h R) := nr rfl
@[simp, simp ↓] theorem c_impl_within_3_r : vc2 C (n + 1) [] (.code c_impl_within_3 :: sk) e h R = (vc2 C n [] (.code c_impl_within_0 :: .code c_impl_within_2 :: sk) e h R) := nr rfl
end
noncomputable def c_impl_within_C (orc : Orc) : Cx := ⟨Try.prog, [], 104, 15, [.tmp 6], orc⟩
@[simp] theorem c_impl_within_C_P (orc : Orc) : (c_impl_within_C orc).P = Try.prog := nr rfl
@[simp] theorem c_impl_within_C_o (orc : Orc) : (c_impl_within_C orc).orc = orc := nr rfl
@[simp] theorem c_impl_within_C_r (orc : Orc) : (c_impl_within_C orc).res = [.tmp 6] := nr rfl
theorem c_impl_within_of {args : List AV} {h : Heap} {R : AV → Heap → Prop} {k : Nat} (ha : args.length = k) {orc : Orc} (hp : Pure Try.prog orc) (hk : Is (c_impl_within_C orc) Try.f104 → Run2 (c_impl_within_C orc) [.code c_impl_within_3] (argEnv 0 args) h (Post R)) (hle : k ≤ 15 := by simp) : ACalls Try.prog 104 args h R :=
  contract2 [] c_impl_within_3 [.tmp 6] Try.func104 (by decide +kernel) rfl (by kernel_rfl) (by rw [ha]; exact hle) (by kernel_rfl) hp hk
theorem c_impl_within_of0 {args : List AV} {h : Heap} {R : AV → Heap → Prop} {k : Nat} (ha : args.length = k) {orc : Orc} (hp : Pure Try.prog orc) (hk : Is (c_impl_within_C orc) Try.f104 → Run2 (c_impl_within_C orc) [.code c_impl_within_3] (argEnv 0 args) h R) (hle : k ≤ 15 := by simp) : ACalls Try.prog 104 args h R :=
  contract20 [] c_impl_within_3 [.tmp 6] Try.func104 (by decide +kernel) rfl (by kernel_rfl) (by rw [ha]; exact hle) (by kernel_rfl) hp hk
theorem within_c (a b c : Int) (h : Heap) : ACalls Try.prog 104 [.int .i64 a, .int .i64 b, .int .i64 c] h (fun v h' => v = .bool (decide (b ≤ a) && decide (a ≤ c)) ∧ h' = h) := by
  refine c_impl_within_of0 rfl noPure fun I => ?_
  refine Run2.of I 1000 ?_
  simp -implicitDefEqProofs
  grind
noncomputable def o_within : List AV → Option (Prop × AV) := tab (fun (x : Int × Int × Int) => match x with | (a, b, c) => [.int .i64 a, .int .i64 b, .int .i64 c]) (fun x => match x with | (a, b, c) => True) (fun x => match x with | (a, b, c) => .bool (decide (b ≤ a) && decide (a ≤ c)))
@[simp] theorem o_within_e (a : Int) (b : Int) (c : Int) : o_within [.int .i64 a, .int .i64 b, .int .i64 c] = some (True, .bool (decide (b ≤ a) && decide (a ≤ c))) := tab_at (enc := fun (x : Int × Int × Int) => match x with | (a, b, c) => [.int .i64 a, .int .i64 b, .int .i64 c]) (fun x y h => by
  obtain ⟨a1, b1, c1⟩ := x; obtain ⟨a2, b2, c2⟩ := y; simp at h; simp [h]) _ _ (a, b, c)
theorem o_within_k : Knows Try.prog 104 o_within := tab_knows fun x hx h => by
  obtain ⟨a, b, c⟩ := x; exact within_c _ _ _ h
abbrev c_cmp_isNaN_int64_o0 : List AJ := [.o ⟨(some 2), none, false, .mv (.c (.bool false)), (some [0])⟩]
def c_cmp_isNaN_int64_0 : ACode := .region c_cmp_isNaN_int64_o0
abbrev c_cmp_isNaN_int64_o1 : List AJ := [.o ⟨(some 3), none, false, .mv (.t 0), none⟩, .o ⟨(some 4), none, false, .mv (.t 0), none⟩, .o ⟨(some 5), none, false, .bin .neq (.t 3) (.t 4), none⟩, .o ⟨(some 2), none, false, .mv (.t 5), (some [2])⟩]
def c_cmp_isNaN_int64_1 : ACode := .region c_cmp_isNaN_int64_o1
def c_cmp_isNaN_int64_2 : ACode := .seq c_cmp_isNaN_int64_1 .ret
def c_cmp_isNaN_int64_3 : ACode := .seq c_cmp_isNaN_int64_0 c_cmp_isNaN_int64_2
section
variable (C : Cx) (n : Nat) (sk : List AItem) (e : Env) (h : Heap) (R : AV → Heap → Prop)
@[simp, simp ↓] theorem c_cmp_isNaN_int64_0_r : vc2 C (n + 1) [] (.code c_cmp_isNaN_int64_0 :: sk) e h R = (vc2 C n c_cmp_isNaN_int64_o0 sk e h R) := nr rfl
@[simp, simp ↓] theorem c_cmp_isNaN_int64_1_r : vc2 C (n + 1) [] (.code c_cmp_isNaN_int64_1 :: sk) e h R = (vc2 C n c_cmp_isNaN_int64_o1 sk e h R) := nr rfl
@[simp, simp ↓] theorem c_cmp_isNaN_int64_2_r : vc2 C (n + 1) [] (.code c_cmp_isNaN_int64_2 :: sk) e h R = (vc2 C n [] (.code c_cmp_isNaN_int64_1 :: .code .ret :: sk) e h R) := nr rfl
@[simp, simp ↓] theorem c_cmp_isNaN_int64_3_r : vc2 C (n + 1) [] (.code c_cmp_isNaN_int64_3 :: sk) e h R = (vc2 C n [] (.code c_cmp_isNaN_int64_0 :: .code c_cmp_isNaN_int64_2 :: sk) e h R) := nr rfl
end
noncomputable def c_cmp_isNaN_int64_C (orc : Orc) : Cx := ⟨Try.prog, [], 145, 6, [.tmp 2], orc⟩
@[simp] theorem c_cmp_isNaN_int64_C_P (orc : Orc) : (c_cmp_isNaN_int64_C orc).P = Try.prog := nr rfl
@[simp] theorem c_cmp_isNaN_int64_C_o (orc : Orc) : (c_cmp_isNaN_int64_C orc).orc = orc := nr rfl
@[simp] theorem c_cmp_isNaN_int64_C_r (orc : Orc) : (c_cmp_isNaN_int64_C orc).res = [.tmp 2] := nr rfl
theorem c_cmp_isNaN_int64_of {args : List AV} {h : Heap} {R : AV → Heap → Prop} {k : Nat} (ha : args.length = k) {orc : Orc} (hp : Pure Try.prog orc) (hk : Is (c_cmp_isNaN_int64_C orc) Try.f145 → Run2 (c_cmp_isNaN_int64_C orc) [.code c_cmp_isNaN_int64_3] (argEnv 0 args) h (Post R)) (hle : k ≤ 6 := by simp) : ACalls Try.prog 145 args h R :=
  contract2 [] c_cmp_isNaN_int64_3 [.tmp 2] Try.func145 (by decide +kernel) rfl (by kernel_rfl) (by rw [ha]; exact hle) (by kernel_rfl) hp hk
theorem c_cmp_isNaN_int64_of0 {args : List AV} {h : Heap} {R : AV → Heap → Prop} {k : Nat} (ha : args.length = k) {orc : Orc} (hp : Pure Try.prog orc) (hk : Is (c_cmp_isNaN_int64_C orc) Try.f145 → Run2 (c_cmp_isNaN_int64_C orc) [.code c_cmp_isNaN_int64_3] (argEnv 0 args) h R) (hle : k ≤ 6 := by simp) : ACalls Try.prog 145 args h R :=
  contract20 [] c_cmp_isNaN_int64_3 [.tmp 2] Try.func145 (by decide +kernel) rfl (by kernel_rfl) (by rw [ha]; exact hle) (by kernel_rfl) hp hk
theorem isNaN_c (a : Int) (h : Heap) : ACalls Try.prog 145 [.int .i64 a] h (fun v h' => v = .bool false ∧ h' = h) := by
  refine c_cmp_isNaN_int64_of0 rfl noPure fun I => ?_
  refine Run2.of I 1000 ?_
  simp -implicitDefEqProofs
noncomputable def o_isNaN : List AV → Option (Prop × AV) := tab (fun (x : Int) => match x with | a => [.int .i64 a]) (fun x => match x with | a => True) (fun x => match x with | a => .bool false)
@[simp] theorem o_isNaN_e (a : Int) : o_isNaN [.int .i64 a] = some (True, .bool false) := tab_at (enc := fun (x : Int) => match x with | a => [.int .i64 a]) (fun x y h => by
  simp at h; simp [h]) _ _ a
theorem o_isNaN_k : Knows Try.prog 145 o_isNaN := tab_knows fun x hx h => by
  exact isNaN_c _ h
noncomputable def orc1 : List (Nat × (List AV → Option (Prop × AV))) := (69, o_l00In) :: (104, o_within) :: (145, o_isNaN) :: []
theorem orc1_p : Pure Try.prog (lk orc1) := (lk_pure o_l00In_k (lk_pure o_within_k (lk_pure o_isNaN_k lk_pure0)))
@[simp] theorem orc1_l (g : FuncId) (l : List AV) : lk orc1 g l = if g = 69 then o_l00In l else if g = 104 then o_within l else if g = 145 then o_isNaN l else none := nr rfl
def cmpI (a b : Int) : Int := if a < b then -1 else if b < a then 1 else 0
abbrev c_cmp_Compare_int64_o0 : List AJ := [.o ⟨(some 4), none, false, .mv (.c (.int .i64 0)), (some [0, 1])⟩]
def c_cmp_Compare_int64_0 : ACode := .region c_cmp_Compare_int64_o0
abbrev c_cmp_Compare_int64_o1 : List AJ := [.o ⟨(some 7), none, false, .mv (.t 0), none⟩, .o ⟨(some 8), none, false, .call 145 [(.t 7)], none⟩, .o ⟨(some 5), none, false, .mv (.t 8), (some [0, 1, 5])⟩]
def c_cmp_Compare_int64_1 : ACode := .region c_cmp_Compare_int64_o1
abbrev c_cmp_Compare_int64_o2 : List AJ := [.o ⟨(some 9), none, false, .mv (.t 1), none⟩, .o ⟨(some 10), none, false, .call 145 [(.t 9)], none⟩, .o ⟨(some 6), none, false, .mv (.t 10), (some [0, 1, 5, 6])⟩]
def c_cmp_Compare_int64_2 : ACode := .region c_cmp_Compare_int64_o2
abbrev c_cmp_Compare_int64_o3 : List AJ := [.o ⟨(some 11), none, false, .mv (.t 5), (some [0, 1, 6, 11])⟩]
def c_cmp_Compare_int64_3 : ACode := .region c_cmp_Compare_int64_o3
abbrev c_cmp_Compare_int64_o4 : List AJ := [.o ⟨(some 12), none, false, .mv (.t 6), (some [12])⟩]
def c_cmp_Compare_int64_4 : ACode := .region c_cmp_Compare_int64_o4
abbrev c_cmp_Compare_int64_o5 : List AJ := [.o ⟨(some 4), none, false, .mv (.c (.int .i64 0)), (some [4])⟩]
def c_cmp_Compare_int64_5 : ACode := .region c_cmp_Compare_int64_o5
def c_cmp_Compare_int64_6 : ACode := .seq c_cmp_Compare_int64_5 .ret
def c_cmp_Compare_int64_7 : ACode := .cond (.t 12) c_cmp_Compare_int64_6 .skip
def c_cmp_Compare_int64_8 : ACode := .seq c_cmp_Compare_int64_4 c_cmp_Compare_int64_7
abbrev c_cmp_Compare_int64_o6 : List AJ := [.o ⟨(some 4), none, false, .mv (.c (.int .i64 (-1))), (some [4])⟩]
def c_cmp_Compare_int64_9 : ACode := .region c_cmp_Compare_int64_o6
def c_cmp_Compare_int64_10 : ACode := .seq c_cmp_Compare_int64_9 .ret
def c_cmp_Compare_int64_11 : ACode := .seq c_cmp_Compare_int64_8 c_cmp_Compare_int64_10
def c_cmp_Compare_int64_12 : ACode := .cond (.t 11) c_cmp_Compare_int64_11 .skip
def c_cmp_Compare_int64_13 : ACode := .seq c_cmp_Compare_int64_3 c_cmp_Compare_int64_12
abbrev c_cmp_Compare_int64_o7 : List AJ := [.o ⟨(some 13), none, false, .mv (.t 6), (some [0, 1, 13])⟩]
def c_cmp_Compare_int64_14 : ACode := .region c_cmp_Compare_int64_o7
abbrev c_cmp_Compare_int64_o8 : List AJ := [.o ⟨(some 4), none, false, .mv (.c (.int .i64 1)), (some [4])⟩]
def c_cmp_Compare_int64_15 : ACode := .region c_cmp_Compare_int64_o8
def c_cmp_Compare_int64_16 : ACode := .seq c_cmp_Compare_int64_15 .ret
def c_cmp_Compare_int64_17 : ACode := .cond (.t 13) c_cmp_Compare_int64_16 .skip
def c_cmp_Compare_int64_18 : ACode := .seq c_cmp_Compare_int64_14 c_cmp_Compare_int64_17
abbrev c_cmp_Compare_int64_o9 : List AJ := [.o ⟨(some 14), none, false, .mv (.t 0), none⟩, .o ⟨(some 15), none, false, .mv (.t 1), none⟩, .o ⟨(some 16), none, false, .bin .lss (.t 14) (.t 15), (some [0, 1, 16])⟩]
def c_cmp_Compare_int64_19 : ACode := .region c_cmp_Compare_int64_o9
abbrev c_cmp_Compare_int64_o10 : List AJ := [.o ⟨(some 4), none, false, .mv (.c (.int .i64 (-1))), (some [4])⟩]
def c_cmp_Compare_int64_20 : ACode := .region c_cmp_Compare_int64_o10
def c_cmp_Compare_int64_21 : ACode := .seq c_cmp_Compare_int64_20 .ret
def c_cmp_Compare_int64_22 : ACode := .cond (.t 16) c_cmp_Compare_int64_21 .skip
def c_cmp_Compare_int64_23 : ACode := .seq c_cmp_Compare_int64_19 c_cmp_Compare_int64_22
abbrev c_cmp_Compare_int64_o11 : List AJ := [.o ⟨(some 17), none, false, .mv (.t 0), none⟩, .o ⟨(some 18), none, false, .mv (.t 1), none⟩, .o ⟨(some 19), none, false, .bin .gtr (.t 17) (.t 18), (some [19])⟩]
def c_cmp_Compare_int64_24 : ACode := .region c_cmp_Compare_int64_o11
abbrev c_cmp_Compare_int64_o12 : List AJ := [.o ⟨(some 4), none, false, .mv (.c (.int .i64 1)), (some [4])⟩]
def c_cmp_Compare_int64_25 : ACode := .region c_cmp_Compare_int64_o12
def c_cmp_Compare_int64_26 : ACode := .seq c_cmp_Compare_int64_25 .ret
def c_cmp_Compare_int64_27 : ACode := .cond (.t 19) c_cmp_Compare_int64_26 .skip
def c_cmp_Compare_int64_28 : ACode := .seq c_cmp_Compare_int64_24 c_cmp_Compare_int64_27
abbrev c_cmp_Compare_int64_o13 : List AJ := [.o ⟨(some 4), none, false, .mv (.c (.int .i64 0)), (some [4])⟩]
def c_cmp_Compare_int64_29 : ACode := .region c_cmp_Compare_int64_o13
def c_cmp_Compare_int64_30 : ACode := .seq c_cmp_Compare_int64_29 .ret
def c_cmp_Compare_int64_31 : ACode := .seq c_cmp_Compare_int64_28 c_cmp_Compare_int64_30
def c_cmp_Compare_int64_32 : ACode := .seq c_cmp_Compare_int64_23 c_cmp_Compare_int64_31
def c_cmp_Compare_int64_33 : ACode := .seq c_cmp_Compare_int64_18 c_cmp_Compare_int64_32
def c_cmp_Compare_int64_34 : ACode := .seq c_cmp_Compare_int64_13 c_cmp_Compare_int64_33
def c_cmp_Compare_int64_35 : ACode := .seq c_cmp_Compare_int64_2 c_cmp_Compare_int64_34
def c_cmp_Compare_int64_36 : ACode := .seq c_cmp_Compare_int64_1 c_cmp_Compare_int64_35
def c_cmp_Compare_int64_37 : ACode := .seq c_cmp_Compare_int64_0 c_cmp_Compare_int64_36
section
variable (C : Cx) (n : Nat) (sk : List AItem) (e : Env) (h : Heap) (R : AV → Heap → Prop)
@[simp, simp ↓] theorem c_cmp_Compare_int64_0_r : vc2 C (n + 1) [] (.code c_cmp_Compare_int64_0 :: sk) e h R = (vc2 C n c_cmp_Compare_int64_o0 sk e h R) := nr rfl
@[simp, simp ↓] theorem c_cmp_Compare_int64_1_r : vc2 C (n + 1) [] (.code c_cmp_Compare_int64_1 :: sk) e h R = (vc2 C n c_cmp_Compare_int64_o1 sk e h R) := nr rfl
@[simp, simp ↓] theorem c_cmp_Compare_int64_2_r : vc2 C (n + 1) [] (.code c_cmp_Compare_int64_2 :: sk) e h R = (vc2 C n c_cmp_Compare_int64_o2 sk e h R) := nr rfl
@[simp, simp ↓] theorem c_cmp_Compare_int64_3_r : vc2 C (n + 1) [] (.code c_cmp_Compare_int64_3 :: sk) e h R = (vc2 C n c_cmp_Compare_int64_o3 sk e h R) := nr rfl
@[simp, simp ↓] theorem c_cmp_Compare_int64_4_r : vc2 C (n + 1) [] (.code c_cmp_Compare_int64_4 :: sk) e h R = (vc2 C n c_cmp_Compare_int64_o4 sk e h R) := nr rfl
@[simp, simp ↓] theorem c_cmp_Compare_int64_5_r : vc2 C (n + 1) [] (.code c_cmp_Compare_int64_5 :: sk) e h R = (vc2 C n c_cmp_Compare_int64_o5 sk e h R) := nr rfl
@[simp, simp ↓] theorem c_cmp_Compare_int64_6_r : vc2 C (n + 1) [] (.code c_cmp_Compare_int64_6 :: sk) e h R = (vc2 C n [] (.code c_cmp_Compare_int64_5 :: .code .ret :: sk) e h R) := nr rfl
@[simp, simp ↓] theorem c_cmp_Compare_int64_7_r : vc2 C (n + 1) [] (.code c_cmp_Compare_int64_7 :: sk) e h R = (condK (ev e (.t 12)) (vc2 C n [] (.code c_cmp_Compare_int64_6 :: sk) e h R) (vc2 C n [] (.code .skip :: sk) e h R)) := nr rfl
@[simp, simp ↓] theorem c_cmp_Compare_int64_8_r : vc2 C (n + 1) [] (.code c_cmp_Compare_int64_8 :: sk) e h R = (vc2 C n [] (.code c_cmp_Compare_int64_4 :: .code c_cmp_Compare_int64_7 :: sk) e h R) := nr rfl
@[simp, simp ↓] theorem c_cmp_Compare_int64_9_r : vc2 C (n + 1) [] (.code c_cmp_Compare_int64_9 :: sk) e h R = (vc2 C n c_cmp_Compare_int64_o6 sk e h R) := nr rfl
@[simp, simp ↓] theorem c_cmp_Compare_int64_10_r : vc2 C (n + 1) [] (.code c_cmp_Compare_int64_10 :: sk) e h R = (vc2 C n [] (.code c_cmp_Compare_int64_9 :: .code .ret :: sk) e h R) := nr rfl
@[simp, simp ↓] theorem c_cmp_Compare_int64_11_r : vc2 C (n + 1) [] (.code c_cmp_Compare_int64_11 :: sk) e h R = (vc2 C n [] (.code c_cmp_Compare_int64_8 :: .code c_cmp_Compare_int64_10 :: sk) e h R) := nr rfl
@[simp, simp ↓] theorem c_cmp_Compare_int64_12_r : vc2 C (n + 1) [] (.code c_cmp_Compare_int64_12 :: sk) e h R = (condK (ev e (.t 11)) (vc2 C n [] (.code c_cmp_Compare_int64_11 :: sk) e h R) (vc2 C n [] (.code .skip :: sk) e h R)) := nr rfl
@[simp, simp ↓] theorem c_cmp_Compare_int64_13_r : vc2 C (n + 1) [] (.code c_cmp_Compare_int64_13 :: sk) e h R = (vc2 C n [] (.code c_cmp_Compare_int64_3 :: .code c_cmp_Compare_int64_12 :: sk) e h R) := nr rfl
@[simp, simp ↓] theorem c_cmp_Compare_int64_14_r : vc2 C (n + 1) [] (.code c_cmp_Compare_int64_14 :: sk) e h R = (vc2 C n c_cmp_Compare_int64_o7 sk e h R) := nr rfl
@[simp, simp ↓] theorem c_cmp_Compare_int64_15_r : vc2 C (n + 1) [] (.code c_cmp_Compare_int64_15 :: sk) e h R = (vc2 C n c_cmp_Compare_int64_o8 sk e h R) := nr rfl
@[simp, simp ↓] theorem c_cmp_Compare_int64_16_r : vc2 C (n + 1) [] (.code c_cmp_Compare_int64_16 :: sk) e h R = (vc2 C n [] (.code c_cmp_Compare_int64_15 :: .code .ret :: sk) e h R) := nr rfl
@[simp, simp ↓] theorem c_cmp_Compare_int64_17_r : vc2 C (n + 1) [] (.code c_cmp_Compare_int64_17 :: sk) e h R = (condK (ev e (.t 13)) (vc2 C n [] (.code c_cmp_Compare_int64_16 :: sk) e h R) (vc2 C n [] (.code .skip :: sk) e h R)) := nr rfl
@[simp, simp ↓] theorem c_cmp_Compare_int64_18_r : vc2 C (n + 1) [] (.code c_cmp_Compare_int64_18 :: sk) e h R = (vc2 C n [] (.code c_cmp_Compare_int64_14 :: .code c_cmp_Compare_int64_17 :: sk) e h R) := nr rfl
@[simp, simp ↓] theorem c_cmp_Compare_int64_19_r : vc2 C (n + 1) [] (.code c_cmp_Compare_int64_19 :: sk) e h R = (vc2 C n c_cmp_Compare_int64_o9 sk e h R) := nr rfl
@[simp, simp ↓] theorem c_cmp_Compare_int64_20_r : vc2 C (n + 1) [] (.code c_cmp_Compare_int64_20 :: sk) e h R = (vc2 C n c_cmp_Compare_int64_o10 sk e h R) := nr rfl
@[simp, simp ↓] theorem c_cmp_Compare_int64_21_r : vc2 C (n + 1) [] (.code c_cmp_Compare_int64_21 :: sk) e h R = (vc2 C n [] (.code c_cmp_Compare_int64_20 :: .code .ret :: sk) e h R) := nr rfl
@[simp, simp ↓] theorem c_cmp_Compare_int64_22_r : vc2 C (n + 1) [] (.code c_cmp_Compare_int64_22 :: sk) e h R = (condK (ev e (.t 16)) (vc2 C n [] (.code c_cmp_Compare_int64_21 :: sk) e h R) (vc2 C n [] (.code .skip :: sk) e h R)) := nr rfl
@[simp, simp ↓] theorem c_cmp_Compare_int64_23_r : vc2 C (n + 1) [] (.code c_cmp_Compare_int64_23 :: sk) e h R = (vc2 C n [] (.code c_cmp_Compare_int64_19 :: .code c_cmp_Compare_int64_22 :: sk) e h R) := nr rfl
@[simp, simp ↓] theorem c_cmp_Compare_int64_24_r : vc2 C (n + 1) [] (.code c_cmp_Compare_int64_24 :: sk) e h R = (vc2 C n c_cmp_Compare_int64_o11 sk e h R) := nr rfl
@[simp, simp ↓] theorem c_cmp_Compare_int64_25_r : vc2 C (n + 1) [] (.code c_cmp_Compare_int64_25 :: sk) e h R = (vc2 C n c_cmp_Compare_int64_o12 sk e h R) := nr rfl
@[simp, simp ↓] theorem c_cmp_Compare_int64_26_r : vc2 C (n + 1) [] (.code c_cmp_Compare_int64_26 :: sk) e h R = (vc2 C n [] (.code c_cmp_Compare_int64_25 :: .code .ret :: sk) e h R) := nr rfl
@[simp, simp ↓] theorem c_cmp_Compare_int64_27_r : vc2 C (n + 1) [] (.code c_cmp_Compare_int64_27 :: sk) e h R = (condK (ev e (.t 19)) (vc2 C n [] (.code c_cmp_Compare_int64_26 :: sk) e h R) (vc2 C n [] (.code .skip :: sk) e h R)) := nr rfl
@[simp, simp ↓] theorem c_cmp_Compare_int64_28_r : vc2 C (n + 1) [] (.code c_cmp_Compare_int64_28 :: sk) e h R = (vc2 C n [] (.code c_cmp_Compare_int64_24 :: .code c_cmp_Compare_int64_27 :: sk) e h R) := nr rfl
@[simp, simp ↓] theorem c_cmp_Compare_int64_29_r : vc2 C (n + 1) [] (.code c_cmp_Compare_int64_29 :: sk) e h R = (vc2 C n c_cmp_Compare_int64_o13 sk e h R) := nr rfl
@[simp, simp ↓] theorem c_cmp_Compare_int64_30_r : vc2 C (n + 1) [] (.code c_cmp_Compare_int64_30 :: sk) e h R = (vc2 C n [] (.code c_cmp_Compare_int64_29 :: .code .ret :: sk) e h R) := nr rfl
@[simp, simp ↓] theorem c_cmp_Compare_int64_31_r : vc2 C (n + 1) [] (.code c_cmp_Compare_int64_31 :: sk) e h R = (vc2 C n [] (.code c_cmp_Compare_int64_28 :: .code c_cmp_Compare_int64_30 :: sk) e h R) := nr rfl
@[simp, simp ↓] theorem c_cmp_Compare_int64_32_r : vc2 C (n + 1) [] (.code c_cmp_Compare_int64_32 :: sk) e h R = (vc2 C n [] (.code c_cmp_Compare_int64_23 :: .code c_cmp_Compare_int64_31 :: sk) e h R) := nr rfl
@[simp, simp ↓] theorem c_cmp_Compare_int64_33_r : vc2 C (n + 1) [] (.code c_cmp_Compare_int64_33 :: sk) e h R = (vc2 C n [] (.code c_cmp_Compare_int64_18 :: .code c_cmp_Compare_int64_32 :: sk) e h R) := nr rfl
@[simp, simp ↓] theorem c_cmp_Compare_int64_34_r : vc2 C (n + 1) [] (.code c_cmp_Compare_int64_34 :: sk) e h R = (vc2 C n [] (.code c_cmp_Compare_int64_13 :: .code c_cmp_Compare_int64_33 :: sk) e h R) := nr rfl
@[simp, simp ↓] theorem c_cmp_Compare_int64_35_r : vc2 C (n + 1) [] (.code c_cmp_Compare_int64_35 :: sk) e h R = (vc2 C n [] (.code c_cmp_Compare_int64_2 :: .code c_cmp_Compare_int64_34 :: sk) e h R) := nr rfl
@[simp, simp ↓] theorem c_cmp_Compare_int64_36_r : vc2 C (n + 1) [] (.code c_cmp_Compare_int64_36 :: sk) e h R = (vc2 C n [] (.code c_cmp_Compare_int64_1 :: .code c_cmp_Compare_int64_35 :: sk) e h R) := nr rfl
@[simp, simp ↓] theorem c_cmp_Compare_int64_37_r : vc2 C (n + 1) [] (.code c_cmp_Compare_int64_37 :: sk) e h R = (vc2 C n [] (.code c_cmp_Compare_int64_0 :: .code c_cmp_Compare_int64_36 :: sk) e h R) := nr rfl
end
noncomputable def c_cmp_Compare_int64_C (orc : Orc) : Cx := ⟨Try.prog, [], 139, 20, [.tmp 4], orc⟩
@[simp] theorem c_cmp_Compare_int64_C_P (orc : Orc) : (c_cmp_Compare_int64_C orc).P = Try.prog := nr rfl
@[simp] theorem c_cmp_Compare_int64_C_o (orc : Orc) : (c_cmp_Compare_int64_C orc).orc = orc := nr rfl
@[simp] theorem c_cmp_Compare_int64_C_r (orc : Orc) : (c_cmp_Compare_int64_C orc).res = [.tmp 4] := nr rfl
theorem c_cmp_Compare_int64_of {args : List AV} {h : Heap} {R : AV → Heap → Prop} {k : Nat} (ha : args.length = k) {orc : Orc} (hp : Pure Try.prog orc) (hk : Is (c_cmp_Compare_int64_C orc) Try.f139 → Run2 (c_cmp_Compare_int64_C orc) [.code c_cmp_Compare_int64_37] (argEnv 0 args) h (Post R)) (hle : k ≤ 20 := by simp) : ACalls Try.prog 139 args h R :=
  contract2 [] c_cmp_Compare_int64_37 [.tmp 4] Try.func139 (by decide +kernel) rfl (by kernel_rfl) (by rw [ha]; exact hle) (by kernel_rfl) hp hk
theorem c_cmp_Compare_int64_of0 {args : List AV} {h : Heap} {R : AV → Heap → Prop} {k : Nat} (ha : args.length = k) {orc : Orc} (hp : Pure Try.prog orc) (hk : Is (c_cmp_Compare_int64_C orc) Try.f139 → Run2 (c_cmp_Compare_int64_C orc) [.code c_cmp_Compare_int64_37] (argEnv 0 args) h R) (hle : k ≤ 20 := by simp) : ACalls Try.prog 139 args h R :=
  contract20 [] c_cmp_Compare_int64_37 [.tmp 4] Try.func139 (by decide +kernel) rfl (by kernel_rfl) (by rw [ha]; exact hle) (by kernel_rfl) hp hk
theorem compare_c (a b : Int) (h : Heap) : ACalls Try.prog 139 [.int .i64 a, .int .i64 b] h (fun v h' => v = .int .i64 (cmpI a b) ∧ h' = h) := by
  refine c_cmp_Compare_int64_of0 rfl orc1_p fun I => ?_
  refine Run2.of I 1000 ?_
  simp -implicitDefEqProofs [cmpI]
  grind
noncomputable def o_compare : List AV → Option (Prop × AV) := tab (fun (x : Int × Int) => match x with | (a, b) => [.int .i64 a, .int .i64 b]) (fun x => match x with | (a, b) => True) (fun x => match x with | (a, b) => .int .i64 (cmpI a b))
@[simp] theorem o_compare_e (a : Int) (b : Int) : o_compare [.int .i64 a, .int .i64 b] = some (True, .int .i64 (cmpI a b)) := tab_at (enc := fun (x : Int × Int) => match x with | (a, b) => [.int .i64 a, .int .i64 b]) (fun x y h => by
  obtain ⟨a1, b1⟩ := x; obtain ⟨a2, b2⟩ := y; simp at h; simp [h]) _ _ (a, b)
theorem o_compare_k : Knows Try.prog 139 o_compare := tab_knows fun x hx h => by
  obtain ⟨a, b⟩ := x; exact compare_c _ _ h
def orI : List Int → Int
  | [] => 0
  | x :: xs => if x = 0 then orI xs else x
abbrev c_cmp_Or_int_o0 : List AJ := [.o ⟨(some 2), none, false, .mv (.c (.int .i64 0)), (some [0])⟩]
def c_cmp_Or_int_0 : ACode := .region c_cmp_Or_int_o0
abbrev c_cmp_Or_int_o1 : List AJ := [.o ⟨(some 3), none, false, .mv (.c (.int .i64 0)), (some [0, 3])⟩]
def c_cmp_Or_int_1 : ACode := .region c_cmp_Or_int_o1
abbrev c_cmp_Or_int_o2 : List AJ := [.o ⟨(some 6), none, false, .mv (.t 0), none⟩, .o ⟨(some 7), none, false, .len (.t 6), none⟩, .o ⟨(some 8), none, false, .mv (.c (.int .i64 0)), (some [3, 6, 7, 8])⟩]
def c_cmp_Or_int_2 : ACode := .region c_cmp_Or_int_o2
abbrev c_cmp_Or_int_o3 : List AJ := [.o ⟨(some 9), none, false, .bin .lss (.t 8) (.t 7), (some [3, 6, 7, 8, 9])⟩]
def c_cmp_Or_int_3 : ACode := .region c_cmp_Or_int_o3
def c_cmp_Or_int_4 : ACode := .cond (.t 9) .skip (.exit 0)
abbrev c_cmp_Or_int_o4 : List AJ := [.o ⟨(some 10), none, false, .idxA 1 (.t 6) (.t 8), none⟩, .o ⟨(some 11), none, false, .load 1 false (.t 10), none⟩, .o ⟨(some 5), none, false, .mv (.t 11), (some [3, 5, 6, 7, 8])⟩]
def c_cmp_Or_int_5 : ACode := .region c_cmp_Or_int_o4
abbrev c_cmp_Or_int_o5 : List AJ := [.o ⟨(some 12), none, false, .mv (.t 5), none⟩, .o ⟨(some 13), none, false, .mv (.t 3), none⟩, .o ⟨(some 14), none, false, .bin .neq (.t 12) (.t 13), (some [3, 5, 6, 7, 8, 14])⟩]
def c_cmp_Or_int_6 : ACode := .region c_cmp_Or_int_o5
abbrev c_cmp_Or_int_o6 : List AJ := [.o ⟨(some 15), none, false, .mv (.t 5), none⟩, .o ⟨(some 2), none, false, .mv (.t 15), (some [2])⟩]
def c_cmp_Or_int_7 : ACode := .region c_cmp_Or_int_o6
def c_cmp_Or_int_8 : ACode := .seq c_cmp_Or_int_7 .ret
def c_cmp_Or_int_9 : ACode := .cond (.t 14) c_cmp_Or_int_8 .skip
def c_cmp_Or_int_10 : ACode := .seq c_cmp_Or_int_6 c_cmp_Or_int_9
def c_cmp_Or_int_11 : ACode := .seq c_cmp_Or_int_5 c_cmp_Or_int_10
def c_cmp_Or_int_12 : ACode := .block 1 c_cmp_Or_int_11
abbrev c_cmp_Or_int_o7 : List AJ := [.o ⟨(some 16), none, true, .bin .add (.t 8) (.c (.int .i64 1)), none⟩, .o ⟨(some 8), none, false, .mv (.t 16), (some [3, 6, 7, 8])⟩]
def c_cmp_Or_int_13 : ACode := .region c_cmp_Or_int_o7
def c_cmp_Or_int_14 : ACode := .seq c_cmp_Or_int_12 c_cmp_Or_int_13
def c_cmp_Or_int_15 : ACode := .seq c_cmp_Or_int_4 c_cmp_Or_int_14
def c_cmp_Or_int_16 : ACode := .seq c_cmp_Or_int_3 c_cmp_Or_int_15
def c_cmp_Or_int_17 : ACode := .loop c_cmp_Or_int_16
def c_cmp_Or_int_18 : ACode := .block 0 c_cmp_Or_int_17
def c_cmp_Or_int_19 : ACode := .seq c_cmp_Or_int_2 c_cmp_Or_int_18
abbrev c_cmp_Or_int_o8 : List AJ := [.o ⟨(some 17), none, false, .mv (.t 3), none⟩, .o ⟨(some 2), none, false, .mv (.t 17), (some [2])⟩]
def c_cmp_Or_int_20 : ACode := .region c_cmp_Or_int_o8
def c_cmp_Or_int_21 : ACode := .seq c_cmp_Or_int_20 .ret
def c_cmp_Or_int_22 : ACode := .seq c_cmp_Or_int_19 c_cmp_Or_int_21
def c_cmp_Or_int_23 : ACode := .seq c_cmp_Or_int_1 c_cmp_Or_int_22
def c_cmp_Or_int_24 : ACode := .seq c_cmp_Or_int_0 c_cmp_Or_int_23
section
variable (C : Cx) (n : Nat) (sk : List AItem) (e : Env) (h : Heap) (R : AV → Heap → Prop)
@[simp, simp ↓] theorem c_cmp_Or_int_0_r : vc2 C (n + 1) [] (.code c_cmp_Or_int_0 :: sk) e h R = (vc2 C n c_cmp_Or_int_o0 sk e h R) := nr rfl
@[simp, simp ↓] theorem c_cmp_Or_int_1_r : vc2 C (n + 1) [] (.code c_cmp_Or_int_1 :: sk) e h R = (vc2 C n c_cmp_Or_int_o1 sk e h R) := nr rfl
@[simp, simp ↓] theorem c_cmp_Or_int_2_r : vc2 C (n + 1) [] (.code c_cmp_Or_int_2 :: sk) e h R = (vc2 C n c_cmp_Or_int_o2 sk e h R) := nr rfl
@[simp, simp ↓] theorem c_cmp_Or_int_3_r : vc2 C (n + 1) [] (.code c_cmp_Or_int_3 :: sk) e h R = (vc2 C n c_cmp_Or_int_o3 sk e h R) := nr rfl
@[simp, simp ↓] theorem c_cmp_Or_int_4_r : vc2 C (n + 1) [] (.code c_cmp_Or_int_4 :: sk) e h R = (condK (ev e (.t 9)) (vc2 C n [] (.code .skip :: sk) e h R) (vc2 C n [] (.code (.exit 0) :: sk) e h R)) := nr rfl
@[simp, simp ↓] theorem c_cmp_Or_int_5_r : vc2 C (n + 1) [] (.code c_cmp_Or_int_5 :: sk) e h R = (vc2 C n c_cmp_Or_int_o4 sk e h R) := nr rfl
@[simp, simp ↓] theorem c_cmp_Or_int_6_r : vc2 C (n + 1) [] (.code c_cmp_Or_int_6 :: sk) e h R = (vc2 C n c_cmp_Or_int_o5 sk e h R) := nr rfl
@[simp, simp ↓] theorem c_cmp_Or_int_7_r : vc2 C (n + 1) [] (.code c_cmp_Or_int_7 :: sk) e h R = (vc2 C n c_cmp_Or_int_o6 sk e h R) := nr rfl
@[simp, simp ↓] theorem c_cmp_Or_int_8_r : vc2 C (n + 1) [] (.code c_cmp_Or_int_8 :: sk) e h R = (vc2 C n [] (.code c_cmp_Or_int_7 :: .code .ret :: sk) e h R) := nr rfl
@[simp, simp ↓] theorem c_cmp_Or_int_9_r : vc2 C (n + 1) [] (.code c_cmp_Or_int_9 :: sk) e h R = (condK (ev e (.t 14)) (vc2 C n [] (.code c_cmp_Or_int_8 :: sk) e h R) (vc2 C n [] (.code .skip :: sk) e h R)) := nr rfl
@[simp, simp ↓] theorem c_cmp_Or_int_10_r : vc2 C (n + 1) [] (.code c_cmp_Or_int_10 :: sk) e h R = (vc2 C n [] (.code c_cmp_Or_int_6 :: .code c_cmp_Or_int_9 :: sk) e h R) := nr rfl
@[simp, simp ↓] theorem c_cmp_Or_int_11_r : vc2 C (n + 1) [] (.code c_cmp_Or_int_11 :: sk) e h R = (vc2 C n [] (.code c_cmp_Or_int_5 :: .code c_cmp_Or_int_10 :: sk) e h R) := nr rfl
@[simp, simp ↓] theorem c_cmp_Or_int_12_r : vc2 C (n + 1) [] (.code c_cmp_Or_int_12 :: sk) e h R = (vc2 C n [] (.code c_cmp_Or_int_11 :: .inBlock 1 :: sk) e h R) := nr rfl
@[simp, simp ↓] theorem c_cmp_Or_int_13_r : vc2 C (n + 1) [] (.code c_cmp_Or_int_13 :: sk) e h R = (vc2 C n c_cmp_Or_int_o7 sk e h R) := nr rfl
@[simp, simp ↓] theorem c_cmp_Or_int_14_r : vc2 C (n + 1) [] (.code c_cmp_Or_int_14 :: sk) e h R = (vc2 C n [] (.code c_cmp_Or_int_12 :: .code c_cmp_Or_int_13 :: sk) e h R) := nr rfl
@[simp, simp ↓] theorem c_cmp_Or_int_15_r : vc2 C (n + 1) [] (.code c_cmp_Or_int_15 :: sk) e h R = (vc2 C n [] (.code c_cmp_Or_int_4 :: .code c_cmp_Or_int_14 :: sk) e h R) := nr rfl
@[simp, simp ↓] theorem c_cmp_Or_int_16_r : vc2 C (n + 1) [] (.code c_cmp_Or_int_16 :: sk) e h R = (vc2 C n [] (.code c_cmp_Or_int_3 :: .code c_cmp_Or_int_15 :: sk) e h R) := nr rfl
@[simp, simp ↓] theorem c_cmp_Or_int_17_r : vc2 C (n + 1) [] (.code c_cmp_Or_int_17 :: sk) e h R = (Run2 C (.code c_cmp_Or_int_16 :: .inLoop c_cmp_Or_int_16 :: sk) e h R) := nr rfl
@[simp, simp ↓] theorem c_cmp_Or_int_18_r : vc2 C (n + 1) [] (.code c_cmp_Or_int_18 :: sk) e h R = (vc2 C n [] (.code c_cmp_Or_int_17 :: .inBlock 0 :: sk) e h R) := nr rfl
@[simp, simp ↓] theorem c_cmp_Or_int_19_r : vc2 C (n + 1) [] (.code c_cmp_Or_int_19 :: sk) e h R = (vc2 C n [] (.code c_cmp_Or_int_2 :: .code c_cmp_Or_int_18 :: sk) e h R) := nr rfl
@[simp, simp ↓] theorem c_cmp_Or_int_20_r : vc2 C (n + 1) [] (.code c_cmp_Or_int_20 :: sk) e h R = (vc2 C n c_cmp_Or_int_o8 sk e h R) := nr rfl
@[simp, simp ↓] theorem c_cmp_Or_int_21_r : vc2 C (n + 1) [] (.code c_cmp_Or_int_21 :: sk) e h R = (vc2 C n [] (.code c_cmp_Or_int_20 :: .code .ret :: sk) e h R) := nr rfl
@[simp, simp ↓] theorem c_cmp_Or_int_22_r : vc2 C (n + 1) [] (.code c_cmp_Or_int_22 :: sk) e h R = (vc2 C n [] (.code c_cmp_Or_int_19 :: .code c_cmp_Or_int_21 :: sk) e h R) := nr rfl
@[simp, simp ↓] theorem c_cmp_Or_int_23_r : vc2 C (n + 1) [] (.code c_cmp_Or_int_23 :: sk) e h R = (vc2 C n [] (.code c_cmp_Or_int_1 :: .code c_cmp_Or_int_22 :: sk) e h R) := nr rfl
@[simp, simp ↓] theorem c_cmp_Or_int_24_r : vc2 C (n + 1) [] (.code c_cmp_Or_int_24 :: sk) e h R = (vc2 C n [] (.code c_cmp_Or_int_0 :: .code c_cmp_Or_int_23 :: sk) e h R) := nr rfl
end
noncomputable def c_cmp_Or_int_C (orc : Orc) : Cx := ⟨Try.prog, [], 138, 18, [.tmp 2], orc⟩
@[simp] theorem c_cmp_Or_int_C_P (orc : Orc) : (c_cmp_Or_int_C orc).P = Try.prog := nr rfl
@[simp] theorem c_cmp_Or_int_C_o (orc : Orc) : (c_cmp_Or_int_C orc).orc = orc := nr rfl
@[simp] theorem c_cmp_Or_int_C_r (orc : Orc) : (c_cmp_Or_int_C orc).res = [.tmp 2] := nr rfl
theorem c_cmp_Or_int_of {args : List AV} {h : Heap} {R : AV → Heap → Prop} {k : Nat} (ha : args.length = k) {orc : Orc} (hp : Pure Try.prog orc) (hk : Is (c_cmp_Or_int_C orc) Try.f138 → Run2 (c_cmp_Or_int_C orc) [.code c_cmp_Or_int_24] (argEnv 0 args) h (Post R)) (hle : k ≤ 18 := by simp) : ACalls Try.prog 138 args h R :=
  contract2 [] c_cmp_Or_int_24 [.tmp 2] Try.func138 (by decide +kernel) rfl (by kernel_rfl) (by rw [ha]; exact hle) (by kernel_rfl) hp hk
theorem c_cmp_Or_int_of0 {args : List AV} {h : Heap} {R : AV → Heap → Prop} {k : Nat} (ha : args.length = k) {orc : Orc} (hp : Pure Try.prog orc) (hk : Is (c_cmp_Or_int_C orc) Try.f138 → Run2 (c_cmp_Or_int_C orc) [.code c_cmp_Or_int_24] (argEnv 0 args) h R) (hle : k ≤ 18 := by simp) : ACalls Try.prog 138 args h R :=
  contract20 [] c_cmp_Or_int_24 [.tmp 2] Try.func138 (by decide +kernel) rfl (by kernel_rfl) (by rw [ha]; exact hle) (by kernel_rfl) hp hk
theorem or_c (l : List Int) (h : Heap) (hl : l.length ≤ 1048576) : ACalls Try.prog 138 [.snap 1 (l.map fun n => .int .i64 n)] h (fun v h' => v = .int .i64 (orI l) ∧ h' = h) := by
  refine c_cmp_Or_int_of0 rfl noPure fun I => ?_
  refine Run2.of I 1000 ?_
  simp -implicitDefEqProofs
  refine Run2.loop (fun i => [(3, .int .i64 0), (6, .snap 1 (l.map fun n => .int .i64 n)), (7, .int .i64 l.length), (8, .int .i64 (i : Nat))]) (fun i => h) (fun i => l.length - i) (fun i => i ≤ l.length ∧ orI (l.drop i) = orI l) 0 (by simp) fun i hi ih => ?_
  by_cases hlt : i < l.length
  · have hd : l.drop i = l[i] :: l.drop (i + 1) := List.drop_eq_getElem_cons hlt
    refine Run2.of I 1000 ?_
    simp -implicitDefEqProofs [hlt]
    constructor
    · intro hne
      rw [← hi.2, hd, orI, if_neg hne]
    · intro he
      refine ⟨by omega, ?_⟩
      have := ih (i + 1) ⟨by omega, by rw [← hi.2, hd, orI, if_pos he]⟩ (by omega)
      simpa using this
  · have : i = l.length := by omega
    have h2 := hi.2
    rw [List.drop_of_length_le (by omega)] at h2
    refine Run2.of I 1000 ?_
    simp -implicitDefEqProofs [hlt]
    exact h2
noncomputable def o_or2 : List AV → Option (Prop × AV) := tab (fun (x : Int × Int) => match x with | (a, b) => [.snap 1 [.int .i64 a, .int .i64 b]]) (fun x => match x with | (a, b) => True) (fun x => match x with | (a, b) => .int .i64 (orI [a, b]))
@[simp] theorem o_or2_e (a : Int) (b : Int) : o_or2 [.snap 1 [.int .i64 a, .int .i64 b]] = some (True, .int .i64 (orI [a, b])) := tab_at (enc := fun (x : Int × Int) => match x with | (a, b) => [.snap 1 [.int .i64 a, .int .i64 b]]) (fun x y h => by
  obtain ⟨a1, b1⟩ := x; obtain ⟨a2, b2⟩ := y; simp at h; simp [h]) _ _ (a, b)
theorem o_or2_k : Knows Try.prog 138 o_or2 := tab_knows fun x hx h => by
  obtain ⟨a, b⟩ := x; exact or_c [a, b] h (by simp)
noncomputable def orc2 : List (Nat × (List AV → Option (Prop × AV))) := (139, o_compare) :: (138, o_or2) :: orc1
theorem orc2_p : Pure Try.prog (lk orc2) := (lk_pure o_compare_k (lk_pure o_or2_k orc1_p))
@[simp] theorem orc2_l (g : FuncId) (l : List AV) : lk orc2 g l = if g = 139 then o_compare l else if g = 138 then o_or2 l else lk orc1 g l := nr rfl
theorem orI2 (a b c d : Int) : (0 ≤ orI [cmpI a b, cmpI c d]) ↔ ¬ (a < b ∨ a = b ∧ c < d) := by
  simp only [orI, cmpI]
  grind
theorem orI2' (a b c d : Int) : (orI [cmpI a b, cmpI c d] < 0) ↔ (a < b ∨ a = b ∧ c < d) := by
  simp only [orI, cmpI]
  grind
def T.lt (a b : T) : Prop := a.f < b.f ∨ a.f = b.f ∧ a.t < b.t
instance (a b : T) : Decidable (a.lt b) := by unfold T.lt; infer_instance
abbrev c_impl_compareEdges_o0 : List AJ := [.o ⟨(some 2), none, false, .box false 3 (.t 0), none⟩, .o ⟨(some 3), none, false, .box false 3 (.t 1), none⟩, .o ⟨(some 4), none, false, .mv (.c (.int .i64 0)), (some [2, 3])⟩]
def c_impl_compareEdges_0 : ACode := .region c_impl_compareEdges_o0
abbrev c_impl_compareEdges_o1 : List AI := [⟨(some 5), none, false, .fieldA 0 (.t 2), none⟩, ⟨(some 6), none, false, .load 1 false (.t 5), none⟩, ⟨(some 7), none, false, .fieldA 0 (.t 3), none⟩, ⟨(some 8), none, false, .load 1 false (.t 7), none⟩, ⟨(some 9), none, false, .call 139 [(.t 6), (.t 8)], none⟩, ⟨(some 10), none, false, .fieldA 1 (.t 2), none⟩, ⟨(some 11), none, false, .load 1 false (.t 10), none⟩, ⟨(some 12), none, false, .fieldA 1 (.t 3), none⟩, ⟨(some 13), none, false, .load 1 false (.t 12), none⟩, ⟨(some 14), none, false, .call 139 [(.t 11), (.t 13)], none⟩, ⟨(some 15), none, false, .bsl false 1 [(.t 9), (.t 14)], none⟩, ⟨(some 16), none, false, .call 138 [(.t 15)], none⟩, ⟨(some 4), none, false, .mv (.t 16), (some [4])⟩]
def c_impl_compareEdges_1 : ACode := .draw c_impl_compareEdges_o1 [] rfl
def c_impl_compareEdges_2 : ACode := .seq c_impl_compareEdges_1 .ret
def c_impl_compareEdges_3 : ACode := .seq c_impl_compareEdges_0 c_impl_compareEdges_2
section
variable (C : Cx) (n : Nat) (sk : List AItem) (e : Env) (h : Heap) (R : AV → Heap → Prop)
@[simp, simp ↓] theorem c_impl_compareEdges_0_r : vc2 C (n + 1) [] (.code c_impl_compareEdges_0 :: sk) e h R = (vc2 C n c_impl_compareEdges_o0 sk e h R) := nr rfl
@[simp, simp ↓] theorem c_impl_compareEdges_1_r : vc2 C (n + 1) [] (.code c_impl_compareEdges_1 :: sk) e h R = (draw2 C h (vK C n [] sk R h) c_impl_compareEdges_o1 e) := nr rfl
@[simp, simp ↓] theorem c_impl_compareEdges_2_r : vc2 C (n + 1) [] (.code c_impl_compareEdges_2 :: sk) e h R = (vc2 C n [] (.code c_impl_compareEdges_1 :: .code .ret :: sk) e h R) := nr rfl
@[simp, simp ↓] theorem c_impl_compareEdges_3_r : vc2 C (n + 1) [] (.code c_impl_compareEdges_3 :: sk) e h R = (vc2 C n [] (.code c_impl_compareEdges_0 :: .code c_impl_compareEdges_2 :: sk) e h R) := nr rfl
end
noncomputable def c_impl_compareEdges_C (orc : Orc) : Cx := ⟨Try.prog, [], 105, 17, [.tmp 4], orc⟩
@[simp] theorem c_impl_compareEdges_C_P (orc : Orc) : (c_impl_compareEdges_C orc).P = Try.prog := nr rfl
@[simp] theorem c_impl_compareEdges_C_o (orc : Orc) : (c_impl_compareEdges_C orc).orc = orc := nr rfl
@[simp] theorem c_impl_compareEdges_C_r (orc : Orc) : (c_impl_compareEdges_C orc).res = [.tmp 4] := nr rfl
theorem c_impl_compareEdges_of {args : List AV} {h : Heap} {R : AV → Heap → Prop} {k : Nat} (ha : args.length = k) {orc : Orc} (hp : Pure Try.prog orc) (hk : Is (c_impl_compareEdges_C orc) Try.f105 → Run2 (c_impl_compareEdges_C orc) [.code c_impl_compareEdges_3] (argEnv 0 args) h (Post R)) (hle : k ≤ 17 := by simp) : ACalls Try.prog 105 args h R :=
  contract2 [] c_impl_compareEdges_3 [.tmp 4] Try.func105 (by decide +kernel) rfl (by kernel_rfl) (by rw [ha]; exact hle) (by kernel_rfl) hp hk
theorem c_impl_compareEdges_of0 {args : List AV} {h : Heap} {R : AV → Heap → Prop} {k : Nat} (ha : args.length = k) {orc : Orc} (hp : Pure Try.prog orc) (hk : Is (c_impl_compareEdges_C orc) Try.f105 → Run2 (c_impl_compareEdges_C orc) [.code c_impl_compareEdges_3] (argEnv 0 args) h R) (hle : k ≤ 17 := by simp) : ACalls Try.prog 105 args h R :=
  contract20 [] c_impl_compareEdges_3 [.tmp 4] Try.func105 (by decide +kernel) rfl (by kernel_rfl) (by rw [ha]; exact hle) (by kernel_rfl) hp hk
theorem compareEdges_c (x y : T) (h : Heap) : ACalls Try.prog 105 [x.av, y.av] h (fun v h' => v = .int .i64 (orI [cmpI x.f y.f, cmpI x.t y.t]) ∧ h' = h) := by
  refine c_impl_compareEdges_of0 rfl orc2_p fun I => ?_
  refine Run2.of I 1000 ?_
  simp -implicitDefEqProofs
noncomputable def o_compareEdges : List AV → Option (Prop × AV) := tab (fun (x : Int × Int × Int × Int × Int × Int) => match x with | (f, t, s, f', t', s') => [.agg [.int .i64 f, .int .i64 t, .int .i64 s], .agg [.int .i64 f', .int .i64 t', .int .i64 s']]) (fun x => match x with | (f, t, s, f', t', s') => True) (fun x => match x with | (f, t, s, f', t', s') => .int .i64 (orI [cmpI f f', cmpI t t']))
@[simp] theorem o_compareEdges_e (f : Int) (t : Int) (s : Int) (f' : Int) (t' : Int) (s' : Int) : o_compareEdges [.agg [.int .i64 f, .int .i64 t, .int .i64 s], .agg [.int .i64 f', .int .i64 t', .int .i64 s']] = some (True, .int .i64 (orI [cmpI f f', cmpI t t'])) := tab_at (enc := fun (x : Int × Int × Int × Int × Int × Int) => match x with | (f, t, s, f', t', s') => [.agg [.int .i64 f, .int .i64 t, .int .i64 s], .agg [.int .i64 f', .int .i64 t', .int .i64 s']]) (fun x y h => by
  obtain ⟨f1, t1, s1, f'1, t'1, s'1⟩ := x; obtain ⟨f2, t2, s2, f'2, t'2, s'2⟩ := y; simp at h; simp [h]) _ _ (f, t, s, f', t', s')
theorem o_compareEdges_k : Knows Try.prog 105 o_compareEdges := tab_knows fun x hx h => by
  obtain ⟨f, t, s, f', t', s'⟩ := x; exact compareEdges_c ⟨f, t, s⟩ ⟨f', t', s'⟩ h
noncomputable def orc3 : List (Nat × (List AV → Option (Prop × AV))) := (105, o_compareEdges) :: orc2
theorem orc3_p : Pure Try.prog (lk orc3) := (lk_pure o_compareEdges_k orc2_p)
@[simp] theorem orc3_l (g : FuncId) (l : List AV) : lk orc3 g l = if g = 105 then o_compareEdges l else lk orc2 g l := nr rfl
end Go.AG
