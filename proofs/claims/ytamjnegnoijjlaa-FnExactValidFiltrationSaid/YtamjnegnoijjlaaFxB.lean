/- Small functions of complexes, and what they give. No statement is made here. -/
import Derived.Test.YtamjnegnoijjlaaFilA
import Derived.Test.YtamjnegnoijjlaaAGLists2
namespace Go.AG
open Go.Proofs Go.Proofs.Ytamjnegnoijjlaa
set_option linter.unusedSimpArgs false
set_option linter.unusedVariables false
set_option maxRecDepth 4000
abbrev c_spec_l00In_o0 : List AJ := [.o ⟨(some 6), none, false, .mv (.c (.bool false)), (some [0, 1, 2])⟩]
def c_spec_l00In_0 : ACode := .region c_spec_l00In_o0
abbrev c_spec_l00In_o1 : List AJ := [.o ⟨(some 7), none, false, .mv (.t 0), none⟩, .o ⟨(some 8), none, false, .mv (.t 1), none⟩, .o ⟨(some 9), none, false, .bin .geq (.t 7) (.t 8), none⟩, .o ⟨(some 10), none, false, .mv (.t 9), none⟩, .o ⟨(some 11), (some (10, true)), false, .mv (.t 0), none⟩, .o ⟨(some 12), (some (10, true)), false, .mv (.t 2), none⟩, .o ⟨(some 13), (some (10, true)), false, .bin .leq (.t 11) (.t 12), none⟩, .o ⟨(some 14), none, false, .pick (.t 10) (.t 13) (.c (.bool false)), none⟩, .o ⟨(some 6), none, false, .mv (.t 14), (some [6])⟩]
def c_spec_l00In_1 : ACode := .region c_spec_l00In_o1
def c_spec_l00In_2 : ACode := .seq c_spec_l00In_1 .ret
def c_spec_l00In_3 : ACode := .seq c_spec_l00In_0 c_spec_l00In_2
section
variable (C : Cx) (n : Nat) (sk : List AItem) (e : Env) (h : Heap) (R : AV → Heap → Prop)
@[simp, simp ↓] theorem c_spec_l00In_0_r : vc2 C (n + 1) [] (.code c_spec_l00In_0 :: sk) e h R = (vc2 C n c_spec_l00In_o0 sk e h R) := nr rfl
@[simp, simp ↓] theorem c_spec_l00In_1_r : vc2 C (n + 1) [] (.code c_spec_l00In_1 :: sk) e h R = (vc2 C n c_spec_l00In_o1 sk e h R) := nr rfl
@[simp, simp ↓] theorem c_spec_l00In_2_r : vc2 C (n + 1) [] (.code c_spec_l00In_2 :: sk) e h R = (vc2 C n [] (.code c_spec_l00In_1 :: .code .ret :: sk) e h R) := nr rfl
@[simp, simp ↓] theorem c_spec_l00In_3_r : vc2 C (n + 1) [] (.code c_spec_l00In_3 :: sk) e h R = (vc2 C n [] (.code c_spec_l00In_0 :: .code c_spec_l00In_2 :: sk) e h R) := nr rfl
end
noncomputable def c_spec_l00In_C (orc : Orc) : Cx := ⟨Try.prog, [], 67, 15, [.tmp 6], orc⟩
@[simp] theorem c_spec_l00In_C_P (orc : Orc) : (c_spec_l00In_C orc).P = Try.prog := nr rfl
@[simp] theorem c_spec_l00In_C_o (orc : Orc) : (c_spec_l00In_C orc).orc = orc := nr rfl
@[simp] theorem c_spec_l00In_C_r (orc : Orc) : (c_spec_l00In_C orc).res = [.tmp 6] := nr rfl
theorem c_spec_l00In_of {args : List AV} {h : Heap} {R : AV → Heap → Prop} {k : Nat} (ha : args.length = k) {orc : Orc} (hp : Pure Try.prog orc) (hk : Is (c_spec_l00In_C orc) Try.f67 → Run2 (c_spec_l00In_C orc) [.code c_spec_l00In_3] (argEnv 0 args) h (Post R)) (hle : k ≤ 15 := by simp) : ACalls Try.prog 67 args h R :=
  contract2 [] c_spec_l00In_3 [.tmp 6] Try.func67 (by decide +kernel) rfl (by kernel_rfl) (by rw [ha]; exact hle) (by kernel_rfl) hp hk
theorem c_spec_l00In_of0 {args : List AV} {h : Heap} {R : AV → Heap → Prop} {k : Nat} (ha : args.length = k) {orc : Orc} (hp : Pure Try.prog orc) (hk : Is (c_spec_l00In_C orc) Try.f67 → Run2 (c_spec_l00In_C orc) [.code c_spec_l00In_3] (argEnv 0 args) h R) (hle : k ≤ 15 := by simp) : ACalls Try.prog 67 args h R :=
  contract20 [] c_spec_l00In_3 [.tmp 6] Try.func67 (by decide +kernel) rfl (by kernel_rfl) (by rw [ha]; exact hle) (by kernel_rfl) hp hk
theorem l00In_c (a b c : Int) (h : Heap) : ACalls Try.prog 67 [.int .i64 a, .int .i64 b, .int .i64 c] h (fun v h' => v = .bool (decide (b ≤ a) && decide (a ≤ c)) ∧ h' = h) := by
  refine c_spec_l00In_of0 rfl noPure fun I => ?_
  refine Run2.of I 1000 ?_
  simp -implicitDefEqProofs
  grind
noncomputable def o_l00In : List AV → Option (Prop × AV) := tab (fun (x : Int × Int × Int) => match x with | (a, b, c) => [.int .i64 a, .int .i64 b, .int .i64 c]) (fun x => match x with | (a, b, c) => True) (fun x => match x with | (a, b, c) => .bool (decide (b ≤ a) && decide (a ≤ c)))
@[simp] theorem o_l00In_e (a : Int) (b : Int) (c : Int) : o_l00In [.int .i64 a, .int .i64 b, .int .i64 c] = some (True, .bool (decide (b ≤ a) && decide (a ≤ c))) := tab_at (enc := fun (x : Int × Int × Int) => match x with | (a, b, c) => [.int .i64 a, .int .i64 b, .int .i64 c]) (fun x y h => by
  obtain ⟨a1, b1, c1⟩ := x; obtain ⟨a2, b2, c2⟩ := y; simp at h; simp [h]) _ _ (a, b, c)
theorem o_l00In_k : Knows Try.prog 67 o_l00In := tab_knows fun x hx h => by
  obtain ⟨a, b, c⟩ := x; exact l00In_c _ _ _ h
abbrev c_impl_within_o0 : List AJ := [.o ⟨(some 6), none, false, .mv (.c (.bool false)), (some [0, 1, 2])⟩]
def c_impl_within_0 : ACode := .region c_impl_within_o0
abbrev c_impl_within_o1 : List AJ := [.o ⟨(some 7), none, false, .mv (.t 0), none⟩, .o ⟨(some 8), none, false, .mv (.t 1), none⟩, .o ⟨(some 9), none, false, .bin .geq (.t 7) (.t 8), none⟩, .o ⟨(some 10), none, false, .mv (.t 9), none⟩, .o ⟨(some 11), (some (10, true)), false, .mv (.t 0), none⟩, .o ⟨(some 12), (some (10, true)), false, .mv (.t 2), none⟩, .o ⟨(some 13), (some (10, true)), false, .bin .leq (.t 11) (.t 12), none⟩, .o ⟨(some 14), none, false, .pick (.t 10) (.t 13) (.c (.bool false)), none⟩, .o ⟨(some 6), none, false, .mv (.t 14), (some [6])⟩]
def c_impl_within_1 : ACode := .region c_impl_within_o1
def c_impl_within_2 : ACode := .seq c_impl_within_1 .ret
def c_impl_within_3 : ACode := .seq c_impl_within_0 c_impl_within_2
section
variable (C : Cx) (n : Nat) (sk : List AItem) (e : Env) (h : Heap) (R : AV → Heap → Prop)
@[simp, simp ↓] theorem c_impl_within_0_r : vc2 C (n + 1) [] (.code c_impl_within_0 :: sk) e h R = (vc2 C n c_impl_within_o0 sk e h R) := nr rfl
@[simp, simp ↓] theorem c_impl_within_1_r : vc2 C (n + 1) [] (.code c_impl_within_1 :: sk) e h R = (vc2 C n c_impl_within_o1 sk e h R) := nr rfl
@[simp, simp ↓] theorem c_impl_within_2_r : vc2 C (n + 1) [] (.code c_impl_within_2 :: sk) e h R = (vc2 C n [] (.code c_impl_within_1 :: .code .ret :: sk) e h R) := nr rfl
@[simp, simp ↓] theorem c_impl_within_3_r : vc2 C (n + 1) [] (.code c_impl_within_3 :: sk) e h R = (vc2 C n [] (.code c_impl_within_0 :: .code c_impl_within_2 :: sk) e h R) := nr rfl
end
noncomputable def c_impl_within_C (orc : Orc) : Cx := ⟨Try.prog, [], 69, 15, [.tmp 6], orc⟩
@[simp] theorem c_impl_within_C_P (orc : Orc) : (c_impl_within_C orc).P = Try.prog := nr rfl
@[simp] theorem c_impl_within_C_o (orc : Orc) : (c_impl_within_C orc).orc = orc := nr rfl
@[simp] theorem c_impl_within_C_r (orc : Orc) : (c_impl_within_C orc).res = [.tmp 6] := nr rfl
theorem c_impl_within_of {args : List AV} {h : Heap} {R : AV → Heap → Prop} {k : Nat} (ha : args.length = k) {orc : Orc} (hp : Pure Try.prog orc) (hk : Is (c_impl_within_C orc) Try.f69 → Run2 (c_impl_within_C orc) [.code c_impl_within_3] (argEnv 0 args) h (Post R)) (hle : k ≤ 15 := by simp) : ACalls Try.prog 69 args h R :=
  contract2 [] c_impl_within_3 [.tmp 6] Try.func69 (by decide +kernel) rfl (by kernel_rfl) (by rw [ha]; exact hle) (by kernel_rfl) hp hk
theorem c_impl_within_of0 {args : List AV} {h : Heap} {R : AV → Heap → Prop} {k : Nat} (ha : args.length = k) {orc : Orc} (hp : Pure Try.prog orc) (hk : Is (c_impl_within_C orc) Try.f69 → Run2 (c_impl_within_C orc) [.code c_impl_within_3] (argEnv 0 args) h R) (hle : k ≤ 15 := by simp) : ACalls Try.prog 69 args h R :=
  contract20 [] c_impl_within_3 [.tmp 6] Try.func69 (by decide +kernel) rfl (by kernel_rfl) (by rw [ha]; exact hle) (by kernel_rfl) hp hk
theorem within_c (a b c : Int) (h : Heap) : ACalls Try.prog 69 [.int .i64 a, .int .i64 b, .int .i64 c] h (fun v h' => v = .bool (decide (b ≤ a) && decide (a ≤ c)) ∧ h' = h) := by
  refine c_impl_within_of0 rfl noPure fun I => ?_
  refine Run2.of I 1000 ?_
  simp -implicitDefEqProofs
  grind
noncomputable def o_within : List AV → Option (Prop × AV) := tab (fun (x : Int × Int × Int) => match x with | (a, b, c) => [.int .i64 a, .int .i64 b, .int .i64 c]) (fun x => match x with | (a, b, c) => True) (fun x => match x with | (a, b, c) => .bool (decide (b ≤ a) && decide (a ≤ c)))
@[simp] theorem o_within_e (a : Int) (b : Int) (c : Int) : o_within [.int .i64 a, .int .i64 b, .int .i64 c] = some (True, .bool (decide (b ≤ a) && decide (a ≤ c))) := tab_at (enc := fun (x : Int × Int × Int) => match x with | (a, b, c) => [.int .i64 a, .int .i64 b, .int .i64 c]) (fun x y h => by
  obtain ⟨a1, b1, c1⟩ := x; obtain ⟨a2, b2, c2⟩ := y; simp at h; simp [h]) _ _ (a, b, c)
theorem o_within_k : Knows Try.prog 69 o_within := tab_knows fun x hx h => by
  obtain ⟨a, b, c⟩ := x; exact within_c _ _ _ h
abbrev c_cmp_isNaN_int64_o0 : List AJ := [.o ⟨(some 2), none, false, .mv (.c (.bool false)), (some [0])⟩]
def c_cmp_isNaN_int64_0 : ACode := .region c_cmp_isNaN_int64_o0
abbrev c_cmp_isNaN_int64_o1 : List AJ := [.o ⟨(some 3), none, false, .mv (.t 0), none⟩, .o ⟨(some 4), none, false, .mv (.t 0), none⟩, .o ⟨(some 5), none, false, .bin .neq (.t 3) (.t 4), none⟩, .o ⟨(some 2), none, false, .mv (.t 5), (some [2])⟩]
def c_cmp_isNaN_int64_1 : ACode := .region c_cmp_isNaN_int64_o1
def c_cmp_isNaN_int64_2 : ACode := .seq c_cmp_isNaN_int64_1 .ret
def c_cmp_isNaN_int64_3 : ACode := .seq c_cmp_isNaN_int64_0 c_cmp_isNaN_int64_2
section
variable (C : Cx) (n : Nat) (sk : List AItem) (e : Env) (h : Heap) (R : AV → Heap → Prop)
@[simp, simp ↓] theorem c_cmp_isNaN_int64_0_r : vc2 C (n + 1) [] (.code c_cmp_isNaN_int64_0 :: sk) e h R = (vc2 C n c_cmp_isNaN_int64_o0 sk e h R) := nr rfl
@[simp, simp ↓] theorem c_cmp_isNaN_int64_1_r : vc2 C (n + 1) [] (.code c_cmp_isNaN_int64_1 :: sk) e h R = (vc2 C n c_cmp_isNaN_int64_o1 sk e h R) := nr rfl
@[simp, simp ↓] theorem c_cmp_isNaN_int64_2_r : vc2 C (n + 1) [] (.code c_cmp_isNaN_int64_2 :: sk) e h R = (vc2 C n [] (.code c_cmp_isNaN_int64_1 :: .code .ret :: sk) e h R) := nr rfl
@[simp, simp ↓] theorem c_cmp_isNaN_int64_3_r : vc2 C (n + 1) [] (.code c_cmp_isNaN_int64_3 :: sk) e h R = (vc2 C n [] (.code c_cmp_isNaN_int64_0 :: .code c_cmp_isNaN_int64_2 :: sk) e h R) := nr rfl
end
noncomputable def c_cmp_isNaN_int64_C (orc : Orc) : Cx := ⟨Try.prog, [], 142, 6, [.tmp 2], orc⟩
@[simp] theorem c_cmp_isNaN_int64_C_P (orc : Orc) : (c_cmp_isNaN_int64_C orc).P = Try.prog := nr rfl
@[simp] theorem c_cmp_isNaN_int64_C_o (orc : Orc) : (c_cmp_isNaN_int64_C orc).orc = orc := nr rfl
@[simp] theorem c_cmp_isNaN_int64_C_r (orc : Orc) : (c_cmp_isNaN_int64_C orc).res = [.tmp 2] := nr rfl
theorem c_cmp_isNaN_int64_of {args : List AV} {h : Heap} {R : AV → Heap → Prop} {k : Nat} (ha : args.length = k) {orc : Orc} (hp : Pure Try.prog orc) (hk : Is (c_cmp_isNaN_int64_C orc) Try.f142 → Run2 (c_cmp_isNaN_int64_C orc) [.code c_cmp_isNaN_int64_3] (argEnv 0 args) h (Post R)) (hle : k ≤ 6 := by simp) : ACalls Try.prog 142 args h R :=
  contract2 [] c_cmp_isNaN_int64_3 [.tmp 2] Try.func142 (by decide +kernel) rfl (by kernel_rfl) (by rw [ha]; exact hle) (by kernel_rfl) hp hk
theorem c_cmp_isNaN_int64_of0 {args : List AV} {h : Heap} {R : AV → Heap → Prop} {k : Nat} (ha : args.length = k) {orc : Orc} (hp : Pure Try.prog orc) (hk : Is (c_cmp_isNaN_int64_C orc) Try.f142 → Run2 (c_cmp_isNaN_int64_C orc) [.code c_cmp_isNaN_int64_3] (argEnv 0 args) h R) (hle : k ≤ 6 := by simp) : ACalls Try.prog 142 args h R :=
  contract20 [] c_cmp_isNaN_int64_3 [.tmp 2] Try.func142 (by decide +kernel) rfl (by kernel_rfl) (by rw [ha]; exact hle) (by kernel_rfl) hp hk
theorem isNaN_c (a : Int) (h : Heap) : ACalls Try.prog 142 [.int .i64 a] h (fun v h' => v = .bool false ∧ h' = h) := by
  refine c_cmp_isNaN_int64_of0 rfl noPure fun I => ?_
  refine Run2.of I 1000 ?_
  simp -implicitDefEqProofs
noncomputable def o_isNaN : List AV → Option (Prop × AV) := tab (fun (x : Int) => match x with | a => [.int .i64 a]) (fun x => match x with | a => True) (fun x => match x with | a => .bool false)
@[simp] theorem o_isNaN_e (a : Int) : o_isNaN [.int .i64 a] = some (True, .bool false) := tab_at (enc := fun (x : Int) => match x with | a => [.int .i64 a]) (fun x y h => by
  simp at h; simp [h]) _ _ a
theorem o_isNaN_k : Knows Try.prog 142 o_isNaN := tab_knows fun x hx h => by
  exact isNaN_c _ h
abbrev c_cmp_isNaN_int_o0 : List AJ := [.o ⟨(some 2), none, false, .mv (.c (.bool false)), (some [0])⟩]
def c_cmp_isNaN_int_0 : ACode := .region c_cmp_isNaN_int_o0
abbrev c_cmp_isNaN_int_o1 : List AJ := [.o ⟨(some 3), none, false, .mv (.t 0), none⟩, .o ⟨(some 4), none, false, .mv (.t 0), none⟩, .o ⟨(some 5), none, false, .bin .neq (.t 3) (.t 4), none⟩, .o ⟨(some 2), none, false, .mv (.t 5), (some [2])⟩]
def c_cmp_isNaN_int_1 : ACode := .region c_cmp_isNaN_int_o1
def c_cmp_isNaN_int_2 : ACode := .seq c_cmp_isNaN_int_1 .ret
def c_cmp_isNaN_int_3 : ACode := .seq c_cmp_isNaN_int_0 c_cmp_isNaN_int_2
section
variable (C : Cx) (n : Nat) (sk : List AItem) (e : Env) (h : Heap) (R : AV → Heap → Prop)
@[simp, simp ↓] theorem c_cmp_isNaN_int_0_r : vc2 C (n + 1) [] (.code c_cmp_isNaN_int_0 :: sk) e h R = (vc2 C n c_cmp_isNaN_int_o0 sk e h R) := nr rfl
@[simp, simp ↓] theorem c_cmp_isNaN_int_1_r : vc2 C (n + 1) [] (.code c_cmp_isNaN_int_1 :: sk) e h R = (vc2 C n c_cmp_isNaN_int_o1 sk e h R) := nr rfl
@[simp, simp ↓] theorem c_cmp_isNaN_int_2_r : vc2 C (n + 1) [] (.code c_cmp_isNaN_int_2 :: sk) e h R = (vc2 C n [] (.code c_cmp_isNaN_int_1 :: .code .ret :: sk) e h R) := nr rfl
@[simp, simp ↓] theorem c_cmp_isNaN_int_3_r : vc2 C (n + 1) [] (.code c_cmp_isNaN_int_3 :: sk) e h R = (vc2 C n [] (.code c_cmp_isNaN_int_0 :: .code c_cmp_isNaN_int_2 :: sk) e h R) := nr rfl
end
noncomputable def c_cmp_isNaN_int_C (orc : Orc) : Cx := ⟨Try.prog, [], 143, 6, [.tmp 2], orc⟩
@[simp] theorem c_cmp_isNaN_int_C_P (orc : Orc) : (c_cmp_isNaN_int_C orc).P = Try.prog := nr rfl
@[simp] theorem c_cmp_isNaN_int_C_o (orc : Orc) : (c_cmp_isNaN_int_C orc).orc = orc := nr rfl
@[simp] theorem c_cmp_isNaN_int_C_r (orc : Orc) : (c_cmp_isNaN_int_C orc).res = [.tmp 2] := nr rfl
theorem c_cmp_isNaN_int_of {args : List AV} {h : Heap} {R : AV → Heap → Prop} {k : Nat} (ha : args.length = k) {orc : Orc} (hp : Pure Try.prog orc) (hk : Is (c_cmp_isNaN_int_C orc) Try.f143 → Run2 (c_cmp_isNaN_int_C orc) [.code c_cmp_isNaN_int_3] (argEnv 0 args) h (Post R)) (hle : k ≤ 6 := by simp) : ACalls Try.prog 143 args h R :=
  contract2 [] c_cmp_isNaN_int_3 [.tmp 2] Try.func143 (by decide +kernel) rfl (by kernel_rfl) (by rw [ha]; exact hle) (by kernel_rfl) hp hk
theorem c_cmp_isNaN_int_of0 {args : List AV} {h : Heap} {R : AV → Heap → Prop} {k : Nat} (ha : args.length = k) {orc : Orc} (hp : Pure Try.prog orc) (hk : Is (c_cmp_isNaN_int_C orc) Try.f143 → Run2 (c_cmp_isNaN_int_C orc) [.code c_cmp_isNaN_int_3] (argEnv 0 args) h R) (hle : k ≤ 6 := by simp) : ACalls Try.prog 143 args h R :=
  contract20 [] c_cmp_isNaN_int_3 [.tmp 2] Try.func143 (by decide +kernel) rfl (by kernel_rfl) (by rw [ha]; exact hle) (by kernel_rfl) hp hk
theorem isNaNi_c (a : Int) (h : Heap) : ACalls Try.prog 143 [.int .i64 a] h (fun v h' => v = .bool false ∧ h' = h) := by
  refine c_cmp_isNaN_int_of0 rfl noPure fun I => ?_
  refine Run2.of I 1000 ?_
  simp -implicitDefEqProofs
noncomputable def o_isNaNi : List AV → Option (Prop × AV) := tab (fun (x : Int) => match x with | a => [.int .i64 a]) (fun x => match x with | a => True) (fun x => match x with | a => .bool false)
@[simp] theorem o_isNaNi_e (a : Int) : o_isNaNi [.int .i64 a] = some (True, .bool false) := tab_at (enc := fun (x : Int) => match x with | a => [.int .i64 a]) (fun x y h => by
  simp at h; simp [h]) _ _ a
theorem o_isNaNi_k : Knows Try.prog 143 o_isNaNi := tab_knows fun x hx h => by
  exact isNaNi_c _ h
noncomputable def orc1 : List (Nat × (List AV → Option (Prop × AV))) := (67, o_l00In) :: (69, o_within) :: (142, o_isNaN) :: (143, o_isNaNi) :: []
theorem orc1_p : Pure Try.prog (lk orc1) := (lk_pure o_l00In_k (lk_pure o_within_k (lk_pure o_isNaN_k (lk_pure o_isNaNi_k lk_pure0))))
@[simp] theorem orc1_l (g : FuncId) (l : List AV) : lk orc1 g l = if g = 67 then o_l00In l else if g = 69 then o_within l else if g = 142 then o_isNaN l else if g = 143 then o_isNaNi l else none := nr rfl
abbrev c_cmp_Compare_int64_o0 : List AJ := [.o ⟨(some 4), none, false, .mv (.c (.int .i64 0)), (some [0, 1])⟩]
def c_cmp_Compare_int64_0 : ACode := .region c_cmp_Compare_int64_o0
abbrev c_cmp_Compare_int64_o1 : List AJ := [.o ⟨(some 7), none, false, .mv (.t 0), none⟩, .o ⟨(some 8), none, false, .call 142 [(.t 7)], none⟩, .o ⟨(some 5), none, false, .mv (.t 8), (some [0, 1, 5])⟩]
def c_cmp_Compare_int64_1 : ACode := .region c_cmp_Compare_int64_o1
abbrev c_cmp_Compare_int64_o2 : List AJ := [.o ⟨(some 9), none, false, .mv (.t 1), none⟩, .o ⟨(some 10), none, false, .call 142 [(.t 9)], none⟩, .o ⟨(some 6), none, false, .mv (.t 10), (some [0, 1, 5, 6])⟩]
def c_cmp_Compare_int64_2 : ACode := .region c_cmp_Compare_int64_o2
abbrev c_cmp_Compare_int64_o3 : List AJ := [.o ⟨(some 11), none, false, .mv (.t 5), (some [0, 1, 6, 11])⟩]
def c_cmp_Compare_int64_3 : ACode := .region c_cmp_Compare_int64_o3
abbrev c_cmp_Compare_int64_o4 : List AJ := [.o ⟨(some 12), none, false, .mv (.t 6), (some [12])⟩]
def c_cmp_Compare_int64_4 : ACode := .region c_cmp_Compare_int64_o4
abbrev c_cmp_Compare_int64_o5 : List AJ := [.o ⟨(some 4), none, false, .mv (.c (.int .i64 0)), (some [4])⟩]
def c_cmp_Compare_int64_5 : ACode := .region c_cmp_Compare_int64_o5
def c_cmp_Compare_int64_6 : ACode := .seq c_cmp_Compare_int64_5 .ret
def c_cmp_Compare_int64_7 : ACode := .cond (.t 12) c_cmp_Compare_int64_6 .skip
def c_cmp_Compare_int64_8 : ACode := .seq c_cmp_Compare_int64_4 c_cmp_Compare_int64_7
abbrev c_cmp_Compare_int64_o6 : List AJ := [.o ⟨(some 4), none, false, .mv (.c (.int .i64 (-1))), (some [4])⟩]
def c_cmp_Compare_int64_9 : ACode := .region c_cmp_Compare_int64_o6
def c_cmp_Compare_int64_10 : ACode := .seq c_cmp_Compare_int64_9 .ret
def c_cmp_Compare_int64_11 : ACode := .seq c_cmp_Compare_int64_8 c_cmp_Compare_int64_10
def c_cmp_Compare_int64_12 : ACode := .cond (.t 11) c_cmp_Compare_int64_11 .skip
def c_cmp_Compare_int64_13 : ACode := .seq c_cmp_Compare_int64_3 c_cmp_Compare_int64_12
abbrev c_cmp_Compare_int64_o7 : List AJ := [.o ⟨(some 13), none, false, .mv (.t 6), (some [0, 1, 13])⟩]
def c_cmp_Compare_int64_14 : ACode := .region c_cmp_Compare_int64_o7
abbrev c_cmp_Compare_int64_o8 : List AJ := [.o ⟨(some 4), none, false, .mv (.c (.int .i64 1)), (some [4])⟩]
def c_cmp_Compare_int64_15 : ACode := .region c_cmp_Compare_int64_o8
def c_cmp_Compare_int64_16 : ACode := .seq c_cmp_Compare_int64_15 .ret
def c_cmp_Compare_int64_17 : ACode := .cond (.t 13) c_cmp_Compare_int64_16 .skip
def c_cmp_Compare_int64_18 : ACode := .seq c_cmp_Compare_int64_14 c_cmp_Compare_int64_17
abbrev c_cmp_Compare_int64_o9 : List AJ := [.o ⟨(some 14), none, false, .mv (.t 0), none⟩, .o ⟨(some 15), none, false, .mv (.t 1), none⟩, .o ⟨(some 16), none, false, .bin .lss (.t 14) (.t 15), (some [0, 1, 16])⟩]
def c_cmp_Compare_int64_19 : ACode := .region c_cmp_Compare_int64_o9
abbrev c_cmp_Compare_int64_o10 : List AJ := [.o ⟨(some 4), none, false, .mv (.c (.int .i64 (-1))), (some [4])⟩]
def c_cmp_Compare_int64_20 : ACode := .region c_cmp_Compare_int64_o10
def c_cmp_Compare_int64_21 : ACode := .seq c_cmp_Compare_int64_20 .ret
def c_cmp_Compare_int64_22 : ACode := .cond (.t 16) c_cmp_Compare_int64_21 .skip
def c_cmp_Compare_int64_23 : ACode := .seq c_cmp_Compare_int64_19 c_cmp_Compare_int64_22
abbrev c_cmp_Compare_int64_o11 : List AJ := [.o ⟨(some 17), none, false, .mv (.t 0), none⟩, .o ⟨(some 18), none, false, .mv (.t 1), none⟩, .o ⟨(some 19), none, false, .bin .gtr (.t 17) (.t 18), (some [19])⟩]
def c_cmp_Compare_int64_24 : ACode := .region c_cmp_Compare_int64_o11
abbrev c_cmp_Compare_int64_o12 : List AJ := [.o ⟨(some 4), none, false, .mv (.c (.int .i64 1)), (some [4])⟩]
def c_cmp_Compare_int64_25 : ACode := .region c_cmp_Compare_int64_o12
def c_cmp_Compare_int64_26 : ACode := .seq c_cmp_Compare_int64_25 .ret
def c_cmp_Compare_int64_27 : ACode := .cond (.t 19) c_cmp_Compare_int64_26 .skip
def c_cmp_Compare_int64_28 : ACode := .seq c_cmp_Compare_int64_24 c_cmp_Compare_int64_27
abbrev c_cmp_Compare_int64_o13 : List AJ := [.o ⟨(some 4), none, false, .mv (.c (.int .i64 0)), (some [4])⟩]
def c_cmp_Compare_int64_29 : ACode := .region c_cmp_Compare_int64_o13
def c_cmp_Compare_int64_30 : ACode := .seq c_cmp_Compare_int64_29 .ret
def c_cmp_Compare_int64_31 : ACode := .seq c_cmp_Compare_int64_28 c_cmp_Compare_int64_30
def c_cmp_Compare_int64_32 : ACode := .seq c_cmp_Compare_int64_23 c_cmp_Compare_int64_31
def c_cmp_Compare_int64_33 : ACode := .seq c_cmp_Compare_int64_18 c_cmp_Compare_int64_32
def c_cmp_Compare_int64_34 : ACode := .seq c_cmp_Compare_int64_13 c_cmp_Compare_int64_33
def c_cmp_Compare_int64_35 : ACode := .seq c_cmp_Compare_int64_2 c_cmp_Compare_int64_34
def c_cmp_Compare_int64_36 : ACode := .seq c_cmp_Compare_int64_1 c_cmp_Compare_int64_35
def c_cmp_Compare_int64_37 : ACode := .seq c_cmp_Compare_int64_0 c_cmp_Compare_int64_36
section
variable (C : Cx) (n : Nat) (sk : List AItem) (e : Env) (h : Heap) (R : AV → Heap → Prop)
@[simp, simp ↓] theorem c_cmp_Compare_int64_0_r : vc2 C (n + 1) [] (.code c_cmp_Compare_int64_0 :: sk) e h R = (vc2 C n c_cmp_Compare_int64_o0 sk e h R) := nr rfl
@[simp, simp ↓] theorem c_cmp_Compare_int64_1_r : vc2 C (n + 1) [] (.code c_cmp_Compare_int64_1 :: sk) e h R = (vc2 C n c_cmp_Compare_int64_o1 sk e h R) := nr rfl
@[simp, simp ↓] theorem c_cmp_Compare_int64_2_r : vc2 C (n + 1) [] (.code c_cmp_Compare_int64_2 :: sk) e h R = (vc2 C n c_cmp_Compare_int64_o2 sk e h R) := nr rfl
@[simp, simp ↓] theorem c_cmp_Compare_int64_3_r : vc2 C (n + 1) [] (.code c_cmp_Compare_int64_3 :: sk) e h R = (vc2 C n c_cmp_Compare_int64_o3 sk e h R) := nr rfl
@[simp, simp ↓] theorem c_cmp_Compare_int64_4_r : vc2 C (n + 1) [] (.code c_cmp_Compare_int64_4 :: sk) e h R = (vc2 C n c_cmp_Compare_int64_o4 sk e h R) := nr rfl
@[simp, simp ↓] theorem c_cmp_Compare_int64_5_r : vc2 C (n + 1) [] (.code c_cmp_Compare_int64_5 :: sk) e h R = (vc2 C n c_cmp_Compare_int64_o5 sk e h R) := nr rfl
@[simp, simp ↓] theorem c_cmp_Compare_int64_6_r : vc2 C (n + 1) [] (.code c_cmp_Compare_int64_6 :: sk) e h R = (vc2 C n [] (.code c_cmp_Compare_int64_5 :: .code .ret :: sk) e h R) := nr rfl
@[simp, simp ↓] theorem c_cmp_Compare_int64_7_r : vc2 C (n + 1) [] (.code c_cmp_Compare_int64_7 :: sk) e h R = (condK (ev e (.t 12)) (vc2 C n [] (.code c_cmp_Compare_int64_6 :: sk) e h R) (vc2 C n [] (.code .skip :: sk) e h R)) := nr rfl
@[simp, simp ↓] theorem c_cmp_Compare_int64_8_r : vc2 C (n + 1) [] (.code c_cmp_Compare_int64_8 :: sk) e h R = (vc2 C n [] (.code c_cmp_Compare_int64_4 :: .code c_cmp_Compare_int64_7 :: sk) e h R) := nr rfl
@[simp, simp ↓] theorem c_cmp_Compare_int64_9_r : vc2 C (n + 1) [] (.code c_cmp_Compare_int64_9 :: sk) e h R = (vc2 C n c_cmp_Compare_int64_o6 sk e h R) := nr rfl
@[simp, simp ↓] theorem c_cmp_Compare_int64_10_r : vc2 C (n + 1) [] (.code c_cmp_Compare_int64_10 :: sk) e h R = (vc2 C n [] (.code c_cmp_Compare_int64_9 :: .code .ret :: sk) e h R) := nr rfl
@[simp, simp ↓] theorem c_cmp_Compare_int64_11_r : vc2 C (n + 1) [] (.code c_cmp_Compare_int64_11 :: sk) e h R = (vc2 C n [] (.code c_cmp_Compare_int64_8 :: .code c_cmp_Compare_int64_10 :: sk) e h R) := nr rfl
@[simp, simp ↓] theorem c_cmp_Compare_int64_12_r : vc2 C (n + 1) [] (.code c_cmp_Compare_int64_12 :: sk) e h R = (condK (ev e (.t 11)) (vc2 C n [] (.code c_cmp_Compare_int64_11 :: sk) e h R) (vc2 C n [] (.code .skip :: sk) e h R)) := nr rfl
@[simp, simp ↓] theorem c_cmp_Compare_int64_13_r : vc2 C (n + 1) [] (.code c_cmp_Compare_int64_13 :: sk) e h R = (vc2 C n [] (.code c_cmp_Compare_int64_3 :: .code c_cmp_Compare_int64_12 :: sk) e h R) := nr rfl
@[simp, simp ↓] theorem c_cmp_Compare_int64_14_r : vc2 C (n + 1) [] (.code c_cmp_Compare_int64_14 :: sk) e h R = (vc2 C n c_cmp_Compare_int64_o7 sk e h R) := nr rfl
@[simp, simp ↓] theorem c_cmp_Compare_int64_15_r : vc2 C (n + 1) [] (.code c_cmp_Compare_int64_15 :: sk) e h R = (vc2 C n c_cmp_Compare_int64_o8 sk e h R) := nr rfl
@[simp, simp ↓] theorem c_cmp_Compare_int64_16_r : vc2 C (n + 1) [] (.code c_cmp_Compare_int64_16 :: sk) e h R = (vc2 C n [] (.code c_cmp_Compare_int64_15 :: .code .ret :: sk) e h R) := nr rfl
@[simp, simp ↓] theorem c_cmp_Compare_int64_17_r : vc2 C (n + 1) [] (.code c_cmp_Compare_int64_17 :: sk) e h R = (condK (ev e (.t 13)) (vc2 C n [] (.code c_cmp_Compare_int64_16 :: sk) e h R) (vc2 C n [] (.code .skip :: sk) e h R)) := nr rfl
@[simp, simp ↓] theorem c_cmp_Compare_int64_18_r : vc2 C (n + 1) [] (.code c_cmp_Compare_int64_18 :: sk) e h R = (vc2 C n [] (.code c_cmp_Compare_int64_14 :: .code c_cmp_Compare_int64_17 :: sk) e h R) := nr rfl
@[simp, simp ↓] theorem c_cmp_Compare_int64_19_r : vc2 C (n + 1) [] (.code c_cmp_Compare_int64_19 :: sk) e h R = (vc2 C n c_cmp_Compare_int64_o9 sk e h R) := nr rfl
@[simp, simp ↓] theorem c_cmp_Compare_int64_20_r : vc2 C (n + 1) [] (.code c_cmp_Compare_int64_20 :: sk) e h R = (vc2 C n c_cmp_Compare_int64_o10 sk e h R) := nr rfl
@[simp, simp ↓] theorem c_cmp_Compare_int64_21_r : vc2 C (n + 1) [] (.code c_cmp_Compare_int64_21 :: sk) e h R = (vc2 C n [] (.code c_cmp_Compare_int64_20 :: .code .ret :: sk) e h R) := nr rfl
@[simp, simp ↓] theorem c_cmp_Compare_int64_22_r : vc2 C (n + 1) [] (.code c_cmp_Compare_int64_22 :: sk) e h R = (condK (ev e (.t 16)) (vc2 C n [] (.code c_cmp_Compare_int64_21 :: sk) e h R) (vc2 C n [] (.code .skip :: sk) e h R)) := nr rfl
@[simp, simp ↓] theorem c_cmp_Compare_int64_23_r : vc2 C (n + 1) [] (.code c_cmp_Compare_int64_23 :: sk) e h R = (vc2 C n [] (.code c_cmp_Compare_int64_19 :: .code c_cmp_Compare_int64_22 :: sk) e h R) := nr rfl
@[simp, simp ↓] theorem c_cmp_Compare_int64_24_r : vc2 C (n + 1) [] (.code c_cmp_Compare_int64_24 :: sk) e h R = (vc2 C n c_cmp_Compare_int64_o11 sk e h R) := nr rfl
@[simp, simp ↓] theorem c_cmp_Compare_int64_25_r : vc2 C (n + 1) [] (.code c_cmp_Compare_int64_25 :: sk) e h R = (vc2 C n c_cmp_Compare_int64_o12 sk e h R) := nr rfl
@[simp, simp ↓] theorem c_cmp_Compare_int64_26_r : vc2 C (n + 1) [] (.code c_cmp_Compare_int64_26 :: sk) e h R = (vc2 C n [] (.code c_cmp_Compare_int64_25 :: .code .ret :: sk) e h R) := nr rfl
@[simp, simp ↓] theorem c_cmp_Compare_int64_27_r : vc2 C (n + 1) [] (.code c_cmp_Compare_int64_27 :: sk) e h R = (condK (ev e (.t 19)) (vc2 C n [] (.code c_cmp_Compare_int64_26 :: sk) e h R) (vc2 C n [] (.code .skip :: sk) e h R)) := nr rfl
@[simp, simp ↓] theorem c_cmp_Compare_int64_28_r : vc2 C (n + 1) [] (.code c_cmp_Compare_int64_28 :: sk) e h R = (vc2 C n [] (.code c_cmp_Compare_int64_24 :: .code c_cmp_Compare_int64_27 :: sk) e h R) := nr rfl
@[simp, simp ↓] theorem c_cmp_Compare_int64_29_r : vc2 C (n + 1) [] (.code c_cmp_Compare_int64_29 :: sk) e h R = (vc2 C n c_cmp_Compare_int64_o13 sk e h R) := nr rfl
@[simp, simp ↓] theorem c_cmp_Compare_int64_30_r : vc2 C (n + 1) [] (.code c_cmp_Compare_int64_30 :: sk) e h R = (vc2 C n [] (.code c_cmp_Compare_int64_29 :: .code .ret :: sk) e h R) := nr rfl
@[simp, simp ↓] theorem c_cmp_Compare_int64_31_r : vc2 C (n + 1) [] (.code c_cmp_Compare_int64_31 :: sk) e h R = (vc2 C n [] (.code c_cmp_Compare_int64_28 :: .code c_cmp_Compare_int64_30 :: sk) e h R) := nr rfl
@[simp, simp ↓] theorem c_cmp_Compare_int64_32_r : vc2 C (n + 1) [] (.code c_cmp_Compare_int64_32 :: sk) e h R = (vc2 C n [] (.code c_cmp_Compare_int64_23 :: .code c_cmp_Compare_int64_31 :: sk) e h R) := nr rfl
@[simp, simp ↓] theorem c_cmp_Compare_int64_33_r : vc2 C (n + 1) [] (.code c_cmp_Compare_int64_33 :: sk) e h R = (vc2 C n [] (.code c_cmp_Compare_int64_18 :: .code c_cmp_Compare_int64_32 :: sk) e h R) := nr rfl
@[simp, simp ↓] theorem c_cmp_Compare_int64_34_r : vc2 C (n + 1) [] (.code c_cmp_Compare_int64_34 :: sk) e h R = (vc2 C n [] (.code c_cmp_Compare_int64_13 :: .code c_cmp_Compare_int64_33 :: sk) e h R) := nr rfl
@[simp, simp ↓] theorem c_cmp_Compare_int64_35_r : vc2 C (n + 1) [] (.code c_cmp_Compare_int64_35 :: sk) e h R = (vc2 C n [] (.code c_cmp_Compare_int64_2 :: .code c_cmp_Compare_int64_34 :: sk) e h R) := nr rfl
@[simp, simp ↓] theorem c_cmp_Compare_int64_36_r : vc2 C (n + 1) [] (.code c_cmp_Compare_int64_36 :: sk) e h R = (vc2 C n [] (.code c_cmp_Compare_int64_1 :: .code c_cmp_Compare_int64_35 :: sk) e h R) := nr rfl
@[simp, simp ↓] theorem c_cmp_Compare_int64_37_r : vc2 C (n + 1) [] (.code c_cmp_Compare_int64_37 :: sk) e h R = (vc2 C n [] (.code c_cmp_Compare_int64_0 :: .code c_cmp_Compare_int64_36 :: sk) e h R) := nr rfl
end
noncomputable def c_cmp_Compare_int64_C (orc : Orc) : Cx := ⟨Try.prog, [], 127, 20, [.tmp 4], orc⟩
@[simp] theorem c_cmp_Compare_int64_C_P (orc : Orc) : (c_cmp_Compare_int64_C orc).P = Try.prog := nr rfl
@[simp] theorem c_cmp_Compare_int64_C_o (orc : Orc) : (c_cmp_Compare_int64_C orc).orc = orc := nr rfl
@[simp] theorem c_cmp_Compare_int64_C_r (orc : Orc) : (c_cmp_Compare_int64_C orc).res = [.tmp 4] := nr rfl
theorem c_cmp_Compare_int64_of {args : List AV} {h : Heap} {R : AV → Heap → Prop} {k : Nat} (ha : args.length = k) {orc : Orc} (hp : Pure Try.prog orc) (hk : Is (c_cmp_Compare_int64_C orc) Try.f127 → Run2 (c_cmp_Compare_int64_C orc) [.code c_cmp_Compare_int64_37] (argEnv 0 args) h (Post R)) (hle : k ≤ 20 := by simp) : ACalls Try.prog 127 args h R :=
  contract2 [] c_cmp_Compare_int64_37 [.tmp 4] Try.func127 (by decide +kernel) rfl (by kernel_rfl) (by rw [ha]; exact hle) (by kernel_rfl) hp hk
theorem c_cmp_Compare_int64_of0 {args : List AV} {h : Heap} {R : AV → Heap → Prop} {k : Nat} (ha : args.length = k) {orc : Orc} (hp : Pure Try.prog orc) (hk : Is (c_cmp_Compare_int64_C orc) Try.f127 → Run2 (c_cmp_Compare_int64_C orc) [.code c_cmp_Compare_int64_37] (argEnv 0 args) h R) (hle : k ≤ 20 := by simp) : ACalls Try.prog 127 args h R :=
  contract20 [] c_cmp_Compare_int64_37 [.tmp 4] Try.func127 (by decide +kernel) rfl (by kernel_rfl) (by rw [ha]; exact hle) (by kernel_rfl) hp hk
theorem compare_c (a b : Int) (h : Heap) : ACalls Try.prog 127 [.int .i64 a, .int .i64 b] h (fun v h' => v = .int .i64 (cmpZ a b) ∧ h' = h) := by
  refine c_cmp_Compare_int64_of0 rfl orc1_p fun I => ?_
  refine Run2.of I 1000 ?_
  simp -implicitDefEqProofs [cmpZ]
  grind
noncomputable def o_compare : List AV → Option (Prop × AV) := tab (fun (x : Int × Int) => match x with | (a, b) => [.int .i64 a, .int .i64 b]) (fun x => match x with | (a, b) => True) (fun x => match x with | (a, b) => .int .i64 (cmpZ a b))
@[simp] theorem o_compare_e (a : Int) (b : Int) : o_compare [.int .i64 a, .int .i64 b] = some (True, .int .i64 (cmpZ a b)) := tab_at (enc := fun (x : Int × Int) => match x with | (a, b) => [.int .i64 a, .int .i64 b]) (fun x y h => by
  obtain ⟨a1, b1⟩ := x; obtain ⟨a2, b2⟩ := y; simp at h; simp [h]) _ _ (a, b)
theorem o_compare_k : Knows Try.prog 127 o_compare := tab_knows fun x hx h => by
  obtain ⟨a, b⟩ := x; exact compare_c _ _ h
abbrev c_cmp_Compare_int_o0 : List AJ := [.o ⟨(some 4), none, false, .mv (.c (.int .i64 0)), (some [0, 1])⟩]
def c_cmp_Compare_int_0 : ACode := .region c_cmp_Compare_int_o0
abbrev c_cmp_Compare_int_o1 : List AJ := [.o ⟨(some 7), none, false, .mv (.t 0), none⟩, .o ⟨(some 8), none, false, .call 143 [(.t 7)], none⟩, .o ⟨(some 5), none, false, .mv (.t 8), (some [0, 1, 5])⟩]
def c_cmp_Compare_int_1 : ACode := .region c_cmp_Compare_int_o1
abbrev c_cmp_Compare_int_o2 : List AJ := [.o ⟨(some 9), none, false, .mv (.t 1), none⟩, .o ⟨(some 10), none, false, .call 143 [(.t 9)], none⟩, .o ⟨(some 6), none, false, .mv (.t 10), (some [0, 1, 5, 6])⟩]
def c_cmp_Compare_int_2 : ACode := .region c_cmp_Compare_int_o2
abbrev c_cmp_Compare_int_o3 : List AJ := [.o ⟨(some 11), none, false, .mv (.t 5), (some [0, 1, 6, 11])⟩]
def c_cmp_Compare_int_3 : ACode := .region c_cmp_Compare_int_o3
abbrev c_cmp_Compare_int_o4 : List AJ := [.o ⟨(some 12), none, false, .mv (.t 6), (some [12])⟩]
def c_cmp_Compare_int_4 : ACode := .region c_cmp_Compare_int_o4
abbrev c_cmp_Compare_int_o5 : List AJ := [.o ⟨(some 4), none, false, .mv (.c (.int .i64 0)), (some [4])⟩]
def c_cmp_Compare_int_5 : ACode := .region c_cmp_Compare_int_o5
def c_cmp_Compare_int_6 : ACode := .seq c_cmp_Compare_int_5 .ret
def c_cmp_Compare_int_7 : ACode := .cond (.t 12) c_cmp_Compare_int_6 .skip
def c_cmp_Compare_int_8 : ACode := .seq c_cmp_Compare_int_4 c_cmp_Compare_int_7
abbrev c_cmp_Compare_int_o6 : List AJ := [.o ⟨(some 4), none, false, .mv (.c (.int .i64 (-1))), (some [4])⟩]
def c_cmp_Compare_int_9 : ACode := .region c_cmp_Compare_int_o6
def c_cmp_Compare_int_10 : ACode := .seq c_cmp_Compare_int_9 .ret
def c_cmp_Compare_int_11 : ACode := .seq c_cmp_Compare_int_8 c_cmp_Compare_int_10
def c_cmp_Compare_int_12 : ACode := .cond (.t 11) c_cmp_Compare_int_11 .skip
def c_cmp_Compare_int_13 : ACode := .seq c_cmp_Compare_int_3 c_cmp_Compare_int_12
abbrev c_cmp_Compare_int_o7 : List AJ := [.o ⟨(some 13), none, false, .mv (.t 6), (some [0, 1, 13])⟩]
def c_cmp_Compare_int_14 : ACode := .region c_cmp_Compare_int_o7
abbrev c_cmp_Compare_int_o8 : List AJ := [.o ⟨(some 4), none, false, .mv (.c (.int .i64 1)), (some [4])⟩]
def c_cmp_Compare_int_15 : ACode := .region c_cmp_Compare_int_o8
def c_cmp_Compare_int_16 : ACode := .seq c_cmp_Compare_int_15 .ret
def c_cmp_Compare_int_17 : ACode := .cond (.t 13) c_cmp_Compare_int_16 .skip
def c_cmp_Compare_int_18 : ACode := .seq c_cmp_Compare_int_14 c_cmp_Compare_int_17
abbrev c_cmp_Compare_int_o9 : List AJ := [.o ⟨(some 14), none, false, .mv (.t 0), none⟩, .o ⟨(some 15), none, false, .mv (.t 1), none⟩, .o ⟨(some 16), none, false, .bin .lss (.t 14) (.t 15), (some [0, 1, 16])⟩]
def c_cmp_Compare_int_19 : ACode := .region c_cmp_Compare_int_o9
abbrev c_cmp_Compare_int_o10 : List AJ := [.o ⟨(some 4), none, false, .mv (.c (.int .i64 (-1))), (some [4])⟩]
def c_cmp_Compare_int_20 : ACode := .region c_cmp_Compare_int_o10
def c_cmp_Compare_int_21 : ACode := .seq c_cmp_Compare_int_20 .ret
def c_cmp_Compare_int_22 : ACode := .cond (.t 16) c_cmp_Compare_int_21 .skip
def c_cmp_Compare_int_23 : ACode := .seq c_cmp_Compare_int_19 c_cmp_Compare_int_22
abbrev c_cmp_Compare_int_o11 : List AJ := [.o ⟨(some 17), none, false, .mv (.t 0), none⟩, .o ⟨(some 18), none, false, .mv (.t 1), none⟩, .o ⟨(some 19), none, false, .bin .gtr (.t 17) (.t 18), (some [19])⟩]
def c_cmp_Compare_int_24 : ACode := .region c_cmp_Compare_int_o11
abbrev c_cmp_Compare_int_o12 : List AJ := [.o ⟨(some 4), none, false, .mv (.c (.int .i64 1)), (some [4])⟩]
def c_cmp_Compare_int_25 : ACode := .region c_cmp_Compare_int_o12
def c_cmp_Compare_int_26 : ACode := .seq c_cmp_Compare_int_25 .ret
def c_cmp_Compare_int_27 : ACode := .cond (.t 19) c_cmp_Compare_int_26 .skip
def c_cmp_Compare_int_28 : ACode := .seq c_cmp_Compare_int_24 c_cmp_Compare_int_27
abbrev c_cmp_Compare_int_o13 : List AJ := [.o ⟨(some 4), none, false, .mv (.c (.int .i64 0)), (some [4])⟩]
def c_cmp_Compare_int_29 : ACode := .region c_cmp_Compare_int_o13
def c_cmp_Compare_int_30 : ACode := .seq c_cmp_Compare_int_29 .ret
def c_cmp_Compare_int_31 : ACode := .seq c_cmp_Compare_int_28 c_cmp_Compare_int_30
def c_cmp_Compare_int_32 : ACode := .seq c_cmp_Compare_int_23 c_cmp_Compare_int_31
def c_cmp_Compare_int_33 : ACode := .seq c_cmp_Compare_int_18 c_cmp_Compare_int_32
def c_cmp_Compare_int_34 : ACode := .seq c_cmp_Compare_int_13 c_cmp_Compare_int_33
def c_cmp_Compare_int_35 : ACode := .seq c_cmp_Compare_int_2 c_cmp_Compare_int_34
def c_cmp_Compare_int_36 : ACode := .seq c_cmp_Compare_int_1 c_cmp_Compare_int_35
def c_cmp_Compare_int_37 : ACode := .seq c_cmp_Compare_int_0 c_cmp_Compare_int_36
section
variable (C : Cx) (n : Nat) (sk : List AItem) (e : Env) (h : Heap) (R : AV → Heap → Prop)
@[simp, simp ↓] theorem c_cmp_Compare_int_0_r : vc2 C (n + 1) [] (.code c_cmp_Compare_int_0 :: sk) e h R = (vc2 C n c_cmp_Compare_int_o0 sk e h R) := nr rfl
@[simp, simp ↓] theorem c_cmp_Compare_int_1_r : vc2 C (n + 1) [] (.code c_cmp_Compare_int_1 :: sk) e h R = (vc2 C n c_cmp_Compare_int_o1 sk e h R) := nr rfl
@[simp, simp ↓] theorem c_cmp_Compare_int_2_r : vc2 C (n + 1) [] (.code c_cmp_Compare_int_2 :: sk) e h R = (vc2 C n c_cmp_Compare_int_o2 sk e h R) := nr rfl
@[simp, simp ↓] theorem c_cmp_Compare_int_3_r : vc2 C (n + 1) [] (.code c_cmp_Compare_int_3 :: sk) e h R = (vc2 C n c_cmp_Compare_int_o3 sk e h R) := nr rfl
@[simp, simp ↓] theorem c_cmp_Compare_int_4_r : vc2 C (n + 1) [] (.code c_cmp_Compare_int_4 :: sk) e h R = (vc2 C n c_cmp_Compare_int_o4 sk e h R) := nr rfl
@[simp, simp ↓] theorem c_cmp_Compare_int_5_r : vc2 C (n + 1) [] (.code c_cmp_Compare_int_5 :: sk) e h R = (vc2 C n c_cmp_Compare_int_o5 sk e h R) := nr rfl
@[simp, simp ↓] theorem c_cmp_Compare_int_6_r : vc2 C (n + 1) [] (.code c_cmp_Compare_int_6 :: sk) e h R = (vc2 C n [] (.code c_cmp_Compare_int_5 :: .code .ret :: sk) e h R) := nr rfl
@[simp, simp ↓] theorem c_cmp_Compare_int_7_r : vc2 C (n + 1) [] (.code c_cmp_Compare_int_7 :: sk) e h R = (condK (ev e (.t 12)) (vc2 C n [] (.code c_cmp_Compare_int_6 :: sk) e h R) (vc2 C n [] (.code .skip :: sk) e h R)) := nr rfl
@[simp, simp ↓] theorem c_cmp_Compare_int_8_r : vc2 C (n + 1) [] (.code c_cmp_Compare_int_8 :: sk) e h R = (vc2 C n [] (.code c_cmp_Compare_int_4 :: .code c_cmp_Compare_int_7 :: sk) e h R) := nr rfl
@[simp, simp ↓] theorem c_cmp_Compare_int_9_r : vc2 C (n + 1) [] (.code c_cmp_Compare_int_9 :: sk) e h R = (vc2 C n c_cmp_Compare_int_o6 sk e h R) := nr rfl
@[simp, simp ↓] theorem c_cmp_Compare_int_10_r : vc2 C (n + 1) [] (.code c_cmp_Compare_int_10 :: sk) e h R = (vc2 C n [] (.code c_cmp_Compare_int_9 :: .code .ret :: sk) e h R) := nr rfl
@[simp, simp ↓] theorem c_cmp_Compare_int_11_r : vc2 C (n + 1) [] (.code c_cmp_Compare_int_11 :: sk) e h R = (vc2 C n [] (.code c_cmp_Compare_int_8 :: .code c_cmp_Compare_int_10 :: sk) e h R) := nr rfl
@[simp, simp ↓] theorem c_cmp_Compare_int_12_r : vc2 C (n + 1) [] (.code c_cmp_Compare_int_12 :: sk) e h R = (condK (ev e (.t 11)) (vc2 C n [] (.code c_cmp_Compare_int_11 :: sk) e h R) (vc2 C n [] (.code .skip :: sk) e h R)) := nr rfl
@[simp, simp ↓] theorem c_cmp_Compare_int_13_r : vc2 C (n + 1) [] (.code c_cmp_Compare_int_13 :: sk) e h R = (vc2 C n [] (.code c_cmp_Compare_int_3 :: .code c_cmp_Compare_int_12 :: sk) e h R) := nr rfl
@[simp, simp ↓] theorem c_cmp_Compare_int_14_r : vc2 C (n + 1) [] (.code c_cmp_Compare_int_14 :: sk) e h R = (vc2 C n c_cmp_Compare_int_o7 sk e h R) := nr rfl
@[simp, simp ↓] theorem c_cmp_Compare_int_15_r : vc2 C (n + 1) [] (.code c_cmp_Compare_int_15 :: sk) e h R = (vc2 C n c_cmp_Compare_int_o8 sk e h R) := nr rfl
@[simp, simp ↓] theorem c_cmp_Compare_int_16_r : vc2 C (n + 1) [] (.code c_cmp_Compare_int_16 :: sk) e h R = (vc2 C n [] (.code c_cmp_Compare_int_15 :: .code .ret :: sk) e h R) := nr rfl
@[simp, simp ↓] theorem c_cmp_Compare_int_17_r : vc2 C (n + 1) [] (.code c_cmp_Compare_int_17 :: sk) e h R = (condK (ev e (.t 13)) (vc2 C n [] (.code c_cmp_Compare_int_16 :: sk) e h R) (vc2 C n [] (.code .skip :: sk) e h R)) := nr rfl
@[simp, simp ↓] theorem c_cmp_Compare_int_18_r : vc2 C (n + 1) [] (.code c_cmp_Compare_int_18 :: sk) e h R = (vc2 C n [] (.code c_cmp_Compare_int_14 :: .code c_cmp_Compare_int_17 :: sk) e h R) := nr rfl
@[simp, simp ↓] theorem c_cmp_Compare_int_19_r : vc2 C (n + 1) [] (.code c_cmp_Compare_int_19 :: sk) e h R = (vc2 C n c_cmp_Compare_int_o9 sk e h R) := nr rfl
@[simp, simp ↓] theorem c_cmp_Compare_int_20_r : vc2 C (n + 1) [] (.code c_cmp_Compare_int_20 :: sk) e h R = (vc2 C n c_cmp_Compare_int_o10 sk e h R) := nr rfl
@[simp, simp ↓] theorem c_cmp_Compare_int_21_r : vc2 C (n + 1) [] (.code c_cmp_Compare_int_21 :: sk) e h R = (vc2 C n [] (.code c_cmp_Compare_int_20 :: .code .ret :: sk) e h R) := nr rfl
@[simp, simp ↓] theorem c_cmp_Compare_int_22_r : vc2 C (n + 1) [] (.code c_cmp_Compare_int_22 :: sk) e h R = (condK (ev e (.t 16)) (vc2 C n [] (.code c_cmp_Compare_int_21 :: sk) e h R) (vc2 C n [] (.code .skip :: sk) e h R)) := nr rfl
@[simp, simp ↓] theorem c_cmp_Compare_int_23_r : vc2 C (n + 1) [] (.code c_cmp_Compare_int_23 :: sk) e h R = (vc2 C n [] (.code c_cmp_Compare_int_19 :: .code c_cmp_Compare_int_22 :: sk) e h R) := nr rfl
@[simp, simp ↓] theorem c_cmp_Compare_int_24_r : vc2 C (n + 1) [] (.code c_cmp_Compare_int_24 :: sk) e h R = (vc2 C n c_cmp_Compare_int_o11 sk e h R) := nr rfl
@[simp, simp ↓] theorem c_cmp_Compare_int_25_r : vc2 C (n + 1) [] (.code c_cmp_Compare_int_25 :: sk) e h R = (vc2 C n c_cmp_Compare_int_o12 sk e h R) := nr rfl
@[simp, simp ↓] theorem c_cmp_Compare_int_26_r : vc2 C (n + 1) [] (.code c_cmp_Compare_int_26 :: sk) e h R = (vc2 C n [] (.code c_cmp_Compare_int_25 :: .code .ret :: sk) e h R) := nr rfl
@[simp, simp ↓] theorem c_cmp_Compare_int_27_r : vc2 C (n + 1) [] (.code c_cmp_Compare_int_27 :: sk) e h R = (condK (ev e (.t 19)) (vc2 C n [] (.code c_cmp_Compare_int_26 :: sk) e h R) (vc2 C n [] (.code .skip :: sk) e h R)) := nr rfl
@[simp, simp ↓] theorem c_cmp_Compare_int_28_r : vc2 C (n + 1) [] (.code c_cmp_Compare_int_28 :: sk) e h R = (vc2 C n [] (.code c_cmp_Compare_int_24 :: .code c_cmp_Compare_int_27 :: sk) e h R) := nr rfl
@[simp, simp ↓] theorem c_cmp_Compare_int_29_r : vc2 C (n + 1) [] (.code c_cmp_Compare_int_29 :: sk) e h R = (vc2 C n c_cmp_Compare_int_o13 sk e h R) := nr rfl
@[simp, simp ↓] theorem c_cmp_Compare_int_30_r : vc2 C (n + 1) [] (.code c_cmp_Compare_int_30 :: sk) e h R = (vc2 C n [] (.code c_cmp_Compare_int_29 :: .code .ret :: sk) e h R) := nr rfl
@[simp, simp ↓] theorem c_cmp_Compare_int_31_r : vc2 C (n + 1) [] (.code c_cmp_Compare_int_31 :: sk) e h R = (vc2 C n [] (.code c_cmp_Compare_int_28 :: .code c_cmp_Compare_int_30 :: sk) e h R) := nr rfl
@[simp, simp ↓] theorem c_cmp_Compare_int_32_r : vc2 C (n + 1) [] (.code c_cmp_Compare_int_32 :: sk) e h R = (vc2 C n [] (.code c_cmp_Compare_int_23 :: .code c_cmp_Compare_int_31 :: sk) e h R) := nr rfl
@[simp, simp ↓] theorem c_cmp_Compare_int_33_r : vc2 C (n + 1) [] (.code c_cmp_Compare_int_33 :: sk) e h R = (vc2 C n [] (.code c_cmp_Compare_int_18 :: .code c_cmp_Compare_int_32 :: sk) e h R) := nr rfl
@[simp, simp ↓] theorem c_cmp_Compare_int_34_r : vc2 C (n + 1) [] (.code c_cmp_Compare_int_34 :: sk) e h R = (vc2 C n [] (.code c_cmp_Compare_int_13 :: .code c_cmp_Compare_int_33 :: sk) e h R) := nr rfl
@[simp, simp ↓] theorem c_cmp_Compare_int_35_r : vc2 C (n + 1) [] (.code c_cmp_Compare_int_35 :: sk) e h R = (vc2 C n [] (.code c_cmp_Compare_int_2 :: .code c_cmp_Compare_int_34 :: sk) e h R) := nr rfl
@[simp, simp ↓] theorem c_cmp_Compare_int_36_r : vc2 C (n + 1) [] (.code c_cmp_Compare_int_36 :: sk) e h R = (vc2 C n [] (.code c_cmp_Compare_int_1 :: .code c_cmp_Compare_int_35 :: sk) e h R) := nr rfl
@[simp, simp ↓] theorem c_cmp_Compare_int_37_r : vc2 C (n + 1) [] (.code c_cmp_Compare_int_37 :: sk) e h R = (vc2 C n [] (.code c_cmp_Compare_int_0 :: .code c_cmp_Compare_int_36 :: sk) e h R) := nr rfl
end
noncomputable def c_cmp_Compare_int_C (orc : Orc) : Cx := ⟨Try.prog, [], 133, 20, [.tmp 4], orc⟩
@[simp] theorem c_cmp_Compare_int_C_P (orc : Orc) : (c_cmp_Compare_int_C orc).P = Try.prog := nr rfl
@[simp] theorem c_cmp_Compare_int_C_o (orc : Orc) : (c_cmp_Compare_int_C orc).orc = orc := nr rfl
@[simp] theorem c_cmp_Compare_int_C_r (orc : Orc) : (c_cmp_Compare_int_C orc).res = [.tmp 4] := nr rfl
theorem c_cmp_Compare_int_of {args : List AV} {h : Heap} {R : AV → Heap → Prop} {k : Nat} (ha : args.length = k) {orc : Orc} (hp : Pure Try.prog orc) (hk : Is (c_cmp_Compare_int_C orc) Try.f133 → Run2 (c_cmp_Compare_int_C orc) [.code c_cmp_Compare_int_37] (argEnv 0 args) h (Post R)) (hle : k ≤ 20 := by simp) : ACalls Try.prog 133 args h R :=
  contract2 [] c_cmp_Compare_int_37 [.tmp 4] Try.func133 (by decide +kernel) rfl (by kernel_rfl) (by rw [ha]; exact hle) (by kernel_rfl) hp hk
theorem c_cmp_Compare_int_of0 {args : List AV} {h : Heap} {R : AV → Heap → Prop} {k : Nat} (ha : args.length = k) {orc : Orc} (hp : Pure Try.prog orc) (hk : Is (c_cmp_Compare_int_C orc) Try.f133 → Run2 (c_cmp_Compare_int_C orc) [.code c_cmp_Compare_int_37] (argEnv 0 args) h R) (hle : k ≤ 20 := by simp) : ACalls Try.prog 133 args h R :=
  contract20 [] c_cmp_Compare_int_37 [.tmp 4] Try.func133 (by decide +kernel) rfl (by kernel_rfl) (by rw [ha]; exact hle) (by kernel_rfl) hp hk
theorem comparei_c (a b : Int) (h : Heap) : ACalls Try.prog 133 [.int .i64 a, .int .i64 b] h (fun v h' => v = .int .i64 (cmpZ a b) ∧ h' = h) := by
  refine c_cmp_Compare_int_of0 rfl orc1_p fun I => ?_
  refine Run2.of I 1000 ?_
  simp -implicitDefEqProofs [cmpZ]
  grind
noncomputable def o_comparei : List AV → Option (Prop × AV) := tab (fun (x : Int × Int) => match x with | (a, b) => [.int .i64 a, .int .i64 b]) (fun x => match x with | (a, b) => True) (fun x => match x with | (a, b) => .int .i64 (cmpZ a b))
@[simp] theorem o_comparei_e (a : Int) (b : Int) : o_comparei [.int .i64 a, .int .i64 b] = some (True, .int .i64 (cmpZ a b)) := tab_at (enc := fun (x : Int × Int) => match x with | (a, b) => [.int .i64 a, .int .i64 b]) (fun x y h => by
  obtain ⟨a1, b1⟩ := x; obtain ⟨a2, b2⟩ := y; simp at h; simp [h]) _ _ (a, b)
theorem o_comparei_k : Knows Try.prog 133 o_comparei := tab_knows fun x hx h => by
  obtain ⟨a, b⟩ := x; exact comparei_c _ _ h
def orI : List Int → Int
  | [] => 0
  | x :: xs => if x = 0 then orI xs else x
abbrev c_cmp_Or_int_o0 : List AJ := [.o ⟨(some 2), none, false, .mv (.c (.int .i64 0)), (some [0])⟩]
def c_cmp_Or_int_0 : ACode := .region c_cmp_Or_int_o0
abbrev c_cmp_Or_int_o1 : List AJ := [.o ⟨(some 3), none, false, .mv (.c (.int .i64 0)), (some [0, 3])⟩]
def c_cmp_Or_int_1 : ACode := .region c_cmp_Or_int_o1
abbrev c_cmp_Or_int_o2 : List AJ := [.o ⟨(some 6), none, false, .mv (.t 0), none⟩, .o ⟨(some 7), none, false, .len (.t 6), none⟩, .o ⟨(some 8), none, false, .mv (.c (.int .i64 0)), (some [3, 6, 7, 8])⟩]
def c_cmp_Or_int_2 : ACode := .region c_cmp_Or_int_o2
abbrev c_cmp_Or_int_o3 : List AJ := [.o ⟨(some 9), none, false, .bin .lss (.t 8) (.t 7), (some [3, 6, 7, 8, 9])⟩]
def c_cmp_Or_int_3 : ACode := .region c_cmp_Or_int_o3
def c_cmp_Or_int_4 : ACode := .cond (.t 9) .skip (.exit 0)
abbrev c_cmp_Or_int_o4 : List AJ := [.o ⟨(some 10), none, false, .idxA 1 (.t 6) (.t 8), none⟩, .o ⟨(some 11), none, false, .load 1 false (.t 10), none⟩, .o ⟨(some 5), none, false, .mv (.t 11), (some [3, 5, 6, 7, 8])⟩]
def c_cmp_Or_int_5 : ACode := .region c_cmp_Or_int_o4
abbrev c_cmp_Or_int_o5 : List AJ := [.o ⟨(some 12), none, false, .mv (.t 5), none⟩, .o ⟨(some 13), none, false, .mv (.t 3), none⟩, .o ⟨(some 14), none, false, .bin .neq (.t 12) (.t 13), (some [3, 5, 6, 7, 8, 14])⟩]
def c_cmp_Or_int_6 : ACode := .region c_cmp_Or_int_o5
abbrev c_cmp_Or_int_o6 : List AJ := [.o ⟨(some 15), none, false, .mv (.t 5), none⟩, .o ⟨(some 2), none, false, .mv (.t 15), (some [2])⟩]
def c_cmp_Or_int_7 : ACode := .region c_cmp_Or_int_o6
def c_cmp_Or_int_8 : ACode := .seq c_cmp_Or_int_7 .ret
def c_cmp_Or_int_9 : ACode := .cond (.t 14) c_cmp_Or_int_8 .skip
def c_cmp_Or_int_10 : ACode := .seq c_cmp_Or_int_6 c_cmp_Or_int_9
def c_cmp_Or_int_11 : ACode := .seq c_cmp_Or_int_5 c_cmp_Or_int_10
def c_cmp_Or_int_12 : ACode := .block 1 c_cmp_Or_int_11
abbrev c_cmp_Or_int_o7 : List AJ := [.o ⟨(some 16), none, true, .bin .add (.t 8) (.c (.int .i64 1)), none⟩, .o ⟨(some 8), none, false, .mv (.t 16), (some [3, 6, 7, 8])⟩]
def c_cmp_Or_int_13 : ACode := .region c_cmp_Or_int_o7
def c_cmp_Or_int_14 : ACode := .seq c_cmp_Or_int_12 c_cmp_Or_int_13
def c_cmp_Or_int_15 : ACode := .seq c_cmp_Or_int_4 c_cmp_Or_int_14
def c_cmp_Or_int_16 : ACode := .seq c_cmp_Or_int_3 c_cmp_Or_int_15
def c_cmp_Or_int_17 : ACode := .loop c_cmp_Or_int_16
def c_cmp_Or_int_18 : ACode := .block 0 c_cmp_Or_int_17
def c_cmp_Or_int_19 : ACode := .seq c_cmp_Or_int_2 c_cmp_Or_int_18
abbrev c_cmp_Or_int_o8 : List AJ := [.o ⟨(some 17), none, false, .mv (.t 3), none⟩, .o ⟨(some 2), none, false, .mv (.t 17), (some [2])⟩]
def c_cmp_Or_int_20 : ACode := .region c_cmp_Or_int_o8
def c_cmp_Or_int_21 : ACode := .seq c_cmp_Or_int_20 .ret
def c_cmp_Or_int_22 : ACode := .seq c_cmp_Or_int_19 c_cmp_Or_int_21
def c_cmp_Or_int_23 : ACode := .seq c_cmp_Or_int_1 c_cmp_Or_int_22
def c_cmp_Or_int_24 : ACode := .seq c_cmp_Or_int_0 c_cmp_Or_int_23
section
variable (C : Cx) (n : Nat) (sk : List AItem) (e : Env) (h : Heap) (R : AV → Heap → Prop)
@[simp, simp ↓] theorem c_cmp_Or_int_0_r : vc2 C (n + 1) [] (.code c_cmp_Or_int_0 :: sk) e h R = (vc2 C n c_cmp_Or_int_o0 sk e h R) := nr rfl
@[simp, simp ↓] theorem c_cmp_Or_int_1_r : vc2 C (n + 1) [] (.code c_cmp_Or_int_1 :: sk) e h R = (vc2 C n c_cmp_Or_int_o1 sk e h R) := nr rfl
@[simp, simp ↓] theorem c_cmp_Or_int_2_r : vc2 C (n + 1) [] (.code c_cmp_Or_int_2 :: sk) e h R = (vc2 C n c_cmp_Or_int_o2 sk e h R) := nr rfl
@[simp, simp ↓] theorem c_cmp_Or_int_3_r : vc2 C (n + 1) [] (.code c_cmp_Or_int_3 :: sk) e h R = (vc2 C n c_cmp_Or_int_o3 sk e h R) := nr rfl
@[simp, simp ↓] theorem c_cmp_Or_int_4_r : vc2 C (n + 1) [] (.code c_cmp_Or_int_4 :: sk) e h R = (condK (ev e (.t 9)) (vc2 C n [] (.code .skip :: sk) e h R) (vc2 C n [] (.code (.exit 0) :: sk) e h R)) := nr rfl
@[simp, simp ↓] theorem c_cmp_Or_int_5_r : vc2 C (n + 1) [] (.code c_cmp_Or_int_5 :: sk) e h R = (vc2 C n c_cmp_Or_int_o4 sk e h R) := nr rfl
@[simp, simp ↓] theorem c_cmp_Or_int_6_r : vc2 C (n + 1) [] (.code c_cmp_Or_int_6 :: sk) e h R = (vc2 C n c_cmp_Or_int_o5 sk e h R) := nr rfl
@[simp, simp ↓] theorem c_cmp_Or_int_7_r : vc2 C (n + 1) [] (.code c_cmp_Or_int_7 :: sk) e h R = (vc2 C n c_cmp_Or_int_o6 sk e h R) := nr rfl
@[simp, simp ↓] theorem c_cmp_Or_int_8_r : vc2 C (n + 1) [] (.code c_cmp_Or_int_8 :: sk) e h R = (vc2 C n [] (.code c_cmp_Or_int_7 :: .code .ret :: sk) e h R) := nr rfl
@[simp, simp ↓] theorem c_cmp_Or_int_9_r : vc2 C (n + 1) [] (.code c_cmp_Or_int_9 :: sk) e h R = (condK (ev e (.t 14)) (vc2 C n [] (.code c_cmp_Or_int_8 :: sk) e h R) (vc2 C n [] (.code .skip :: sk) e h R)) := nr rfl
@[simp, simp ↓] theorem c_cmp_Or_int_10_r : vc2 C (n + 1) [] (.code c_cmp_Or_int_10 :: sk) e h R = (vc2 C n [] (.code c_cmp_Or_int_6 :: .code c_cmp_Or_int_9 :: sk) e h R) := nr rfl
@[simp, simp ↓] theorem c_cmp_Or_int_11_r : vc2 C (n + 1) [] (.code c_cmp_Or_int_11 :: sk) e h R = (vc2 C n [] (.code c_cmp_Or_int_5 :: .code c_cmp_Or_int_10 :: sk) e h R) := nr rfl
@[simp, simp ↓] theorem c_cmp_Or_int_12_r : vc2 C (n + 1) [] (.code c_cmp_Or_int_12 :: sk) e h R = (vc2 C n [] (.code c_cmp_Or_int_11 :: .inBlock 1 :: sk) e h R) := nr rfl
@[simp, simp ↓] theorem c_cmp_Or_int_13_r : vc2 C (n + 1) [] (.code c_cmp_Or_int_13 :: sk) e h R = (vc2 C n c_cmp_Or_int_o7 sk e h R) := nr rfl
@[simp, simp ↓] theorem c_cmp_Or_int_14_r : vc2 C (n + 1) [] (.code c_cmp_Or_int_14 :: sk) e h R = (vc2 C n [] (.code c_cmp_Or_int_12 :: .code c_cmp_Or_int_13 :: sk) e h R) := nr rfl
@[simp, simp ↓] theorem c_cmp_Or_int_15_r : vc2 C (n + 1) [] (.code c_cmp_Or_int_15 :: sk) e h R = (vc2 C n [] (.code c_cmp_Or_int_4 :: .code c_cmp_Or_int_14 :: sk) e h R) := nr rfl
@[simp, simp ↓] theorem c_cmp_Or_int_16_r : vc2 C (n + 1) [] (.code c_cmp_Or_int_16 :: sk) e h R = (vc2 C n [] (.code c_cmp_Or_int_3 :: .code c_cmp_Or_int_15 :: sk) e h R) := nr rfl
@[simp, simp ↓] theorem c_cmp_Or_int_17_r : vc2 C (n + 1) [] (.code c_cmp_Or_int_17 :: sk) e h R = (Run2 C (.code c_cmp_Or_int_16 :: .inLoop c_cmp_Or_int_16 :: sk) e h R) := nr rfl
@[simp, simp ↓] theorem c_cmp_Or_int_18_r : vc2 C (n + 1) [] (.code c_cmp_Or_int_18 :: sk) e h R = (vc2 C n [] (.code c_cmp_Or_int_17 :: .inBlock 0 :: sk) e h R) := nr rfl
@[simp, simp ↓] theorem c_cmp_Or_int_19_r : vc2 C (n + 1) [] (.code c_cmp_Or_int_19 :: sk) e h R = (vc2 C n [] (.code c_cmp_Or_int_2 :: .code c_cmp_Or_int_18 :: sk) e h R) := nr rfl
@[simp, simp ↓] theorem c_cmp_Or_int_20_r : vc2 C (n + 1) [] (.code c_cmp_Or_int_20 :: sk) e h R = (vc2 C n c_cmp_Or_int_o8 sk e h R) := nr rfl
@[simp, simp ↓] theorem c_cmp_Or_int_21_r : vc2 C (n + 1) [] (.code c_cmp_Or_int_21 :: sk) e h R = (vc2 C n [] (.code c_cmp_Or_int_20 :: .code .ret :: sk) e h R) := nr rfl
@[simp, simp ↓] theorem c_cmp_Or_int_22_r : vc2 C (n + 1) [] (.code c_cmp_Or_int_22 :: sk) e h R = (vc2 C n [] (.code c_cmp_Or_int_19 :: .code c_cmp_Or_int_21 :: sk) e h R) := nr rfl
@[simp, simp ↓] theorem c_cmp_Or_int_23_r : vc2 C (n + 1) [] (.code c_cmp_Or_int_23 :: sk) e h R = (vc2 C n [] (.code c_cmp_Or_int_1 :: .code c_cmp_Or_int_22 :: sk) e h R) := nr rfl
@[simp, simp ↓] theorem c_cmp_Or_int_24_r : vc2 C (n + 1) [] (.code c_cmp_Or_int_24 :: sk) e h R = (vc2 C n [] (.code c_cmp_Or_int_0 :: .code c_cmp_Or_int_23 :: sk) e h R) := nr rfl
end
noncomputable def c_cmp_Or_int_C (orc : Orc) : Cx := ⟨Try.prog, [], 132, 18, [.tmp 2], orc⟩
@[simp] theorem c_cmp_Or_int_C_P (orc : Orc) : (c_cmp_Or_int_C orc).P = Try.prog := nr rfl
@[simp] theorem c_cmp_Or_int_C_o (orc : Orc) : (c_cmp_Or_int_C orc).orc = orc := nr rfl
@[simp] theorem c_cmp_Or_int_C_r (orc : Orc) : (c_cmp_Or_int_C orc).res = [.tmp 2] := nr rfl
theorem c_cmp_Or_int_of {args : List AV} {h : Heap} {R : AV → Heap → Prop} {k : Nat} (ha : args.length = k) {orc : Orc} (hp : Pure Try.prog orc) (hk : Is (c_cmp_Or_int_C orc) Try.f132 → Run2 (c_cmp_Or_int_C orc) [.code c_cmp_Or_int_24] (argEnv 0 args) h (Post R)) (hle : k ≤ 18 := by simp) : ACalls Try.prog 132 args h R :=
  contract2 [] c_cmp_Or_int_24 [.tmp 2] Try.func132 (by decide +kernel) rfl (by kernel_rfl) (by rw [ha]; exact hle) (by kernel_rfl) hp hk
theorem c_cmp_Or_int_of0 {args : List AV} {h : Heap} {R : AV → Heap → Prop} {k : Nat} (ha : args.length = k) {orc : Orc} (hp : Pure Try.prog orc) (hk : Is (c_cmp_Or_int_C orc) Try.f132 → Run2 (c_cmp_Or_int_C orc) [.code c_cmp_Or_int_24] (argEnv 0 args) h R) (hle : k ≤ 18 := by simp) : ACalls Try.prog 132 args h R :=
  contract20 [] c_cmp_Or_int_24 [.tmp 2] Try.func132 (by decide +kernel) rfl (by kernel_rfl) (by rw [ha]; exact hle) (by kernel_rfl) hp hk
theorem or_c (l : List Int) (h : Heap) (hl : l.length ≤ 1048576) : ACalls Try.prog 132 [.snap 1 (l.map fun n => .int .i64 n)] h (fun v h' => v = .int .i64 (orI l) ∧ h' = h) := by
  refine c_cmp_Or_int_of0 rfl noPure fun I => ?_
  refine Run2.of I 1000 ?_
  simp -implicitDefEqProofs
  refine Run2.loop (fun i => [(3, .int .i64 0), (6, .snap 1 (l.map fun n => .int .i64 n)), (7, .int .i64 l.length), (8, .int .i64 (i : Nat))]) (fun i => h) (fun i => l.length - i) (fun i => i ≤ l.length ∧ orI (l.drop i) = orI l) 0 (by simp) fun i hi ih => ?_
  by_cases hlt : i < l.length
  · have hd : l.drop i = l[i] :: l.drop (i + 1) := List.drop_eq_getElem_cons hlt
    refine Run2.of I 1000 ?_
    simp -implicitDefEqProofs [hlt]
    constructor
    · intro hne
      rw [← hi.2, hd, orI, if_neg hne]
    · intro he
      refine ⟨by omega, ?_⟩
      have := ih (i + 1) ⟨by omega, by rw [← hi.2, hd, orI, if_pos he]⟩ (by omega)
      simpa using this
  · have : i = l.length := by omega
    have h2 := hi.2
    rw [List.drop_of_length_le (by omega)] at h2
    refine Run2.of I 1000 ?_
    simp -implicitDefEqProofs [hlt]
    exact h2
noncomputable def o_or2 : List AV → Option (Prop × AV) := tab (fun (x : Int × Int) => match x with | (a, b) => [.snap 1 [.int .i64 a, .int .i64 b]]) (fun x => match x with | (a, b) => True) (fun x => match x with | (a, b) => .int .i64 (orI [a, b]))
@[simp] theorem o_or2_e (a : Int) (b : Int) : o_or2 [.snap 1 [.int .i64 a, .int .i64 b]] = some (True, .int .i64 (orI [a, b])) := tab_at (enc := fun (x : Int × Int) => match x with | (a, b) => [.snap 1 [.int .i64 a, .int .i64 b]]) (fun x y h => by
  obtain ⟨a1, b1⟩ := x; obtain ⟨a2, b2⟩ := y; simp at h; simp [h]) _ _ (a, b)
theorem o_or2_k : Knows Try.prog 132 o_or2 := tab_knows fun x hx h => by
  obtain ⟨a, b⟩ := x; exact or_c [a, b] h (by simp)
noncomputable def orc2 : List (Nat × (List AV → Option (Prop × AV))) := (127, o_compare) :: (133, o_comparei) :: (132, o_or2) :: orc1
theorem orc2_p : Pure Try.prog (lk orc2) := (lk_pure o_compare_k (lk_pure o_comparei_k (lk_pure o_or2_k orc1_p)))
@[simp] theorem orc2_l (g : FuncId) (l : List AV) : lk orc2 g l = if g = 127 then o_compare l else if g = 133 then o_comparei l else if g = 132 then o_or2 l else lk orc1 g l := nr rfl
def btw (l : List Int) (a b : Int) : Prop := ∀ k ∈ l, a ≤ k ∧ k ≤ b
noncomputable instance (l : List Int) (a b : Int) : Decidable (btw l a b ∧ riseS l) := Classical.propDecidable _
theorem rising_to {r : List Int} (i : Nat) (h : ∀ j (h : j + 1 < r.length), j + 1 < i → r[j] < r[j + 1]) (hi : r.length ≤ i) : riseS r := fun j hj => h j hj (by omega)
abbrev c_slices_IndexFunc_int64_int64_o0 : List AJ := [.o ⟨(some 4), none, false, .mv (.c (.int .i64 0)), (some [0, 1])⟩]
def c_slices_IndexFunc_int64_int64_0 : ACode := .region c_slices_IndexFunc_int64_int64_o0
abbrev c_slices_IndexFunc_int64_int64_o1 : List AJ := [.o ⟨(some 6), none, false, .mv (.t 0), none⟩, .o ⟨(some 7), none, false, .len (.t 6), none⟩, .o ⟨(some 8), none, false, .mv (.c (.int .i64 0)), (some [0, 1, 7, 8])⟩]
def c_slices_IndexFunc_int64_int64_1 : ACode := .region c_slices_IndexFunc_int64_int64_o1
abbrev c_slices_IndexFunc_int64_int64_o2 : List AJ := [.o ⟨(some 9), none, false, .bin .lss (.t 8) (.t 7), (some [0, 1, 7, 8, 9])⟩]
def c_slices_IndexFunc_int64_int64_2 : ACode := .region c_slices_IndexFunc_int64_int64_o2
def c_slices_IndexFunc_int64_int64_3 : ACode := .cond (.t 9) .skip (.exit 0)
abbrev c_slices_IndexFunc_int64_int64_o3 : List AJ := [.o ⟨(some 10), none, false, .mv (.t 8), none⟩, .o ⟨(some 5), none, false, .mv (.t 10), (some [0, 1, 5, 7, 8])⟩]
def c_slices_IndexFunc_int64_int64_4 : ACode := .region c_slices_IndexFunc_int64_int64_o3
abbrev c_slices_IndexFunc_int64_int64_o4 : List AJ := [.o ⟨(some 11), none, false, .mv (.t 1), none⟩, .o ⟨(some 12), none, false, .mv (.t 0), none⟩, .o ⟨(some 13), none, false, .mv (.t 5), none⟩, .o ⟨(some 14), none, false, .idxA 1 (.t 12) (.t 13), none⟩, .o ⟨(some 15), none, false, .load 1 false (.t 14), none⟩, .o ⟨(some 16), none, false, .callv (.t 11) [(.t 15)], (some [0, 1, 5, 7, 8, 16])⟩]
def c_slices_IndexFunc_int64_int64_5 : ACode := .region c_slices_IndexFunc_int64_int64_o4
abbrev c_slices_IndexFunc_int64_int64_o5 : List AJ := [.o ⟨(some 17), none, false, .mv (.t 5), none⟩, .o ⟨(some 4), none, false, .mv (.t 17), (some [4])⟩]
def c_slices_IndexFunc_int64_int64_6 : ACode := .region c_slices_IndexFunc_int64_int64_o5
def c_slices_IndexFunc_int64_int64_7 : ACode := .seq c_slices_IndexFunc_int64_int64_6 .ret
def c_slices_IndexFunc_int64_int64_8 : ACode := .cond (.t 16) c_slices_IndexFunc_int64_int64_7 .skip
def c_slices_IndexFunc_int64_int64_9 : ACode := .seq c_slices_IndexFunc_int64_int64_5 c_slices_IndexFunc_int64_int64_8
def c_slices_IndexFunc_int64_int64_10 : ACode := .seq c_slices_IndexFunc_int64_int64_4 c_slices_IndexFunc_int64_int64_9
def c_slices_IndexFunc_int64_int64_11 : ACode := .block 1 c_slices_IndexFunc_int64_int64_10
abbrev c_slices_IndexFunc_int64_int64_o6 : List AJ := [.o ⟨(some 18), none, true, .bin .add (.t 8) (.c (.int .i64 1)), none⟩, .o ⟨(some 8), none, false, .mv (.t 18), (some [0, 1, 7, 8])⟩]
def c_slices_IndexFunc_int64_int64_12 : ACode := .region c_slices_IndexFunc_int64_int64_o6
def c_slices_IndexFunc_int64_int64_13 : ACode := .seq c_slices_IndexFunc_int64_int64_11 c_slices_IndexFunc_int64_int64_12
def c_slices_IndexFunc_int64_int64_14 : ACode := .seq c_slices_IndexFunc_int64_int64_3 c_slices_IndexFunc_int64_int64_13
def c_slices_IndexFunc_int64_int64_15 : ACode := .seq c_slices_IndexFunc_int64_int64_2 c_slices_IndexFunc_int64_int64_14
def c_slices_IndexFunc_int64_int64_16 : ACode := .loop c_slices_IndexFunc_int64_int64_15
def c_slices_IndexFunc_int64_int64_17 : ACode := .block 0 c_slices_IndexFunc_int64_int64_16
def c_slices_IndexFunc_int64_int64_18 : ACode := .seq c_slices_IndexFunc_int64_int64_1 c_slices_IndexFunc_int64_int64_17
abbrev c_slices_IndexFunc_int64_int64_o7 : List AJ := [.o ⟨(some 4), none, false, .mv (.c (.int .i64 (-1))), (some [4])⟩]
def c_slices_IndexFunc_int64_int64_19 : ACode := .region c_slices_IndexFunc_int64_int64_o7
def c_slices_IndexFunc_int64_int64_20 : ACode := .seq c_slices_IndexFunc_int64_int64_19 .ret
def c_slices_IndexFunc_int64_int64_21 : ACode := .seq c_slices_IndexFunc_int64_int64_18 c_slices_IndexFunc_int64_int64_20
def c_slices_IndexFunc_int64_int64_22 : ACode := .seq c_slices_IndexFunc_int64_int64_0 c_slices_IndexFunc_int64_int64_21
section
variable (C : Cx) (n : Nat) (sk : List AItem) (e : Env) (h : Heap) (R : AV → Heap → Prop)
@[simp, simp ↓] theorem c_slices_IndexFunc_int64_int64_0_r : vc2 C (n + 1) [] (.code c_slices_IndexFunc_int64_int64_0 :: sk) e h R = (vc2 C n c_slices_IndexFunc_int64_int64_o0 sk e h R) := nr rfl
@[simp, simp ↓] theorem c_slices_IndexFunc_int64_int64_1_r : vc2 C (n + 1) [] (.code c_slices_IndexFunc_int64_int64_1 :: sk) e h R = (vc2 C n c_slices_IndexFunc_int64_int64_o1 sk e h R) := nr rfl
@[simp, simp ↓] theorem c_slices_IndexFunc_int64_int64_2_r : vc2 C (n + 1) [] (.code c_slices_IndexFunc_int64_int64_2 :: sk) e h R = (vc2 C n c_slices_IndexFunc_int64_int64_o2 sk e h R) := nr rfl
@[simp, simp ↓] theorem c_slices_IndexFunc_int64_int64_3_r : vc2 C (n + 1) [] (.code c_slices_IndexFunc_int64_int64_3 :: sk) e h R = (condK (ev e (.t 9)) (vc2 C n [] (.code .skip :: sk) e h R) (vc2 C n [] (.code (.exit 0) :: sk) e h R)) := nr rfl
@[simp, simp ↓] theorem c_slices_IndexFunc_int64_int64_4_r : vc2 C (n + 1) [] (.code c_slices_IndexFunc_int64_int64_4 :: sk) e h R = (vc2 C n c_slices_IndexFunc_int64_int64_o3 sk e h R) := nr rfl
@[simp, simp ↓] theorem c_slices_IndexFunc_int64_int64_5_r : vc2 C (n + 1) [] (.code c_slices_IndexFunc_int64_int64_5 :: sk) e h R = (vc2 C n c_slices_IndexFunc_int64_int64_o4 sk e h R) := nr rfl
@[simp, simp ↓] theorem c_slices_IndexFunc_int64_int64_6_r : vc2 C (n + 1) [] (.code c_slices_IndexFunc_int64_int64_6 :: sk) e h R = (vc2 C n c_slices_IndexFunc_int64_int64_o5 sk e h R) := nr rfl
@[simp, simp ↓] theorem c_slices_IndexFunc_int64_int64_7_r : vc2 C (n + 1) [] (.code c_slices_IndexFunc_int64_int64_7 :: sk) e h R = (vc2 C n [] (.code c_slices_IndexFunc_int64_int64_6 :: .code .ret :: sk) e h R) := nr rfl
@[simp, simp ↓] theorem c_slices_IndexFunc_int64_int64_8_r : vc2 C (n + 1) [] (.code c_slices_IndexFunc_int64_int64_8 :: sk) e h R = (condK (ev e (.t 16)) (vc2 C n [] (.code c_slices_IndexFunc_int64_int64_7 :: sk) e h R) (vc2 C n [] (.code .skip :: sk) e h R)) := nr rfl
@[simp, simp ↓] theorem c_slices_IndexFunc_int64_int64_9_r : vc2 C (n + 1) [] (.code c_slices_IndexFunc_int64_int64_9 :: sk) e h R = (vc2 C n [] (.code c_slices_IndexFunc_int64_int64_5 :: .code c_slices_IndexFunc_int64_int64_8 :: sk) e h R) := nr rfl
@[simp, simp ↓] theorem c_slices_IndexFunc_int64_int64_10_r : vc2 C (n + 1) [] (.code c_slices_IndexFunc_int64_int64_10 :: sk) e h R = (vc2 C n [] (.code c_slices_IndexFunc_int64_int64_4 :: .code c_slices_IndexFunc_int64_int64_9 :: sk) e h R) := nr rfl
@[simp, simp ↓] theorem c_slices_IndexFunc_int64_int64_11_r : vc2 C (n + 1) [] (.code c_slices_IndexFunc_int64_int64_11 :: sk) e h R = (vc2 C n [] (.code c_slices_IndexFunc_int64_int64_10 :: .inBlock 1 :: sk) e h R) := nr rfl
@[simp, simp ↓] theorem c_slices_IndexFunc_int64_int64_12_r : vc2 C (n + 1) [] (.code c_slices_IndexFunc_int64_int64_12 :: sk) e h R = (vc2 C n c_slices_IndexFunc_int64_int64_o6 sk e h R) := nr rfl
@[simp, simp ↓] theorem c_slices_IndexFunc_int64_int64_13_r : vc2 C (n + 1) [] (.code c_slices_IndexFunc_int64_int64_13 :: sk) e h R = (vc2 C n [] (.code c_slices_IndexFunc_int64_int64_11 :: .code c_slices_IndexFunc_int64_int64_12 :: sk) e h R) := nr rfl
@[simp, simp ↓] theorem c_slices_IndexFunc_int64_int64_14_r : vc2 C (n + 1) [] (.code c_slices_IndexFunc_int64_int64_14 :: sk) e h R = (vc2 C n [] (.code c_slices_IndexFunc_int64_int64_3 :: .code c_slices_IndexFunc_int64_int64_13 :: sk) e h R) := nr rfl
@[simp, simp ↓] theorem c_slices_IndexFunc_int64_int64_15_r : vc2 C (n + 1) [] (.code c_slices_IndexFunc_int64_int64_15 :: sk) e h R = (vc2 C n [] (.code c_slices_IndexFunc_int64_int64_2 :: .code c_slices_IndexFunc_int64_int64_14 :: sk) e h R) := nr rfl
@[simp, simp ↓] theorem c_slices_IndexFunc_int64_int64_16_r : vc2 C (n + 1) [] (.code c_slices_IndexFunc_int64_int64_16 :: sk) e h R = (Run2 C (.code c_slices_IndexFunc_int64_int64_15 :: .inLoop c_slices_IndexFunc_int64_int64_15 :: sk) e h R) := nr rfl
@[simp, simp ↓] theorem c_slices_IndexFunc_int64_int64_17_r : vc2 C (n + 1) [] (.code c_slices_IndexFunc_int64_int64_17 :: sk) e h R = (vc2 C n [] (.code c_slices_IndexFunc_int64_int64_16 :: .inBlock 0 :: sk) e h R) := nr rfl
@[simp, simp ↓] theorem c_slices_IndexFunc_int64_int64_18_r : vc2 C (n + 1) [] (.code c_slices_IndexFunc_int64_int64_18 :: sk) e h R = (vc2 C n [] (.code c_slices_IndexFunc_int64_int64_1 :: .code c_slices_IndexFunc_int64_int64_17 :: sk) e h R) := nr rfl
@[simp, simp ↓] theorem c_slices_IndexFunc_int64_int64_19_r : vc2 C (n + 1) [] (.code c_slices_IndexFunc_int64_int64_19 :: sk) e h R = (vc2 C n c_slices_IndexFunc_int64_int64_o7 sk e h R) := nr rfl
@[simp, simp ↓] theorem c_slices_IndexFunc_int64_int64_20_r : vc2 C (n + 1) [] (.code c_slices_IndexFunc_int64_int64_20 :: sk) e h R = (vc2 C n [] (.code c_slices_IndexFunc_int64_int64_19 :: .code .ret :: sk) e h R) := nr rfl
@[simp, simp ↓] theorem c_slices_IndexFunc_int64_int64_21_r : vc2 C (n + 1) [] (.code c_slices_IndexFunc_int64_int64_21 :: sk) e h R = (vc2 C n [] (.code c_slices_IndexFunc_int64_int64_18 :: .code c_slices_IndexFunc_int64_int64_20 :: sk) e h R) := nr rfl
@[simp, simp ↓] theorem c_slices_IndexFunc_int64_int64_22_r : vc2 C (n + 1) [] (.code c_slices_IndexFunc_int64_int64_22 :: sk) e h R = (vc2 C n [] (.code c_slices_IndexFunc_int64_int64_0 :: .code c_slices_IndexFunc_int64_int64_21 :: sk) e h R) := nr rfl
end
noncomputable def c_slices_IndexFunc_int64_int64_C (orc : Orc) : Cx := ⟨Try.prog, [], 105, 19, [.tmp 4], orc⟩
@[simp] theorem c_slices_IndexFunc_int64_int64_C_P (orc : Orc) : (c_slices_IndexFunc_int64_int64_C orc).P = Try.prog := nr rfl
@[simp] theorem c_slices_IndexFunc_int64_int64_C_o (orc : Orc) : (c_slices_IndexFunc_int64_int64_C orc).orc = orc := nr rfl
@[simp] theorem c_slices_IndexFunc_int64_int64_C_r (orc : Orc) : (c_slices_IndexFunc_int64_int64_C orc).res = [.tmp 4] := nr rfl
theorem c_slices_IndexFunc_int64_int64_of {args : List AV} {h : Heap} {R : AV → Heap → Prop} {k : Nat} (ha : args.length = k) {orc : Orc} (hp : Pure Try.prog orc) (hk : Is (c_slices_IndexFunc_int64_int64_C orc) Try.f105 → Run2 (c_slices_IndexFunc_int64_int64_C orc) [.code c_slices_IndexFunc_int64_int64_22] (argEnv 0 args) h (Post R)) (hle : k ≤ 19 := by simp) : ACalls Try.prog 105 args h R :=
  contract2 [] c_slices_IndexFunc_int64_int64_22 [.tmp 4] Try.func105 (by decide +kernel) rfl (by kernel_rfl) (by rw [ha]; exact hle) (by kernel_rfl) hp hk
theorem c_slices_IndexFunc_int64_int64_of0 {args : List AV} {h : Heap} {R : AV → Heap → Prop} {k : Nat} (ha : args.length = k) {orc : Orc} (hp : Pure Try.prog orc) (hk : Is (c_slices_IndexFunc_int64_int64_C orc) Try.f105 → Run2 (c_slices_IndexFunc_int64_int64_C orc) [.code c_slices_IndexFunc_int64_int64_22] (argEnv 0 args) h R) (hle : k ≤ 19 := by simp) : ACalls Try.prog 105 args h R :=
  contract20 [] c_slices_IndexFunc_int64_int64_22 [.tmp 4] Try.func105 (by decide +kernel) rfl (by kernel_rfl) (by rw [ha]; exact hle) (by kernel_rfl) hp hk
/-- The first place where q holds. -/
def idxf (q : Int → Bool) (l : List Int) : Int := match l.findIdx? q with
  | some i => i
  | none => -1
theorem idxf_at {q : Int → Bool} {l : List Int} {i : Nat} (h : i < l.length) (hb : ∀ j (hj : j < l.length), j < i → q l[j] = false) (ht : q l[i] = true) : idxf q l = i := by
  have : l.findIdx? q = some i := List.findIdx?_eq_some_iff_getElem.2 ⟨h, ht, fun j hj => by simp [hb j (by omega) hj]⟩
  unfold idxf; rw [this]
theorem idxf_none {q : Int → Bool} {l : List Int} (hb : ∀ j (hj : j < l.length), q l[j] = false) : idxf q l = -1 := by
  have : l.findIdx? q = none := List.findIdx?_eq_none_iff.2 fun a ha => by
    obtain ⟨j, hj, rfl⟩ := List.mem_iff_getElem.1 ha
    simp [hb j hj]
  unfold idxf; rw [this]
theorem idxf_ge (q : Int → Bool) (l : List Int) : (0 ≤ idxf q l) ↔ ∃ a ∈ l, q a = true := by
  unfold idxf
  cases h : l.findIdx? q with
  | none =>
    rw [List.findIdx?_eq_none_iff] at h
    simp only [show ¬ (0 : Int) ≤ -1 by omega, false_iff]
    rintro ⟨a, ha, hq⟩
    have := h a ha
    rw [hq] at this; cases this
  | some i =>
    obtain ⟨hi, hq, _⟩ := List.findIdx?_eq_some_iff_getElem.1 h
    simp only [Int.natCast_nonneg, true_iff]
    exact ⟨_, List.getElem_mem hi, hq⟩
theorem IndexFunc_s (l : List Int) (g : FuncId) (caps : List AV) (q : Int → Bool) (h : Heap) (hl : l.length ≤ 1048576) (hq : ∀ a ∈ l, ACalls Try.prog g (.int .i64 a :: caps) h (fun v h' => v = .bool (q a) ∧ h' = h)) :
    ACalls Try.prog 105 [.snap 1 (l.map iv), .fn g caps] h (fun v h' => v = .int .i64 (idxf q l) ∧ h' = h) := by
  refine c_slices_IndexFunc_int64_int64_of0 rfl noPure fun I => ?_
  refine Run2.of I 1000 ?_
  simp -implicitDefEqProofs
  refine Run2.loopE (fun i => [(0, .snap 1 (l.map iv)), (1, .fn g caps), (7, .int .i64 l.length), (8, .int .i64 (i : Nat))]) (fun i => h) (fun i => l.length - i) (fun i => i ≤ l.length ∧ ∀ j (hj : j < l.length), j < i → q l[j] = false) 0 (by simp) rfl ⟨Nat.zero_le _, fun _ _ h => absurd h (Nat.not_lt_zero _)⟩ fun i hi ih => ?_
  by_cases hlt : i < l.length
  · have go := fun (h1 : q l[i] = false) => ih (i + 1) ⟨by omega, fun j hj hji => by
      rcases Nat.lt_or_ge j i with h | h
      · exact hi.2 j hj h
      · obtain rfl : j = i := by omega
        exact h1⟩ (by omega)
    have hat := idxf_at (q := q) hlt hi.2
    clear ih
    refine Run2.of I 1000 ?_
    simp -implicitDefEqProofs [hlt]
    refine (hq _ (List.getElem_mem hlt)).mono ?_
    rintro v h' ⟨rfl, rfl⟩
    refine gK.go ?_
    simp -implicitDefEqProofs
    refine ⟨fun h => (hat h).symm, fun h => ⟨by omega, ?_⟩⟩
    simpa using go h
  · obtain rfl : i = l.length := by omega
    have := idxf_none (q := q) (l := l) fun j hj => hi.2 j hj hj
    refine Run2.of I 1000 ?_
    simp -implicitDefEqProofs
    exact this.symm
abbrev c_slices_ContainsFunc_int64_int64_o0 : List AJ := [.o ⟨(some 4), none, false, .mv (.c (.bool false)), (some [0, 1])⟩]
def c_slices_ContainsFunc_int64_int64_0 : ACode := .region c_slices_ContainsFunc_int64_int64_o0
abbrev c_slices_ContainsFunc_int64_int64_o1 : List AJ := [.o ⟨(some 5), none, false, .mv (.t 0), none⟩, .o ⟨(some 6), none, false, .mv (.t 1), none⟩, .o ⟨(some 7), none, false, .call 105 [(.t 5), (.t 6)], none⟩, .o ⟨(some 8), none, false, .bin .geq (.t 7) (.c (.int .i64 0)), none⟩, .o ⟨(some 4), none, false, .mv (.t 8), (some [4])⟩]
def c_slices_ContainsFunc_int64_int64_1 : ACode := .region c_slices_ContainsFunc_int64_int64_o1
def c_slices_ContainsFunc_int64_int64_2 : ACode := .seq c_slices_ContainsFunc_int64_int64_1 .ret
def c_slices_ContainsFunc_int64_int64_3 : ACode := .seq c_slices_ContainsFunc_int64_int64_0 c_slices_ContainsFunc_int64_int64_2
section
variable (C : Cx) (n : Nat) (sk : List AItem) (e : Env) (h : Heap) (R : AV → Heap → Prop)
@[simp, simp ↓] theorem c_slices_ContainsFunc_int64_int64_0_r : vc2 C (n + 1) [] (.code c_slices_ContainsFunc_int64_int64_0 :: sk) e h R = (vc2 C n c_slices_ContainsFunc_int64_int64_o0 sk e h R) := nr rfl
@[simp, simp ↓] theorem c_slices_ContainsFunc_int64_int64_1_r : vc2 C (n + 1) [] (.code c_slices_ContainsFunc_int64_int64_1 :: sk) e h R = (vc2 C n c_slices_ContainsFunc_int64_int64_o1 sk e h R) := nr rfl
@[simp, simp ↓] theorem c_slices_ContainsFunc_int64_int64_2_r : vc2 C (n + 1) [] (.code c_slices_ContainsFunc_int64_int64_2 :: sk) e h R = (vc2 C n [] (.code c_slices_ContainsFunc_int64_int64_1 :: .code .ret :: sk) e h R) := nr rfl
@[simp, simp ↓] theorem c_slices_ContainsFunc_int64_int64_3_r : vc2 C (n + 1) [] (.code c_slices_ContainsFunc_int64_int64_3 :: sk) e h R = (vc2 C n [] (.code c_slices_ContainsFunc_int64_int64_0 :: .code c_slices_ContainsFunc_int64_int64_2 :: sk) e h R) := nr rfl
end
noncomputable def c_slices_ContainsFunc_int64_int64_C (orc : Orc) : Cx := ⟨Try.prog, [], 55, 9, [.tmp 4], orc⟩
@[simp] theorem c_slices_ContainsFunc_int64_int64_C_P (orc : Orc) : (c_slices_ContainsFunc_int64_int64_C orc).P = Try.prog := nr rfl
@[simp] theorem c_slices_ContainsFunc_int64_int64_C_o (orc : Orc) : (c_slices_ContainsFunc_int64_int64_C orc).orc = orc := nr rfl
@[simp] theorem c_slices_ContainsFunc_int64_int64_C_r (orc : Orc) : (c_slices_ContainsFunc_int64_int64_C orc).res = [.tmp 4] := nr rfl
theorem c_slices_ContainsFunc_int64_int64_of {args : List AV} {h : Heap} {R : AV → Heap → Prop} {k : Nat} (ha : args.length = k) {orc : Orc} (hp : Pure Try.prog orc) (hk : Is (c_slices_ContainsFunc_int64_int64_C orc) Try.f55 → Run2 (c_slices_ContainsFunc_int64_int64_C orc) [.code c_slices_ContainsFunc_int64_int64_3] (argEnv 0 args) h (Post R)) (hle : k ≤ 9 := by simp) : ACalls Try.prog 55 args h R :=
  contract2 [] c_slices_ContainsFunc_int64_int64_3 [.tmp 4] Try.func55 (by decide +kernel) rfl (by kernel_rfl) (by rw [ha]; exact hle) (by kernel_rfl) hp hk
theorem c_slices_ContainsFunc_int64_int64_of0 {args : List AV} {h : Heap} {R : AV → Heap → Prop} {k : Nat} (ha : args.length = k) {orc : Orc} (hp : Pure Try.prog orc) (hk : Is (c_slices_ContainsFunc_int64_int64_C orc) Try.f55 → Run2 (c_slices_ContainsFunc_int64_int64_C orc) [.code c_slices_ContainsFunc_int64_int64_3] (argEnv 0 args) h R) (hle : k ≤ 9 := by simp) : ACalls Try.prog 55 args h R :=
  contract20 [] c_slices_ContainsFunc_int64_int64_3 [.tmp 4] Try.func55 (by decide +kernel) rfl (by kernel_rfl) (by rw [ha]; exact hle) (by kernel_rfl) hp hk
theorem ContainsFunc_s (l : List Int) (g : FuncId) (caps : List AV) (q : Int → Bool) (h : Heap) (hl : l.length ≤ 1048576) (hq : ∀ a ∈ l, ACalls Try.prog g (.int .i64 a :: caps) h (fun v h' => v = .bool (q a) ∧ h' = h)) :
    ACalls Try.prog 55 [.snap 1 (l.map iv), .fn g caps] h (fun v h' => v = .bool (l.any q) ∧ h' = h) := by
  refine c_slices_ContainsFunc_int64_int64_of0 rfl noPure fun I => ?_
  refine Run2.of I 1000 ?_
  simp -implicitDefEqProofs
  refine (IndexFunc_s l g caps q h hl hq).mono ?_
  rintro v h' ⟨rfl, rfl⟩
  refine gK.go ?_
  simp -implicitDefEqProofs [idxf_ge]
  rw [Bool.eq_iff_iff]
  simp
abbrev c_impl_isRising_o0 : List AJ := [.o ⟨(some 2), none, false, .mv (.c (.bool false)), (some [0])⟩]
def c_impl_isRising_0 : ACode := .region c_impl_isRising_o0
abbrev c_impl_isRising_o1 : List AJ := [.o ⟨(some 3), none, false, .mv (.c (.int .i64 1)), (some [0, 3])⟩]
def c_impl_isRising_1 : ACode := .region c_impl_isRising_o1
abbrev c_impl_isRising_o2 : List AJ := [.o ⟨(some 4), none, false, .mv (.t 3), none⟩, .o ⟨(some 5), none, false, .mv (.t 0), none⟩, .o ⟨(some 6), none, false, .len (.t 5), none⟩, .o ⟨(some 7), none, false, .bin .lss (.t 4) (.t 6), (some [0, 3, 7])⟩]
def c_impl_isRising_2 : ACode := .region c_impl_isRising_o2
def c_impl_isRising_3 : ACode := .cond (.t 7) .skip (.exit 0)
def c_impl_isRising_4 : ACode := .seq c_impl_isRising_2 c_impl_isRising_3
abbrev c_impl_isRising_o3 : List AI := [⟨(some 10), none, false, .mv (.t 0), none⟩, ⟨(some 11), none, false, .mv (.t 3), none⟩, ⟨(some 12), none, true, .bin .sub (.t 11) (.c (.int .i64 1)), none⟩, ⟨(some 13), none, false, .idxA 1 (.t 10) (.t 12), none⟩, ⟨(some 14), none, false, .load 1 false (.t 13), none⟩, ⟨(some 15), none, false, .mv (.t 0), none⟩, ⟨(some 16), none, false, .mv (.t 3), none⟩, ⟨(some 17), none, false, .idxA 1 (.t 15) (.t 16), none⟩, ⟨(some 18), none, false, .load 1 false (.t 17), none⟩, ⟨(some 19), none, false, .bin .geq (.t 14) (.t 18), (some [0, 3, 19])⟩]
def c_impl_isRising_5 : ACode := .draw c_impl_isRising_o3 [] rfl
abbrev c_impl_isRising_o4 : List AJ := [.o ⟨(some 2), none, false, .mv (.c (.bool false)), (some [2])⟩]
def c_impl_isRising_6 : ACode := .region c_impl_isRising_o4
def c_impl_isRising_7 : ACode := .seq c_impl_isRising_6 .ret
def c_impl_isRising_8 : ACode := .cond (.t 19) c_impl_isRising_7 .skip
def c_impl_isRising_9 : ACode := .seq c_impl_isRising_5 c_impl_isRising_8
def c_impl_isRising_10 : ACode := .block 1 c_impl_isRising_9
abbrev c_impl_isRising_o5 : List AJ := [.o ⟨(some 8), none, false, .mv (.t 3), none⟩, .o ⟨(some 9), none, true, .bin .add (.t 8) (.c (.int .i64 1)), none⟩, .o ⟨(some 3), none, false, .mv (.t 9), (some [0, 3])⟩]
def c_impl_isRising_11 : ACode := .region c_impl_isRising_o5
def c_impl_isRising_12 : ACode := .seq c_impl_isRising_10 c_impl_isRising_11
def c_impl_isRising_13 : ACode := .seq c_impl_isRising_4 c_impl_isRising_12
def c_impl_isRising_14 : ACode := .loop c_impl_isRising_13
def c_impl_isRising_15 : ACode := .block 0 c_impl_isRising_14
def c_impl_isRising_16 : ACode := .seq c_impl_isRising_1 c_impl_isRising_15
abbrev c_impl_isRising_o6 : List AJ := [.o ⟨(some 2), none, false, .mv (.c (.bool true)), (some [2])⟩]
def c_impl_isRising_17 : ACode := .region c_impl_isRising_o6
def c_impl_isRising_18 : ACode := .seq c_impl_isRising_17 .ret
def c_impl_isRising_19 : ACode := .seq c_impl_isRising_16 c_impl_isRising_18
def c_impl_isRising_20 : ACode := .seq c_impl_isRising_0 c_impl_isRising_19
section
variable (C : Cx) (n : Nat) (sk : List AItem) (e : Env) (h : Heap) (R : AV → Heap → Prop)
@[simp, simp ↓] theorem c_impl_isRising_0_r : vc2 C (n + 1) [] (.code c_impl_isRising_0 :: sk) e h R = (vc2 C n c_impl_isRising_o0 sk e h R) := nr rfl
@[simp, simp ↓] theorem c_impl_isRising_1_r : vc2 C (n + 1) [] (.code c_impl_isRising_1 :: sk) e h R = (vc2 C n c_impl_isRising_o1 sk e h R) := nr rfl
@[simp, simp ↓] theorem c_impl_isRising_2_r : vc2 C (n + 1) [] (.code c_impl_isRising_2 :: sk) e h R = (vc2 C n c_impl_isRising_o2 sk e h R) := nr rfl
@[simp, simp ↓] theorem c_impl_isRising_3_r : vc2 C (n + 1) [] (.code c_impl_isRising_3 :: sk) e h R = (condK (ev e (.t 7)) (vc2 C n [] (.code .skip :: sk) e h R) (vc2 C n [] (.code (.exit 0) :: sk) e h R)) := nr rfl
@[simp, simp ↓] theorem c_impl_isRising_4_r : vc2 C (n + 1) [] (.code c_impl_isRising_4 :: sk) e h R = (vc2 C n [] (.code c_impl_isRising_2 :: .code c_impl_isRising_3 :: sk) e h R) := nr rfl
@[simp, simp ↓] theorem c_impl_isRising_5_r : vc2 C (n + 1) [] (.code c_impl_isRising_5 :: sk) e h R = (draw2 C h (vK C n [] sk R h) c_impl_isRising_o3 e) := nr rfl
@[simp, simp ↓] theorem c_impl_isRising_6_r : vc2 C (n + 1) [] (.code c_impl_isRising_6 :: sk) e h R = (vc2 C n c_impl_isRising_o4 sk e h R) := nr rfl
@[simp, simp ↓] theorem c_impl_isRising_7_r : vc2 C (n + 1) [] (.code c_impl_isRising_7 :: sk) e h R = (vc2 C n [] (.code c_impl_isRising_6 :: .code .ret :: sk) e h R) := nr rfl
@[simp, simp ↓] theorem c_impl_isRising_8_r : vc2 C (n + 1) [] (.code c_impl_isRising_8 :: sk) e h R = (condK (ev e (.t 19)) (vc2 C n [] (.code c_impl_isRising_7 :: sk) e h R) (vc2 C n [] (.code .skip :: sk) e h R)) := nr rfl
@[simp, simp ↓] theorem c_impl_isRising_9_r : vc2 C (n + 1) [] (.code c_impl_isRising_9 :: sk) e h R = (vc2 C n [] (.code c_impl_isRising_5 :: .code c_impl_isRising_8 :: sk) e h R) := nr rfl
@[simp, simp ↓] theorem c_impl_isRising_10_r : vc2 C (n + 1) [] (.code c_impl_isRising_10 :: sk) e h R = (vc2 C n [] (.code c_impl_isRising_9 :: .inBlock 1 :: sk) e h R) := nr rfl
@[simp, simp ↓] theorem c_impl_isRising_11_r : vc2 C (n + 1) [] (.code c_impl_isRising_11 :: sk) e h R = (vc2 C n c_impl_isRising_o5 sk e h R) := nr rfl
@[simp, simp ↓] theorem c_impl_isRising_12_r : vc2 C (n + 1) [] (.code c_impl_isRising_12 :: sk) e h R = (vc2 C n [] (.code c_impl_isRising_10 :: .code c_impl_isRising_11 :: sk) e h R) := nr rfl
@[simp, simp ↓] theorem c_impl_isRising_13_r : vc2 C (n + 1) [] (.code c_impl_isRising_13 :: sk) e h R = (vc2 C n [] (.code c_impl_isRising_4 :: .code c_impl_isRising_12 :: sk) e h R) := nr rfl
@[simp, simp ↓] theorem c_impl_isRising_14_r : vc2 C (n + 1) [] (.code c_impl_isRising_14 :: sk) e h R = (Run2 C (.code c_impl_isRising_13 :: .inLoop c_impl_isRising_13 :: sk) e h R) := nr rfl
@[simp, simp ↓] theorem c_impl_isRising_15_r : vc2 C (n + 1) [] (.code c_impl_isRising_15 :: sk) e h R = (vc2 C n [] (.code c_impl_isRising_14 :: .inBlock 0 :: sk) e h R) := nr rfl
@[simp, simp ↓] theorem c_impl_isRising_16_r : vc2 C (n + 1) [] (.code c_impl_isRising_16 :: sk) e h R = (vc2 C n [] (.code c_impl_isRising_1 :: .code c_impl_isRising_15 :: sk) e h R) := nr rfl
@[simp, simp ↓] theorem c_impl_isRising_17_r : vc2 C (n + 1) [] (.code c_impl_isRising_17 :: sk) e h R = (vc2 C n c_impl_isRising_o6 sk e h R) := nr rfl
@[simp, simp ↓] theorem c_impl_isRising_18_r : vc2 C (n + 1) [] (.code c_impl_isRising_18 :: sk) e h R = (vc2 C n [] (.code c_impl_isRising_17 :: .code .ret :: sk) e h R) := nr rfl
@[simp, simp ↓] theorem c_impl_isRising_19_r : vc2 C (n + 1) [] (.code c_impl_isRising_19 :: sk) e h R = (vc2 C n [] (.code c_impl_isRising_16 :: .code c_impl_isRising_18 :: sk) e h R) := nr rfl
@[simp, simp ↓] theorem c_impl_isRising_20_r : vc2 C (n + 1) [] (.code c_impl_isRising_20 :: sk) e h R = (vc2 C n [] (.code c_impl_isRising_0 :: .code c_impl_isRising_19 :: sk) e h R) := nr rfl
end
noncomputable def c_impl_isRising_C (orc : Orc) : Cx := ⟨Try.prog, [], 129, 20, [.tmp 2], orc⟩
@[simp] theorem c_impl_isRising_C_P (orc : Orc) : (c_impl_isRising_C orc).P = Try.prog := nr rfl
@[simp] theorem c_impl_isRising_C_o (orc : Orc) : (c_impl_isRising_C orc).orc = orc := nr rfl
@[simp] theorem c_impl_isRising_C_r (orc : Orc) : (c_impl_isRising_C orc).res = [.tmp 2] := nr rfl
theorem c_impl_isRising_of {args : List AV} {h : Heap} {R : AV → Heap → Prop} {k : Nat} (ha : args.length = k) {orc : Orc} (hp : Pure Try.prog orc) (hk : Is (c_impl_isRising_C orc) Try.f129 → Run2 (c_impl_isRising_C orc) [.code c_impl_isRising_20] (argEnv 0 args) h (Post R)) (hle : k ≤ 20 := by simp) : ACalls Try.prog 129 args h R :=
  contract2 [] c_impl_isRising_20 [.tmp 2] Try.func129 (by decide +kernel) rfl (by kernel_rfl) (by rw [ha]; exact hle) (by kernel_rfl) hp hk
theorem c_impl_isRising_of0 {args : List AV} {h : Heap} {R : AV → Heap → Prop} {k : Nat} (ha : args.length = k) {orc : Orc} (hp : Pure Try.prog orc) (hk : Is (c_impl_isRising_C orc) Try.f129 → Run2 (c_impl_isRising_C orc) [.code c_impl_isRising_20] (argEnv 0 args) h R) (hle : k ≤ 20 := by simp) : ACalls Try.prog 129 args h R :=
  contract20 [] c_impl_isRising_20 [.tmp 2] Try.func129 (by decide +kernel) rfl (by kernel_rfl) (by rw [ha]; exact hle) (by kernel_rfl) hp hk
theorem isRising_s (l : List Int) (h : Heap) (hl : l.length ≤ 1048576) : ACalls Try.prog 129 [.snap 1 (l.map iv)] h (fun v h' => v = .bool (decide (riseS l)) ∧ h' = h) := by
  refine c_impl_isRising_of0 rfl noPure fun I => ?_
  refine Run2.of I 1000 ?_
  simp -implicitDefEqProofs
  refine Run2.loopE (fun i => [(0, .snap 1 (l.map iv)), (3, .int .i64 (i + 1 : Nat))]) (fun i => h) (fun i => l.length - i) (fun i => (i = 0 ∨ i < l.length) ∧ ∀ j (hj : j + 1 < l.length), j + 1 < i + 1 → l[j] < l[j + 1]) 0 (by simp) rfl ⟨.inl rfl, fun _ _ h => by omega⟩ fun i hi ih => ?_
  by_cases hlt : i + 1 < l.length
  · have hlt' : i < l.length := by omega
    have hc : ((i : Int) + 1 - 1).toNat = i := by omega
    have go := fun (h1 : l[i] < l[i + 1]) => ih (i + 1) ⟨.inr (by omega), fun j hj hji => by
      rcases Nat.lt_or_ge j i with h | h
      · exact hi.2 j hj (by omega)
      · obtain rfl : j = i := by omega
        exact h1⟩ (by omega)
    have hbad : l[i + 1] ≤ l[i] → ¬ riseS l := fun h1 h2 => by have := h2 i hlt; omega
    clear ih
    refine Run2.of I 1000 ?_
    simp -implicitDefEqProofs [hlt, hlt', hc]
    simp at go
    repeat' (first | refine And.intro ?_ ?_ | intro _)
    all_goals first | omega | (unfold in64; omega) | exact absurd ‹riseS l› (hbad (by omega)) | exact go (by omega)
  · have hr := rising_to (r := l) (i + 1) hi.2 (by omega)
    have hlt2 : ¬ ((i : Int) + 1 < l.length) := by omega
    refine Run2.of I 1000 ?_
    simp -implicitDefEqProofs [hlt, hlt2]
    exact hr
noncomputable def o_isRising : List AV → Option (Prop × AV) := tab (fun (x : List Int) => match x with | l => [.snap 1 (l.map iv)]) (fun x => match x with | l => l.length ≤ 1048576) (fun x => match x with | l => .bool (decide (riseS l)))
@[simp] theorem o_isRising_e (l : List Int) : o_isRising [.snap 1 (l.map iv)] = some (l.length ≤ 1048576, .bool (decide (riseS l))) := tab_at (enc := fun (x : List Int) => match x with | l => [.snap 1 (l.map iv)]) (fun x y h => by
  simp at h; simp [h]) _ _ l
theorem o_isRising_k : Knows Try.prog 129 o_isRising := tab_knows fun x hx h => by
  exact isRising_s x h hx
abbrev c_spec_l00Rises_o0 : List AJ := [.o ⟨(some 6), none, false, .mv (.c (.bool false)), (some [0, 1, 2])⟩]
def c_spec_l00Rises_0 : ACode := .region c_spec_l00Rises_o0
abbrev c_spec_l00Rises_o1 : List AJ := [.o ⟨(some 7), none, false, .mv (.c (.int .i64 0)), (some [0, 1, 2, 7])⟩]
def c_spec_l00Rises_1 : ACode := .region c_spec_l00Rises_o1
abbrev c_spec_l00Rises_o2 : List AJ := [.o ⟨(some 8), none, false, .mv (.t 7), none⟩, .o ⟨(some 9), none, false, .mv (.t 0), none⟩, .o ⟨(some 10), none, false, .len (.t 9), none⟩, .o ⟨(some 11), none, false, .bin .lss (.t 8) (.t 10), (some [0, 1, 2, 7, 11])⟩]
def c_spec_l00Rises_2 : ACode := .region c_spec_l00Rises_o2
def c_spec_l00Rises_3 : ACode := .cond (.t 11) .skip (.exit 0)
def c_spec_l00Rises_4 : ACode := .seq c_spec_l00Rises_2 c_spec_l00Rises_3
abbrev c_spec_l00Rises_o3 : List AI := [⟨(some 14), none, false, .mv (.t 0), none⟩, ⟨(some 15), none, false, .mv (.t 7), none⟩, ⟨(some 16), none, false, .idxA 1 (.t 14) (.t 15), none⟩, ⟨(some 17), none, false, .load 1 false (.t 16), none⟩, ⟨(some 18), none, false, .mv (.t 1), none⟩, ⟨(some 19), none, false, .mv (.t 2), none⟩, ⟨(some 20), none, false, .call 67 [(.t 17), (.t 18), (.t 19)], none⟩, ⟨(some 21), none, false, .un .not (.t 20), none⟩, ⟨(some 22), none, false, .mv (.t 21), none⟩, ⟨(some 23), (some (22, false)), false, .mv (.t 7), none⟩, ⟨(some 24), (some (22, false)), false, .bin .gtr (.t 23) (.c (.int .i64 0)), none⟩, ⟨(some 25), (some (22, false)), false, .mv (.t 24), (some [0, 1, 2, 7, 22, 25])⟩, ⟨(some 26), (some (25, true)), false, .mv (.t 0), none⟩, ⟨(some 27), (some (25, true)), false, .mv (.t 7), none⟩, ⟨(some 28), (some (25, true)), true, .bin .sub (.t 27) (.c (.int .i64 1)), none⟩, ⟨(some 29), (some (25, true)), false, .idxA 1 (.t 26) (.t 28), none⟩, ⟨(some 30), (some (25, true)), false, .load 1 false (.t 29), none⟩, ⟨(some 31), (some (25, true)), false, .mv (.t 0), none⟩, ⟨(some 32), (some (25, true)), false, .mv (.t 7), (some [0, 1, 2, 7, 22, 25, 30, 31, 32])⟩, ⟨(some 33), (some (25, true)), false, .idxA 1 (.t 31) (.t 32), none⟩, ⟨(some 34), (some (25, true)), false, .load 1 false (.t 33), none⟩, ⟨(some 35), (some (25, true)), false, .bin .geq (.t 30) (.t 34), none⟩, ⟨(some 36), (some (22, false)), false, .pick (.t 25) (.t 35) (.c (.bool false)), none⟩, ⟨(some 37), none, false, .pick (.t 22) (.c (.bool true)) (.t 36), (some [0, 1, 2, 7, 37])⟩]
def c_spec_l00Rises_5 : ACode := .draw c_spec_l00Rises_o3 [] rfl
abbrev c_spec_l00Rises_o4 : List AJ := [.o ⟨(some 6), none, false, .mv (.c (.bool false)), (some [6])⟩]
def c_spec_l00Rises_6 : ACode := .region c_spec_l00Rises_o4
def c_spec_l00Rises_7 : ACode := .seq c_spec_l00Rises_6 .ret
def c_spec_l00Rises_8 : ACode := .cond (.t 37) c_spec_l00Rises_7 .skip
def c_spec_l00Rises_9 : ACode := .seq c_spec_l00Rises_5 c_spec_l00Rises_8
def c_spec_l00Rises_10 : ACode := .block 1 c_spec_l00Rises_9
abbrev c_spec_l00Rises_o5 : List AJ := [.o ⟨(some 12), none, false, .mv (.t 7), none⟩, .o ⟨(some 13), none, true, .bin .add (.t 12) (.c (.int .i64 1)), none⟩, .o ⟨(some 7), none, false, .mv (.t 13), (some [0, 1, 2, 7])⟩]
def c_spec_l00Rises_11 : ACode := .region c_spec_l00Rises_o5
def c_spec_l00Rises_12 : ACode := .seq c_spec_l00Rises_10 c_spec_l00Rises_11
def c_spec_l00Rises_13 : ACode := .seq c_spec_l00Rises_4 c_spec_l00Rises_12
def c_spec_l00Rises_14 : ACode := .loop c_spec_l00Rises_13
def c_spec_l00Rises_15 : ACode := .block 0 c_spec_l00Rises_14
def c_spec_l00Rises_16 : ACode := .seq c_spec_l00Rises_1 c_spec_l00Rises_15
abbrev c_spec_l00Rises_o6 : List AJ := [.o ⟨(some 6), none, false, .mv (.c (.bool true)), (some [6])⟩]
def c_spec_l00Rises_17 : ACode := .region c_spec_l00Rises_o6
def c_spec_l00Rises_18 : ACode := .seq c_spec_l00Rises_17 .ret
def c_spec_l00Rises_19 : ACode := .seq c_spec_l00Rises_16 c_spec_l00Rises_18
def c_spec_l00Rises_20 : ACode := .seq c_spec_l00Rises_0 c_spec_l00Rises_19
section
variable (C : Cx) (n : Nat) (sk : List AItem) (e : Env) (h : Heap) (R : AV → Heap → Prop)
@[simp, simp ↓] theorem c_spec_l00Rises_0_r : vc2 C (n + 1) [] (.code c_spec_l00Rises_0 :: sk) e h R = (vc2 C n c_spec_l00Rises_o0 sk e h R) := nr rfl
@[simp, simp ↓] theorem c_spec_l00Rises_1_r : vc2 C (n + 1) [] (.code c_spec_l00Rises_1 :: sk) e h R = (vc2 C n c_spec_l00Rises_o1 sk e h R) := nr rfl
@[simp, simp ↓] theorem c_spec_l00Rises_2_r : vc2 C (n + 1) [] (.code c_spec_l00Rises_2 :: sk) e h R = (vc2 C n c_spec_l00Rises_o2 sk e h R) := nr rfl
@[simp, simp ↓] theorem c_spec_l00Rises_3_r : vc2 C (n + 1) [] (.code c_spec_l00Rises_3 :: sk) e h R = (condK (ev e (.t 11)) (vc2 C n [] (.code .skip :: sk) e h R) (vc2 C n [] (.code (.exit 0) :: sk) e h R)) := nr rfl
@[simp, simp ↓] theorem c_spec_l00Rises_4_r : vc2 C (n + 1) [] (.code c_spec_l00Rises_4 :: sk) e h R = (vc2 C n [] (.code c_spec_l00Rises_2 :: .code c_spec_l00Rises_3 :: sk) e h R) := nr rfl
@[simp, simp ↓] theorem c_spec_l00Rises_5_r : vc2 C (n + 1) [] (.code c_spec_l00Rises_5 :: sk) e h R = (draw2 C h (vK C n [] sk R h) c_spec_l00Rises_o3 e) := nr rfl
@[simp, simp ↓] theorem c_spec_l00Rises_6_r : vc2 C (n + 1) [] (.code c_spec_l00Rises_6 :: sk) e h R = (vc2 C n c_spec_l00Rises_o4 sk e h R) := nr rfl
@[simp, simp ↓] theorem c_spec_l00Rises_7_r : vc2 C (n + 1) [] (.code c_spec_l00Rises_7 :: sk) e h R = (vc2 C n [] (.code c_spec_l00Rises_6 :: .code .ret :: sk) e h R) := nr rfl
@[simp, simp ↓] theorem c_spec_l00Rises_8_r : vc2 C (n + 1) [] (.code c_spec_l00Rises_8 :: sk) e h R = (condK (ev e (.t 37)) (vc2 C n [] (.code c_spec_l00Rises_7 :: sk) e h R) (vc2 C n [] (.code .skip :: sk) e h R)) := nr rfl
@[simp, simp ↓] theorem c_spec_l00Rises_9_r : vc2 C (n + 1) [] (.code c_spec_l00Rises_9 :: sk) e h R = (vc2 C n [] (.code c_spec_l00Rises_5 :: .code c_spec_l00Rises_8 :: sk) e h R) := nr rfl
@[simp, simp ↓] theorem c_spec_l00Rises_10_r : vc2 C (n + 1) [] (.code c_spec_l00Rises_10 :: sk) e h R = (vc2 C n [] (.code c_spec_l00Rises_9 :: .inBlock 1 :: sk) e h R) := nr rfl
@[simp, simp ↓] theorem c_spec_l00Rises_11_r : vc2 C (n + 1) [] (.code c_spec_l00Rises_11 :: sk) e h R = (vc2 C n c_spec_l00Rises_o5 sk e h R) := nr rfl
@[simp, simp ↓] theorem c_spec_l00Rises_12_r : vc2 C (n + 1) [] (.code c_spec_l00Rises_12 :: sk) e h R = (vc2 C n [] (.code c_spec_l00Rises_10 :: .code c_spec_l00Rises_11 :: sk) e h R) := nr rfl
@[simp, simp ↓] theorem c_spec_l00Rises_13_r : vc2 C (n + 1) [] (.code c_spec_l00Rises_13 :: sk) e h R = (vc2 C n [] (.code c_spec_l00Rises_4 :: .code c_spec_l00Rises_12 :: sk) e h R) := nr rfl
@[simp, simp ↓] theorem c_spec_l00Rises_14_r : vc2 C (n + 1) [] (.code c_spec_l00Rises_14 :: sk) e h R = (Run2 C (.code c_spec_l00Rises_13 :: .inLoop c_spec_l00Rises_13 :: sk) e h R) := nr rfl
@[simp, simp ↓] theorem c_spec_l00Rises_15_r : vc2 C (n + 1) [] (.code c_spec_l00Rises_15 :: sk) e h R = (vc2 C n [] (.code c_spec_l00Rises_14 :: .inBlock 0 :: sk) e h R) := nr rfl
@[simp, simp ↓] theorem c_spec_l00Rises_16_r : vc2 C (n + 1) [] (.code c_spec_l00Rises_16 :: sk) e h R = (vc2 C n [] (.code c_spec_l00Rises_1 :: .code c_spec_l00Rises_15 :: sk) e h R) := nr rfl
@[simp, simp ↓] theorem c_spec_l00Rises_17_r : vc2 C (n + 1) [] (.code c_spec_l00Rises_17 :: sk) e h R = (vc2 C n c_spec_l00Rises_o6 sk e h R) := nr rfl
@[simp, simp ↓] theorem c_spec_l00Rises_18_r : vc2 C (n + 1) [] (.code c_spec_l00Rises_18 :: sk) e h R = (vc2 C n [] (.code c_spec_l00Rises_17 :: .code .ret :: sk) e h R) := nr rfl
@[simp, simp ↓] theorem c_spec_l00Rises_19_r : vc2 C (n + 1) [] (.code c_spec_l00Rises_19 :: sk) e h R = (vc2 C n [] (.code c_spec_l00Rises_16 :: .code c_spec_l00Rises_18 :: sk) e h R) := nr rfl
@[simp, simp ↓] theorem c_spec_l00Rises_20_r : vc2 C (n + 1) [] (.code c_spec_l00Rises_20 :: sk) e h R = (vc2 C n [] (.code c_spec_l00Rises_0 :: .code c_spec_l00Rises_19 :: sk) e h R) := nr rfl
end
noncomputable def c_spec_l00Rises_C (orc : Orc) : Cx := ⟨Try.prog, [], 139, 38, [.tmp 6], orc⟩
@[simp] theorem c_spec_l00Rises_C_P (orc : Orc) : (c_spec_l00Rises_C orc).P = Try.prog := nr rfl
@[simp] theorem c_spec_l00Rises_C_o (orc : Orc) : (c_spec_l00Rises_C orc).orc = orc := nr rfl
@[simp] theorem c_spec_l00Rises_C_r (orc : Orc) : (c_spec_l00Rises_C orc).res = [.tmp 6] := nr rfl
theorem c_spec_l00Rises_of {args : List AV} {h : Heap} {R : AV → Heap → Prop} {k : Nat} (ha : args.length = k) {orc : Orc} (hp : Pure Try.prog orc) (hk : Is (c_spec_l00Rises_C orc) Try.f139 → Run2 (c_spec_l00Rises_C orc) [.code c_spec_l00Rises_20] (argEnv 0 args) h (Post R)) (hle : k ≤ 38 := by simp) : ACalls Try.prog 139 args h R :=
  contract2 [] c_spec_l00Rises_20 [.tmp 6] Try.func139 (by decide +kernel) rfl (by kernel_rfl) (by rw [ha]; exact hle) (by kernel_rfl) hp hk
theorem c_spec_l00Rises_of0 {args : List AV} {h : Heap} {R : AV → Heap → Prop} {k : Nat} (ha : args.length = k) {orc : Orc} (hp : Pure Try.prog orc) (hk : Is (c_spec_l00Rises_C orc) Try.f139 → Run2 (c_spec_l00Rises_C orc) [.code c_spec_l00Rises_20] (argEnv 0 args) h R) (hle : k ≤ 38 := by simp) : ACalls Try.prog 139 args h R :=
  contract20 [] c_spec_l00Rises_20 [.tmp 6] Try.func139 (by decide +kernel) rfl (by kernel_rfl) (by rw [ha]; exact hle) (by kernel_rfl) hp hk
theorem l00Rises_s (l : List Int) (a b : Int) (h : Heap) (hl : l.length ≤ 1048576) : ACalls Try.prog 139 [.snap 1 (l.map iv), .int .i64 a, .int .i64 b] h (fun v h' => v = .bool (decide (btw l a b ∧ riseS l)) ∧ h' = h) := by
  refine c_spec_l00Rises_of0 rfl orc1_p fun I => ?_
  refine Run2.of I 1000 ?_
  simp -implicitDefEqProofs
  refine Run2.loopE (fun (i : Nat) => [(0, .snap 1 (l.map iv)), (1, .int .i64 a), (2, .int .i64 b), (7, .int .i64 i)]) (fun i => h) (fun i => l.length - i) (fun i => i ≤ l.length ∧ (∀ j (hj : j < l.length), j < i → a ≤ l[j] ∧ l[j] ≤ b) ∧ ∀ j (hj : j + 1 < l.length), j + 1 < i → l[j] < l[j + 1]) 0 (by simp) rfl ⟨Nat.zero_le _, fun _ _ h => by omega, fun _ _ h => by omega⟩ fun i hi ih => ?_
  by_cases hlt : i < l.length
  · have hbad1 : ¬ (a ≤ l[i] ∧ l[i] ≤ b) → ¬ (btw l a b ∧ riseS l) := fun h1 h2 => h1 (h2.1 _ (List.getElem_mem hlt))
    cases i with
    | zero =>
      have go := fun (h1 : a ≤ l[0] ∧ l[0] ≤ b) => ih 1 ⟨by omega, fun j hj hji => by
        obtain rfl : j = 0 := by omega
        exact h1, fun j hj hji => by omega⟩ (by omega)
      clear ih
      refine Run2.of I 1000 ?_
      simp -implicitDefEqProofs [hlt]
      simp at go hbad1
      repeat' (first | refine And.intro ?_ ?_ | intro _)
      all_goals first | omega | grind
    | succ i =>
      have hlt' : i < l.length := by omega
      have hc : ((i : Int) + 1 - 1).toNat = i := by omega
      have hbad2 : ¬ l[i] < l[i + 1] → ¬ (btw l a b ∧ riseS l) := fun h1 h2 => h1 (h2.2 i hlt)
      have go := fun (h1 : a ≤ l[i + 1] ∧ l[i + 1] ≤ b) (h2 : l[i] < l[i + 1]) => ih (i + 1 + 1) ⟨by omega, fun j hj hji => by
        rcases Nat.lt_or_ge j (i + 1) with h | h
        · exact hi.2.1 j hj h
        · obtain rfl : j = i + 1 := by omega
          exact h1, fun j hj hji => by
        rcases Nat.lt_or_ge (j + 1) (i + 1) with h | h
        · exact hi.2.2 j hj h
        · obtain rfl : j = i := by omega
          exact h2⟩ (by omega)
      clear ih
      refine Run2.of I 1000 ?_
      simp -implicitDefEqProofs [hlt, hlt', hc]
      simp at go hbad1 hbad2
      repeat' (first | refine And.intro ?_ ?_ | intro _)
      all_goals first | omega | (unfold in64; omega) | grind
  · obtain rfl : i = l.length := by omega
    have h1 : ∀ k ∈ l, a ≤ k ∧ k ≤ b := fun k hk => by
      obtain ⟨j, hj, rfl⟩ := List.mem_iff_getElem.1 hk
      exact hi.2.1 j hj hj
    have h2 : riseS l := fun j hj => hi.2.2 j hj hj
    refine Run2.of I 1000 ?_
    simp -implicitDefEqProofs
    exact ⟨h1, h2⟩
noncomputable def o_l00Rises : List AV → Option (Prop × AV) := tab (fun (x : List Int × Int × Int) => match x with | (l, a, b) => [.snap 1 (l.map iv), .int .i64 a, .int .i64 b]) (fun x => match x with | (l, a, b) => l.length ≤ 1048576) (fun x => match x with | (l, a, b) => .bool (decide (btw l a b ∧ riseS l)))
@[simp] theorem o_l00Rises_e (l : List Int) (a : Int) (b : Int) : o_l00Rises [.snap 1 (l.map iv), .int .i64 a, .int .i64 b] = some (l.length ≤ 1048576, .bool (decide (btw l a b ∧ riseS l))) := tab_at (enc := fun (x : List Int × Int × Int) => match x with | (l, a, b) => [.snap 1 (l.map iv), .int .i64 a, .int .i64 b]) (fun x y h => by
  obtain ⟨l1, a1, b1⟩ := x; obtain ⟨l2, a2, b2⟩ := y; simp at h; simp [h]) _ _ (l, a, b)
theorem o_l00Rises_k : Knows Try.prog 139 o_l00Rises := tab_knows fun x hx h => by
  obtain ⟨l, a, b⟩ := x; exact l00Rises_s l a b h hx
abbrev c_spec_l00Own_o0 : List AJ := [.o ⟨(some 2), none, false, .mv (.c .nilsl), (some [0])⟩]
def c_spec_l00Own_0 : ACode := .region c_spec_l00Own_o0
abbrev c_spec_l00Own_o1 : List AJ := [.e 3 1 none, .o ⟨(some 4), none, false, .mv (.t 0), none⟩, .o ⟨(some 5), none, false, .append 1 8 (.t 3) (.t 4), none⟩, .o ⟨(some 2), none, false, .mv (.t 5), (some [2])⟩]
def c_spec_l00Own_1 : ACode := .region c_spec_l00Own_o1
def c_spec_l00Own_2 : ACode := .seq c_spec_l00Own_1 .ret
def c_spec_l00Own_3 : ACode := .seq c_spec_l00Own_0 c_spec_l00Own_2
section
variable (C : Cx) (n : Nat) (sk : List AItem) (e : Env) (h : Heap) (R : AV → Heap → Prop)
@[simp, simp ↓] theorem c_spec_l00Own_0_r : vc2 C (n + 1) [] (.code c_spec_l00Own_0 :: sk) e h R = (vc2 C n c_spec_l00Own_o0 sk e h R) := nr rfl
@[simp, simp ↓] theorem c_spec_l00Own_1_r : vc2 C (n + 1) [] (.code c_spec_l00Own_1 :: sk) e h R = (vc2 C n c_spec_l00Own_o1 sk e h R) := nr rfl
@[simp, simp ↓] theorem c_spec_l00Own_2_r : vc2 C (n + 1) [] (.code c_spec_l00Own_2 :: sk) e h R = (vc2 C n [] (.code c_spec_l00Own_1 :: .code .ret :: sk) e h R) := nr rfl
@[simp, simp ↓] theorem c_spec_l00Own_3_r : vc2 C (n + 1) [] (.code c_spec_l00Own_3 :: sk) e h R = (vc2 C n [] (.code c_spec_l00Own_0 :: .code c_spec_l00Own_2 :: sk) e h R) := nr rfl
end
noncomputable def c_spec_l00Own_C (orc : Orc) : Cx := ⟨Try.prog, [3], 89, 6, [.tmp 2], orc⟩
@[simp] theorem c_spec_l00Own_C_P (orc : Orc) : (c_spec_l00Own_C orc).P = Try.prog := nr rfl
@[simp] theorem c_spec_l00Own_C_o (orc : Orc) : (c_spec_l00Own_C orc).orc = orc := nr rfl
@[simp] theorem c_spec_l00Own_C_r (orc : Orc) : (c_spec_l00Own_C orc).res = [.tmp 2] := nr rfl
theorem c_spec_l00Own_of {args : List AV} {h : Heap} {R : AV → Heap → Prop} {k : Nat} (ha : args.length = k) {orc : Orc} (hp : Pure Try.prog orc) (hk : Is (c_spec_l00Own_C orc) Try.f89 → Run2 (c_spec_l00Own_C orc) [.code c_spec_l00Own_3] (argEnv 0 args) h (Post R)) (hle : k ≤ 6 := by simp) : ACalls Try.prog 89 args h R :=
  contract2 [3] c_spec_l00Own_3 [.tmp 2] Try.func89 (by decide +kernel) rfl (by kernel_rfl) (by rw [ha]; exact hle) (by kernel_rfl) hp hk
theorem c_spec_l00Own_of0 {args : List AV} {h : Heap} {R : AV → Heap → Prop} {k : Nat} (ha : args.length = k) {orc : Orc} (hp : Pure Try.prog orc) (hk : Is (c_spec_l00Own_C orc) Try.f89 → Run2 (c_spec_l00Own_C orc) [.code c_spec_l00Own_3] (argEnv 0 args) h R) (hle : k ≤ 6 := by simp) : ACalls Try.prog 89 args h R :=
  contract20 [3] c_spec_l00Own_3 [.tmp 2] Try.func89 (by decide +kernel) rfl (by kernel_rfl) (by rw [ha]; exact hle) (by kernel_rfl) hp hk
theorem l00Own_g (l : List Int) (h : Heap) (hl : l.length ≤ 1048576) : ACalls Try.prog 89 [.snap 1 (l.map iv)] h (fun v h' => ∃ hp, Grow 1 v (l.map iv) hp ∧ h' = hp ++ h) := by
  refine c_spec_l00Own_of0 rfl noPure fun I => ?_
  cases l with
  | nil =>
    refine Run2.of I 1000 ?_
    simp -implicitDefEqProofs
    exact .emp
  | cons a l =>
    refine Run2.of I 1000 ?_
    simp -implicitDefEqProofs
    refine ⟨by simp at hl; omega, fun id hid => ⟨[(id, _)], .sl id _ _ (by simp), rfl⟩⟩
/-- A slice that is only appended to, with room behind it. -/
inductive GrowX (sz : Nat) : AV → List AV → Heap → Prop
  | nil : GrowX sz .nilsl [] []
  | sl (id : Nat) (l ex : List AV) (n : Nat) (hn : n = l.length) : GrowX sz (.sl id sz 0 n none) l [(id, ⟨sz, l ++ ex⟩)]
theorem GrowX.cell {sz : Nat} {w : AV} {l : List AV} {hp : Heap} (h : GrowX sz w l hp) : isCell w = true := by cases h <;> rfl
theorem GrowX.len {sz : Nat} {w : AV} {l : List AV} {hp : Heap} (h : GrowX sz w l hp) : lenR w = .val (.int .i64 l.length) := by
  cases h with
  | nil => simp
  | sl id l ex n hn => subst hn; simp
theorem GrowX.app {sz : Nat} {w : AV} {l new : List AV} {hp h : Heap} {C : Cx} {n : Nat} {d : Option Nat} {ks : Option (List Nat)} {is : List AJ} {sk : List AItem} {R : AV → Heap → Prop} {e : Env} {bytes : Nat} (g : GrowX sz w l hp) (hb : (2 * (l.length + new.length)) * bytes ≤ 281474976710656)
    (k : ∀ w' hp', GrowX sz w' (l ++ new) hp' → vc2 C n is sk (kp (put e d w') ks) (hp' ++ h) R) : resK C n d ks is sk R e (hp ++ h) (appR (hp ++ h) sz bytes w new) := by
  cases g with
  | nil =>
    simp only [appR_n, List.nil_append]
    refine ⟨fun he => ?_, fun _ => ⟨by simpa using hb, fun id _ => ?_⟩⟩
    · have : new = [] := by cases new <;> simp_all
      subst this
      exact k _ _ .nil
    · have := k _ _ (.sl id new [] new.length rfl)
      simpa using this
  | sl id l ex m hm =>
    subst hm
    have hd : hdel ((id, ⟨sz, l ++ ex⟩) :: h) id = h := by simp [hdel]
    rw [appR_ln]
    refine ⟨rfl, ⟨sz, l ++ ex⟩, by simp [hget], rfl, by simp, rfl, hb, fun id' _ => ?_⟩
    have := k _ _ (.sl id' (l ++ new) [] (l.length + new.length) (by simp))
    simpa [hd] using this
/-- Lent: it reads as frozen. -/
theorem GrowX.lent {w : AV} {l : List AV} {hp : Heap} (h : GrowX 1 w l hp) : Wk (lend1 hp w) (.snap 1 l) := by
  cases h with
  | nil => exact Wk.nil 1
  | sl id l ex n hn =>
    subst hn
    have : lend1 [(id, (⟨1, l ++ ex⟩ : Blk))] (.sl id 1 0 l.length none) = .snap 1 l := by simp [lend1, fz]
    rw [this]
    exact Wk.refl _
abbrev c_slices_Grow_int64_int64_o0 : List AJ := [.o ⟨(some 4), none, false, .mv (.c .nilsl), (some [0, 1])⟩]
def c_slices_Grow_int64_int64_0 : ACode := .region c_slices_Grow_int64_int64_o0
abbrev c_slices_Grow_int64_int64_o1 : List AJ := [.o ⟨(some 5), none, false, .mv (.t 1), none⟩, .o ⟨(some 6), none, false, .bin .lss (.t 5) (.c (.int .i64 0)), (some [0, 1, 6])⟩]
def c_slices_Grow_int64_int64_1 : ACode := .region c_slices_Grow_int64_int64_o1
def c_slices_Grow_int64_int64_2 : ACode := .cond (.t 6) .bad .skip
def c_slices_Grow_int64_int64_3 : ACode := .seq c_slices_Grow_int64_int64_1 c_slices_Grow_int64_int64_2
abbrev c_slices_Grow_int64_int64_o2 : List AJ := [.o ⟨(some 8), none, false, .mv (.t 1), none⟩, .o ⟨(some 9), none, false, .mv (.t 0), none⟩, .o ⟨(some 10), none, false, .capk (.t 9), none⟩, .o ⟨(some 11), none, false, .mv (.t 0), none⟩, .o ⟨(some 12), none, false, .len (.t 11), none⟩, .o ⟨(some 13), none, true, .bin .sub (.t 10) (.t 12), none⟩, .o ⟨(some 14), none, true, .bin .sub (.t 8) (.t 13), none⟩, .o ⟨(some 1), none, false, .mv (.t 14), (some [0, 1])⟩]
def c_slices_Grow_int64_int64_4 : ACode := .region c_slices_Grow_int64_int64_o2
abbrev c_slices_Grow_int64_int64_o3 : List AJ := [.o ⟨(some 15), none, false, .mv (.t 1), none⟩, .o ⟨(some 16), none, false, .bin .gtr (.t 15) (.c (.int .i64 0)), (some [0, 1, 16])⟩]
def c_slices_Grow_int64_int64_5 : ACode := .region c_slices_Grow_int64_int64_o3
abbrev c_slices_Grow_int64_int64_o4 : List AJ := [.o ⟨(some 17), none, false, .mv (.t 0), none⟩, .o ⟨(some 18), none, false, .mv (.t 0), none⟩, .o ⟨(some 19), none, false, .capk (.t 18), none⟩, .o ⟨(some 20), none, false, .slice 1 (.t 17) none (some (.t 19)) none, none⟩, .o ⟨(some 21), none, false, .mv (.t 1), none⟩, .o ⟨(some 22), none, false, .appendz 1 8 (.int .i64 0) (.t 20) (.t 21), none⟩, .o ⟨(some 23), none, false, .mv (.t 0), none⟩, .o ⟨(some 24), none, false, .len (.t 23), none⟩, .o ⟨(some 25), none, false, .slice 1 (.t 22) none (some (.t 24)) none, none⟩, .o ⟨(some 0), none, false, .mv (.t 25), (some [0])⟩]
def c_slices_Grow_int64_int64_6 : ACode := .region c_slices_Grow_int64_int64_o4
def c_slices_Grow_int64_int64_7 : ACode := .cond (.t 16) c_slices_Grow_int64_int64_6 .skip
def c_slices_Grow_int64_int64_8 : ACode := .seq c_slices_Grow_int64_int64_5 c_slices_Grow_int64_int64_7
def c_slices_Grow_int64_int64_9 : ACode := .seq c_slices_Grow_int64_int64_4 c_slices_Grow_int64_int64_8
abbrev c_slices_Grow_int64_int64_o5 : List AJ := [.o ⟨(some 26), none, false, .mv (.t 0), none⟩, .o ⟨(some 4), none, false, .mv (.t 26), (some [4])⟩]
def c_slices_Grow_int64_int64_10 : ACode := .region c_slices_Grow_int64_int64_o5
def c_slices_Grow_int64_int64_11 : ACode := .seq c_slices_Grow_int64_int64_10 .ret
def c_slices_Grow_int64_int64_12 : ACode := .seq c_slices_Grow_int64_int64_9 c_slices_Grow_int64_int64_11
def c_slices_Grow_int64_int64_13 : ACode := .seq c_slices_Grow_int64_int64_3 c_slices_Grow_int64_int64_12
def c_slices_Grow_int64_int64_14 : ACode := .seq c_slices_Grow_int64_int64_0 c_slices_Grow_int64_int64_13
section
variable (C : Cx) (n : Nat) (sk : List AItem) (e : Env) (h : Heap) (R : AV → Heap → Prop)
@[simp, simp ↓] theorem c_slices_Grow_int64_int64_0_r : vc2 C (n + 1) [] (.code c_slices_Grow_int64_int64_0 :: sk) e h R = (vc2 C n c_slices_Grow_int64_int64_o0 sk e h R) := nr rfl
@[simp, simp ↓] theorem c_slices_Grow_int64_int64_1_r : vc2 C (n + 1) [] (.code c_slices_Grow_int64_int64_1 :: sk) e h R = (vc2 C n c_slices_Grow_int64_int64_o1 sk e h R) := nr rfl
@[simp, simp ↓] theorem c_slices_Grow_int64_int64_2_r : vc2 C (n + 1) [] (.code c_slices_Grow_int64_int64_2 :: sk) e h R = (condK (ev e (.t 6)) (vc2 C n [] (.code .bad :: sk) e h R) (vc2 C n [] (.code .skip :: sk) e h R)) := nr rfl
@[simp, simp ↓] theorem c_slices_Grow_int64_int64_3_r : vc2 C (n + 1) [] (.code c_slices_Grow_int64_int64_3 :: sk) e h R = (vc2 C n [] (.code c_slices_Grow_int64_int64_1 :: .code c_slices_Grow_int64_int64_2 :: sk) e h R) := nr rfl
@[simp, simp ↓] theorem c_slices_Grow_int64_int64_4_r : vc2 C (n + 1) [] (.code c_slices_Grow_int64_int64_4 :: sk) e h R = (vc2 C n c_slices_Grow_int64_int64_o2 sk e h R) := nr rfl
@[simp, simp ↓] theorem c_slices_Grow_int64_int64_5_r : vc2 C (n + 1) [] (.code c_slices_Grow_int64_int64_5 :: sk) e h R = (vc2 C n c_slices_Grow_int64_int64_o3 sk e h R) := nr rfl
@[simp, simp ↓] theorem c_slices_Grow_int64_int64_6_r : vc2 C (n + 1) [] (.code c_slices_Grow_int64_int64_6 :: sk) e h R = (vc2 C n c_slices_Grow_int64_int64_o4 sk e h R) := nr rfl
@[simp, simp ↓] theorem c_slices_Grow_int64_int64_7_r : vc2 C (n + 1) [] (.code c_slices_Grow_int64_int64_7 :: sk) e h R = (condK (ev e (.t 16)) (vc2 C n [] (.code c_slices_Grow_int64_int64_6 :: sk) e h R) (vc2 C n [] (.code .skip :: sk) e h R)) := nr rfl
@[simp, simp ↓] theorem c_slices_Grow_int64_int64_8_r : vc2 C (n + 1) [] (.code c_slices_Grow_int64_int64_8 :: sk) e h R = (vc2 C n [] (.code c_slices_Grow_int64_int64_5 :: .code c_slices_Grow_int64_int64_7 :: sk) e h R) := nr rfl
@[simp, simp ↓] theorem c_slices_Grow_int64_int64_9_r : vc2 C (n + 1) [] (.code c_slices_Grow_int64_int64_9 :: sk) e h R = (vc2 C n [] (.code c_slices_Grow_int64_int64_4 :: .code c_slices_Grow_int64_int64_8 :: sk) e h R) := nr rfl
@[simp, simp ↓] theorem c_slices_Grow_int64_int64_10_r : vc2 C (n + 1) [] (.code c_slices_Grow_int64_int64_10 :: sk) e h R = (vc2 C n c_slices_Grow_int64_int64_o5 sk e h R) := nr rfl
@[simp, simp ↓] theorem c_slices_Grow_int64_int64_11_r : vc2 C (n + 1) [] (.code c_slices_Grow_int64_int64_11 :: sk) e h R = (vc2 C n [] (.code c_slices_Grow_int64_int64_10 :: .code .ret :: sk) e h R) := nr rfl
@[simp, simp ↓] theorem c_slices_Grow_int64_int64_12_r : vc2 C (n + 1) [] (.code c_slices_Grow_int64_int64_12 :: sk) e h R = (vc2 C n [] (.code c_slices_Grow_int64_int64_9 :: .code c_slices_Grow_int64_int64_11 :: sk) e h R) := nr rfl
@[simp, simp ↓] theorem c_slices_Grow_int64_int64_13_r : vc2 C (n + 1) [] (.code c_slices_Grow_int64_int64_13 :: sk) e h R = (vc2 C n [] (.code c_slices_Grow_int64_int64_3 :: .code c_slices_Grow_int64_int64_12 :: sk) e h R) := nr rfl
@[simp, simp ↓] theorem c_slices_Grow_int64_int64_14_r : vc2 C (n + 1) [] (.code c_slices_Grow_int64_int64_14 :: sk) e h R = (vc2 C n [] (.code c_slices_Grow_int64_int64_0 :: .code c_slices_Grow_int64_int64_13 :: sk) e h R) := nr rfl
end
noncomputable def c_slices_Grow_int64_int64_C (orc : Orc) : Cx := ⟨Try.prog, [], 144, 27, [.tmp 4], orc⟩
@[simp] theorem c_slices_Grow_int64_int64_C_P (orc : Orc) : (c_slices_Grow_int64_int64_C orc).P = Try.prog := nr rfl
@[simp] theorem c_slices_Grow_int64_int64_C_o (orc : Orc) : (c_slices_Grow_int64_int64_C orc).orc = orc := nr rfl
@[simp] theorem c_slices_Grow_int64_int64_C_r (orc : Orc) : (c_slices_Grow_int64_int64_C orc).res = [.tmp 4] := nr rfl
theorem c_slices_Grow_int64_int64_of {args : List AV} {h : Heap} {R : AV → Heap → Prop} {k : Nat} (ha : args.length = k) {orc : Orc} (hp : Pure Try.prog orc) (hk : Is (c_slices_Grow_int64_int64_C orc) Try.f144 → Run2 (c_slices_Grow_int64_int64_C orc) [.code c_slices_Grow_int64_int64_14] (argEnv 0 args) h (Post R)) (hle : k ≤ 27 := by simp) : ACalls Try.prog 144 args h R :=
  contract2 [] c_slices_Grow_int64_int64_14 [.tmp 4] Try.func144 (by decide +kernel) rfl (by kernel_rfl) (by rw [ha]; exact hle) (by kernel_rfl) hp hk
theorem c_slices_Grow_int64_int64_of0 {args : List AV} {h : Heap} {R : AV → Heap → Prop} {k : Nat} (ha : args.length = k) {orc : Orc} (hp : Pure Try.prog orc) (hk : Is (c_slices_Grow_int64_int64_C orc) Try.f144 → Run2 (c_slices_Grow_int64_int64_C orc) [.code c_slices_Grow_int64_int64_14] (argEnv 0 args) h R) (hle : k ≤ 27 := by simp) : ACalls Try.prog 144 args h R :=
  contract20 [] c_slices_Grow_int64_int64_14 [.tmp 4] Try.func144 (by decide +kernel) rfl (by kernel_rfl) (by rw [ha]; exact hle) (by kernel_rfl) hp hk
theorem GrowI_g (n : Nat) (h : Heap) (hn : n ≤ 1048576) : ACalls Try.prog 144 [.nilsl, .int .i64 n] h (fun v h' => ∃ hp, GrowX 1 v [] hp ∧ h' = hp ++ h) := by
  refine c_slices_Grow_int64_int64_of0 rfl noPure fun I => ?_
  refine Run2.of I 1000 ?_
  simp -implicitDefEqProofs
  refine ⟨by omega, fun h1 => ⟨h1, by omega, fun id _ => ⟨[(id, ⟨1, [] ++ List.replicate n (.int .i64 0)⟩)], .sl id [] _ 0 rfl, by simp⟩⟩, fun _ => .nil⟩
abbrev c_slices_Concat_int64_int64_o0 : List AJ := [.o ⟨(some 2), none, false, .mv (.c .nilsl), (some [0])⟩]
def c_slices_Concat_int64_int64_0 : ACode := .region c_slices_Concat_int64_int64_o0
abbrev c_slices_Concat_int64_int64_o1 : List AJ := [.o ⟨(some 3), none, false, .mv (.c (.int .i64 0)), (some [0, 3])⟩]
def c_slices_Concat_int64_int64_1 : ACode := .region c_slices_Concat_int64_int64_o1
abbrev c_slices_Concat_int64_int64_o2 : List AJ := [.o ⟨(some 9), none, false, .mv (.t 0), none⟩, .o ⟨(some 10), none, false, .len (.t 9), none⟩, .o ⟨(some 11), none, false, .mv (.c (.int .i64 0)), (some [0, 3, 9, 10, 11])⟩]
def c_slices_Concat_int64_int64_2 : ACode := .region c_slices_Concat_int64_int64_o2
abbrev c_slices_Concat_int64_int64_o3 : List AJ := [.o ⟨(some 12), none, false, .bin .lss (.t 11) (.t 10), (some [0, 3, 9, 10, 11, 12])⟩]
def c_slices_Concat_int64_int64_3 : ACode := .region c_slices_Concat_int64_int64_o3
def c_slices_Concat_int64_int64_4 : ACode := .cond (.t 12) .skip (.exit 0)
abbrev c_slices_Concat_int64_int64_o4 : List AJ := [.o ⟨(some 13), none, false, .idxA 1 (.t 9) (.t 11), none⟩, .o ⟨(some 14), none, false, .load 1 false (.t 13), none⟩, .o ⟨(some 5), none, false, .mv (.t 14), (some [0, 3, 5, 9, 10, 11])⟩]
def c_slices_Concat_int64_int64_5 : ACode := .region c_slices_Concat_int64_int64_o4
abbrev c_slices_Concat_int64_int64_o5 : List AJ := [.o ⟨(some 15), none, false, .mv (.t 3), none⟩, .o ⟨(some 16), none, false, .mv (.t 5), none⟩, .o ⟨(some 17), none, false, .len (.t 16), none⟩, .o ⟨(some 18), none, true, .bin .add (.t 15) (.t 17), none⟩, .o ⟨(some 3), none, false, .mv (.t 18), (some [0, 3, 9, 10, 11])⟩]
def c_slices_Concat_int64_int64_6 : ACode := .region c_slices_Concat_int64_int64_o5
abbrev c_slices_Concat_int64_int64_o6 : List AJ := [.o ⟨(some 19), none, false, .mv (.t 3), none⟩, .o ⟨(some 20), none, false, .bin .lss (.t 19) (.c (.int .i64 0)), (some [0, 3, 9, 10, 11, 20])⟩]
def c_slices_Concat_int64_int64_7 : ACode := .region c_slices_Concat_int64_int64_o6
def c_slices_Concat_int64_int64_8 : ACode := .cond (.t 20) .bad .skip
def c_slices_Concat_int64_int64_9 : ACode := .seq c_slices_Concat_int64_int64_7 c_slices_Concat_int64_int64_8
def c_slices_Concat_int64_int64_10 : ACode := .seq c_slices_Concat_int64_int64_6 c_slices_Concat_int64_int64_9
def c_slices_Concat_int64_int64_11 : ACode := .seq c_slices_Concat_int64_int64_5 c_slices_Concat_int64_int64_10
def c_slices_Concat_int64_int64_12 : ACode := .block 1 c_slices_Concat_int64_int64_11
abbrev c_slices_Concat_int64_int64_o7 : List AJ := [.o ⟨(some 22), none, true, .bin .add (.t 11) (.c (.int .i64 1)), none⟩, .o ⟨(some 11), none, false, .mv (.t 22), (some [0, 3, 9, 10, 11])⟩]
def c_slices_Concat_int64_int64_13 : ACode := .region c_slices_Concat_int64_int64_o7
def c_slices_Concat_int64_int64_14 : ACode := .seq c_slices_Concat_int64_int64_12 c_slices_Concat_int64_int64_13
def c_slices_Concat_int64_int64_15 : ACode := .seq c_slices_Concat_int64_int64_4 c_slices_Concat_int64_int64_14
def c_slices_Concat_int64_int64_16 : ACode := .seq c_slices_Concat_int64_int64_3 c_slices_Concat_int64_int64_15
def c_slices_Concat_int64_int64_17 : ACode := .loop c_slices_Concat_int64_int64_16
def c_slices_Concat_int64_int64_18 : ACode := .block 0 c_slices_Concat_int64_int64_17
def c_slices_Concat_int64_int64_19 : ACode := .seq c_slices_Concat_int64_int64_2 c_slices_Concat_int64_int64_18
abbrev c_slices_Concat_int64_int64_o8 : List AJ := [.o ⟨(some 23), none, false, .mv (.t 3), none⟩, .o ⟨(some 24), none, false, .call 144 [(.c .nilsl), (.t 23)], none⟩, .o ⟨(some 6), none, false, .mv (.t 24), (some [0, 6])⟩]
def c_slices_Concat_int64_int64_20 : ACode := .region c_slices_Concat_int64_int64_o8
abbrev c_slices_Concat_int64_int64_o9 : List AJ := [.o ⟨(some 25), none, false, .mv (.t 0), none⟩, .o ⟨(some 26), none, false, .len (.t 25), none⟩, .o ⟨(some 27), none, false, .mv (.c (.int .i64 0)), (some [6, 25, 26, 27])⟩]
def c_slices_Concat_int64_int64_21 : ACode := .region c_slices_Concat_int64_int64_o9
abbrev c_slices_Concat_int64_int64_o10 : List AJ := [.o ⟨(some 28), none, false, .bin .lss (.t 27) (.t 26), (some [6, 25, 26, 27, 28])⟩]
def c_slices_Concat_int64_int64_22 : ACode := .region c_slices_Concat_int64_int64_o10
def c_slices_Concat_int64_int64_23 : ACode := .cond (.t 28) .skip (.exit 2)
abbrev c_slices_Concat_int64_int64_o11 : List AJ := [.o ⟨(some 29), none, false, .idxA 1 (.t 25) (.t 27), none⟩, .o ⟨(some 30), none, false, .load 1 false (.t 29), none⟩, .o ⟨(some 8), none, false, .mv (.t 30), (some [6, 8, 25, 26, 27])⟩]
def c_slices_Concat_int64_int64_24 : ACode := .region c_slices_Concat_int64_int64_o11
abbrev c_slices_Concat_int64_int64_o12 : List AJ := [.o ⟨(some 31), none, false, .mv (.t 6), none⟩, .o ⟨(some 32), none, false, .mv (.t 8), none⟩, .o ⟨(some 33), none, false, .append 1 8 (.t 31) (.t 32), none⟩, .o ⟨(some 6), none, false, .mv (.t 33), (some [6, 25, 26, 27])⟩]
def c_slices_Concat_int64_int64_25 : ACode := .region c_slices_Concat_int64_int64_o12
def c_slices_Concat_int64_int64_26 : ACode := .seq c_slices_Concat_int64_int64_24 c_slices_Concat_int64_int64_25
def c_slices_Concat_int64_int64_27 : ACode := .block 3 c_slices_Concat_int64_int64_26
abbrev c_slices_Concat_int64_int64_o13 : List AJ := [.o ⟨(some 34), none, true, .bin .add (.t 27) (.c (.int .i64 1)), none⟩, .o ⟨(some 27), none, false, .mv (.t 34), (some [6, 25, 26, 27])⟩]
def c_slices_Concat_int64_int64_28 : ACode := .region c_slices_Concat_int64_int64_o13
def c_slices_Concat_int64_int64_29 : ACode := .seq c_slices_Concat_int64_int64_27 c_slices_Concat_int64_int64_28
def c_slices_Concat_int64_int64_30 : ACode := .seq c_slices_Concat_int64_int64_23 c_slices_Concat_int64_int64_29
def c_slices_Concat_int64_int64_31 : ACode := .seq c_slices_Concat_int64_int64_22 c_slices_Concat_int64_int64_30
def c_slices_Concat_int64_int64_32 : ACode := .loop c_slices_Concat_int64_int64_31
def c_slices_Concat_int64_int64_33 : ACode := .block 2 c_slices_Concat_int64_int64_32
def c_slices_Concat_int64_int64_34 : ACode := .seq c_slices_Concat_int64_int64_21 c_slices_Concat_int64_int64_33
abbrev c_slices_Concat_int64_int64_o14 : List AJ := [.o ⟨(some 35), none, false, .mv (.t 6), none⟩, .o ⟨(some 2), none, false, .mv (.t 35), (some [2])⟩]
def c_slices_Concat_int64_int64_35 : ACode := .region c_slices_Concat_int64_int64_o14
def c_slices_Concat_int64_int64_36 : ACode := .seq c_slices_Concat_int64_int64_35 .ret
def c_slices_Concat_int64_int64_37 : ACode := .seq c_slices_Concat_int64_int64_34 c_slices_Concat_int64_int64_36
def c_slices_Concat_int64_int64_38 : ACode := .seq c_slices_Concat_int64_int64_20 c_slices_Concat_int64_int64_37
def c_slices_Concat_int64_int64_39 : ACode := .seq c_slices_Concat_int64_int64_19 c_slices_Concat_int64_int64_38
def c_slices_Concat_int64_int64_40 : ACode := .seq c_slices_Concat_int64_int64_1 c_slices_Concat_int64_int64_39
def c_slices_Concat_int64_int64_41 : ACode := .seq c_slices_Concat_int64_int64_0 c_slices_Concat_int64_int64_40
section
variable (C : Cx) (n : Nat) (sk : List AItem) (e : Env) (h : Heap) (R : AV → Heap → Prop)
@[simp, simp ↓] theorem c_slices_Concat_int64_int64_0_r : vc2 C (n + 1) [] (.code c_slices_Concat_int64_int64_0 :: sk) e h R = (vc2 C n c_slices_Concat_int64_int64_o0 sk e h R) := nr rfl
@[simp, simp ↓] theorem c_slices_Concat_int64_int64_1_r : vc2 C (n + 1) [] (.code c_slices_Concat_int64_int64_1 :: sk) e h R = (vc2 C n c_slices_Concat_int64_int64_o1 sk e h R) := nr rfl
@[simp, simp ↓] theorem c_slices_Concat_int64_int64_2_r : vc2 C (n + 1) [] (.code c_slices_Concat_int64_int64_2 :: sk) e h R = (vc2 C n c_slices_Concat_int64_int64_o2 sk e h R) := nr rfl
@[simp, simp ↓] theorem c_slices_Concat_int64_int64_3_r : vc2 C (n + 1) [] (.code c_slices_Concat_int64_int64_3 :: sk) e h R = (vc2 C n c_slices_Concat_int64_int64_o3 sk e h R) := nr rfl
@[simp, simp ↓] theorem c_slices_Concat_int64_int64_4_r : vc2 C (n + 1) [] (.code c_slices_Concat_int64_int64_4 :: sk) e h R = (condK (ev e (.t 12)) (vc2 C n [] (.code .skip :: sk) e h R) (vc2 C n [] (.code (.exit 0) :: sk) e h R)) := nr rfl
@[simp, simp ↓] theorem c_slices_Concat_int64_int64_5_r : vc2 C (n + 1) [] (.code c_slices_Concat_int64_int64_5 :: sk) e h R = (vc2 C n c_slices_Concat_int64_int64_o4 sk e h R) := nr rfl
@[simp, simp ↓] theorem c_slices_Concat_int64_int64_6_r : vc2 C (n + 1) [] (.code c_slices_Concat_int64_int64_6 :: sk) e h R = (vc2 C n c_slices_Concat_int64_int64_o5 sk e h R) := nr rfl
@[simp, simp ↓] theorem c_slices_Concat_int64_int64_7_r : vc2 C (n + 1) [] (.code c_slices_Concat_int64_int64_7 :: sk) e h R = (vc2 C n c_slices_Concat_int64_int64_o6 sk e h R) := nr rfl
@[simp, simp ↓] theorem c_slices_Concat_int64_int64_8_r : vc2 C (n + 1) [] (.code c_slices_Concat_int64_int64_8 :: sk) e h R = (condK (ev e (.t 20)) (vc2 C n [] (.code .bad :: sk) e h R) (vc2 C n [] (.code .skip :: sk) e h R)) := nr rfl
@[simp, simp ↓] theorem c_slices_Concat_int64_int64_9_r : vc2 C (n + 1) [] (.code c_slices_Concat_int64_int64_9 :: sk) e h R = (vc2 C n [] (.code c_slices_Concat_int64_int64_7 :: .code c_slices_Concat_int64_int64_8 :: sk) e h R) := nr rfl
@[simp, simp ↓] theorem c_slices_Concat_int64_int64_10_r : vc2 C (n + 1) [] (.code c_slices_Concat_int64_int64_10 :: sk) e h R = (vc2 C n [] (.code c_slices_Concat_int64_int64_6 :: .code c_slices_Concat_int64_int64_9 :: sk) e h R) := nr rfl
@[simp, simp ↓] theorem c_slices_Concat_int64_int64_11_r : vc2 C (n + 1) [] (.code c_slices_Concat_int64_int64_11 :: sk) e h R = (vc2 C n [] (.code c_slices_Concat_int64_int64_5 :: .code c_slices_Concat_int64_int64_10 :: sk) e h R) := nr rfl
@[simp, simp ↓] theorem c_slices_Concat_int64_int64_12_r : vc2 C (n + 1) [] (.code c_slices_Concat_int64_int64_12 :: sk) e h R = (vc2 C n [] (.code c_slices_Concat_int64_int64_11 :: .inBlock 1 :: sk) e h R) := nr rfl
@[simp, simp ↓] theorem c_slices_Concat_int64_int64_13_r : vc2 C (n + 1) [] (.code c_slices_Concat_int64_int64_13 :: sk) e h R = (vc2 C n c_slices_Concat_int64_int64_o7 sk e h R) := nr rfl
@[simp, simp ↓] theorem c_slices_Concat_int64_int64_14_r : vc2 C (n + 1) [] (.code c_slices_Concat_int64_int64_14 :: sk) e h R = (vc2 C n [] (.code c_slices_Concat_int64_int64_12 :: .code c_slices_Concat_int64_int64_13 :: sk) e h R) := nr rfl
@[simp, simp ↓] theorem c_slices_Concat_int64_int64_15_r : vc2 C (n + 1) [] (.code c_slices_Concat_int64_int64_15 :: sk) e h R = (vc2 C n [] (.code c_slices_Concat_int64_int64_4 :: .code c_slices_Concat_int64_int64_14 :: sk) e h R) := nr rfl
@[simp, simp ↓] theorem c_slices_Concat_int64_int64_16_r : vc2 C (n + 1) [] (.code c_slices_Concat_int64_int64_16 :: sk) e h R = (vc2 C n [] (.code c_slices_Concat_int64_int64_3 :: .code c_slices_Concat_int64_int64_15 :: sk) e h R) := nr rfl
@[simp, simp ↓] theorem c_slices_Concat_int64_int64_17_r : vc2 C (n + 1) [] (.code c_slices_Concat_int64_int64_17 :: sk) e h R = (Run2 C (.code c_slices_Concat_int64_int64_16 :: .inLoop c_slices_Concat_int64_int64_16 :: sk) e h R) := nr rfl
@[simp, simp ↓] theorem c_slices_Concat_int64_int64_18_r : vc2 C (n + 1) [] (.code c_slices_Concat_int64_int64_18 :: sk) e h R = (vc2 C n [] (.code c_slices_Concat_int64_int64_17 :: .inBlock 0 :: sk) e h R) := nr rfl
@[simp, simp ↓] theorem c_slices_Concat_int64_int64_19_r : vc2 C (n + 1) [] (.code c_slices_Concat_int64_int64_19 :: sk) e h R = (vc2 C n [] (.code c_slices_Concat_int64_int64_2 :: .code c_slices_Concat_int64_int64_18 :: sk) e h R) := nr rfl
@[simp, simp ↓] theorem c_slices_Concat_int64_int64_20_r : vc2 C (n + 1) [] (.code c_slices_Concat_int64_int64_20 :: sk) e h R = (vc2 C n c_slices_Concat_int64_int64_o8 sk e h R) := nr rfl
@[simp, simp ↓] theorem c_slices_Concat_int64_int64_21_r : vc2 C (n + 1) [] (.code c_slices_Concat_int64_int64_21 :: sk) e h R = (vc2 C n c_slices_Concat_int64_int64_o9 sk e h R) := nr rfl
@[simp, simp ↓] theorem c_slices_Concat_int64_int64_22_r : vc2 C (n + 1) [] (.code c_slices_Concat_int64_int64_22 :: sk) e h R = (vc2 C n c_slices_Concat_int64_int64_o10 sk e h R) := nr rfl
@[simp, simp ↓] theorem c_slices_Concat_int64_int64_23_r : vc2 C (n + 1) [] (.code c_slices_Concat_int64_int64_23 :: sk) e h R = (condK (ev e (.t 28)) (vc2 C n [] (.code .skip :: sk) e h R) (vc2 C n [] (.code (.exit 2) :: sk) e h R)) := nr rfl
@[simp, simp ↓] theorem c_slices_Concat_int64_int64_24_r : vc2 C (n + 1) [] (.code c_slices_Concat_int64_int64_24 :: sk) e h R = (vc2 C n c_slices_Concat_int64_int64_o11 sk e h R) := nr rfl
@[simp, simp ↓] theorem c_slices_Concat_int64_int64_25_r : vc2 C (n + 1) [] (.code c_slices_Concat_int64_int64_25 :: sk) e h R = (vc2 C n c_slices_Concat_int64_int64_o12 sk e h R) := nr rfl
@[simp, simp ↓] theorem c_slices_Concat_int64_int64_26_r : vc2 C (n + 1) [] (.code c_slices_Concat_int64_int64_26 :: sk) e h R = (vc2 C n [] (.code c_slices_Concat_int64_int64_24 :: .code c_slices_Concat_int64_int64_25 :: sk) e h R) := nr rfl
@[simp, simp ↓] theorem c_slices_Concat_int64_int64_27_r : vc2 C (n + 1) [] (.code c_slices_Concat_int64_int64_27 :: sk) e h R = (vc2 C n [] (.code c_slices_Concat_int64_int64_26 :: .inBlock 3 :: sk) e h R) := nr rfl
@[simp, simp ↓] theorem c_slices_Concat_int64_int64_28_r : vc2 C (n + 1) [] (.code c_slices_Concat_int64_int64_28 :: sk) e h R = (vc2 C n c_slices_Concat_int64_int64_o13 sk e h R) := nr rfl
@[simp, simp ↓] theorem c_slices_Concat_int64_int64_29_r : vc2 C (n + 1) [] (.code c_slices_Concat_int64_int64_29 :: sk) e h R = (vc2 C n [] (.code c_slices_Concat_int64_int64_27 :: .code c_slices_Concat_int64_int64_28 :: sk) e h R) := nr rfl
@[simp, simp ↓] theorem c_slices_Concat_int64_int64_30_r : vc2 C (n + 1) [] (.code c_slices_Concat_int64_int64_30 :: sk) e h R = (vc2 C n [] (.code c_slices_Concat_int64_int64_23 :: .code c_slices_Concat_int64_int64_29 :: sk) e h R) := nr rfl
@[simp, simp ↓] theorem c_slices_Concat_int64_int64_31_r : vc2 C (n + 1) [] (.code c_slices_Concat_int64_int64_31 :: sk) e h R = (vc2 C n [] (.code c_slices_Concat_int64_int64_22 :: .code c_slices_Concat_int64_int64_30 :: sk) e h R) := nr rfl
@[simp, simp ↓] theorem c_slices_Concat_int64_int64_32_r : vc2 C (n + 1) [] (.code c_slices_Concat_int64_int64_32 :: sk) e h R = (Run2 C (.code c_slices_Concat_int64_int64_31 :: .inLoop c_slices_Concat_int64_int64_31 :: sk) e h R) := nr rfl
@[simp, simp ↓] theorem c_slices_Concat_int64_int64_33_r : vc2 C (n + 1) [] (.code c_slices_Concat_int64_int64_33 :: sk) e h R = (vc2 C n [] (.code c_slices_Concat_int64_int64_32 :: .inBlock 2 :: sk) e h R) := nr rfl
@[simp, simp ↓] theorem c_slices_Concat_int64_int64_34_r : vc2 C (n + 1) [] (.code c_slices_Concat_int64_int64_34 :: sk) e h R = (vc2 C n [] (.code c_slices_Concat_int64_int64_21 :: .code c_slices_Concat_int64_int64_33 :: sk) e h R) := nr rfl
@[simp, simp ↓] theorem c_slices_Concat_int64_int64_35_r : vc2 C (n + 1) [] (.code c_slices_Concat_int64_int64_35 :: sk) e h R = (vc2 C n c_slices_Concat_int64_int64_o14 sk e h R) := nr rfl
@[simp, simp ↓] theorem c_slices_Concat_int64_int64_36_r : vc2 C (n + 1) [] (.code c_slices_Concat_int64_int64_36 :: sk) e h R = (vc2 C n [] (.code c_slices_Concat_int64_int64_35 :: .code .ret :: sk) e h R) := nr rfl
@[simp, simp ↓] theorem c_slices_Concat_int64_int64_37_r : vc2 C (n + 1) [] (.code c_slices_Concat_int64_int64_37 :: sk) e h R = (vc2 C n [] (.code c_slices_Concat_int64_int64_34 :: .code c_slices_Concat_int64_int64_36 :: sk) e h R) := nr rfl
@[simp, simp ↓] theorem c_slices_Concat_int64_int64_38_r : vc2 C (n + 1) [] (.code c_slices_Concat_int64_int64_38 :: sk) e h R = (vc2 C n [] (.code c_slices_Concat_int64_int64_20 :: .code c_slices_Concat_int64_int64_37 :: sk) e h R) := nr rfl
@[simp, simp ↓] theorem c_slices_Concat_int64_int64_39_r : vc2 C (n + 1) [] (.code c_slices_Concat_int64_int64_39 :: sk) e h R = (vc2 C n [] (.code c_slices_Concat_int64_int64_19 :: .code c_slices_Concat_int64_int64_38 :: sk) e h R) := nr rfl
@[simp, simp ↓] theorem c_slices_Concat_int64_int64_40_r : vc2 C (n + 1) [] (.code c_slices_Concat_int64_int64_40 :: sk) e h R = (vc2 C n [] (.code c_slices_Concat_int64_int64_1 :: .code c_slices_Concat_int64_int64_39 :: sk) e h R) := nr rfl
@[simp, simp ↓] theorem c_slices_Concat_int64_int64_41_r : vc2 C (n + 1) [] (.code c_slices_Concat_int64_int64_41 :: sk) e h R = (vc2 C n [] (.code c_slices_Concat_int64_int64_0 :: .code c_slices_Concat_int64_int64_40 :: sk) e h R) := nr rfl
end
noncomputable def c_slices_Concat_int64_int64_C (orc : Orc) : Cx := ⟨Try.prog, [], 136, 36, [.tmp 2], orc⟩
@[simp] theorem c_slices_Concat_int64_int64_C_P (orc : Orc) : (c_slices_Concat_int64_int64_C orc).P = Try.prog := nr rfl
@[simp] theorem c_slices_Concat_int64_int64_C_o (orc : Orc) : (c_slices_Concat_int64_int64_C orc).orc = orc := nr rfl
@[simp] theorem c_slices_Concat_int64_int64_C_r (orc : Orc) : (c_slices_Concat_int64_int64_C orc).res = [.tmp 2] := nr rfl
theorem c_slices_Concat_int64_int64_of {args : List AV} {h : Heap} {R : AV → Heap → Prop} {k : Nat} (ha : args.length = k) {orc : Orc} (hp : Pure Try.prog orc) (hk : Is (c_slices_Concat_int64_int64_C orc) Try.f136 → Run2 (c_slices_Concat_int64_int64_C orc) [.code c_slices_Concat_int64_int64_41] (argEnv 0 args) h (Post R)) (hle : k ≤ 36 := by simp) : ACalls Try.prog 136 args h R :=
  contract2 [] c_slices_Concat_int64_int64_41 [.tmp 2] Try.func136 (by decide +kernel) rfl (by kernel_rfl) (by rw [ha]; exact hle) (by kernel_rfl) hp hk
theorem c_slices_Concat_int64_int64_of0 {args : List AV} {h : Heap} {R : AV → Heap → Prop} {k : Nat} (ha : args.length = k) {orc : Orc} (hp : Pure Try.prog orc) (hk : Is (c_slices_Concat_int64_int64_C orc) Try.f136 → Run2 (c_slices_Concat_int64_int64_C orc) [.code c_slices_Concat_int64_int64_41] (argEnv 0 args) h R) (hle : k ≤ 36 := by simp) : ACalls Try.prog 136 args h R :=
  contract20 [] c_slices_Concat_int64_int64_41 [.tmp 2] Try.func136 (by decide +kernel) rfl (by kernel_rfl) (by rw [ha]; exact hle) (by kernel_rfl) hp hk
theorem ConcatI_g (parts : List (List AV)) (h : Heap) (hl : parts.length ≤ 1048576) (ht : parts.flatten.length ≤ 1048576) : ACalls Try.prog 136 [.snap 1 (parts.map (.snap 1))] h (fun v h' => ∃ hp, GrowX 1 v parts.flatten hp ∧ h' = hp ++ h) := by
  have hfl : ∀ i, (parts.take i).flatten.length ≤ parts.flatten.length := fun i => by
    conv => rhs; rw [← List.take_append_drop i parts]
    rw [List.flatten_append, List.length_append]; omega
  have hfs : ∀ i (hi : i < parts.length), (parts.take (i + 1)).flatten = (parts.take i).flatten ++ parts[i] := fun i hi => by
    rw [List.take_succ_eq_append_getElem hi, List.flatten_append]; simp
  refine c_slices_Concat_int64_int64_of0 rfl noPure fun I => ?_
  refine Run2.of I 1000 ?_
  simp -implicitDefEqProofs
  refine Run2.loopE (fun (i : Nat) => [(0, .snap 1 (parts.map (.snap 1))), (3, .int .i64 ((parts.take i).flatten.length : Nat)), (9, .snap 1 (parts.map (.snap 1))), (10, .int .i64 parts.length), (11, .int .i64 i)]) (fun i => h) (fun i => parts.length - i) (fun i => i ≤ parts.length) 0 (by simp) rfl (Nat.zero_le _) fun i hi ih => ?_
  by_cases hlt : i < parts.length
  · have go := ih (i + 1) (by omega) (by omega)
    have h1 := hfl (i + 1)
    rw [hfs i hlt, List.length_append] at go h1
    clear ih
    generalize hL : (parts.take i).flatten.length = L at *
    generalize hP : parts[i] = p at *
    refine Run2.of I 1000 ?_
    simp -implicitDefEqProofs [hlt, hP]
    refine ⟨by omega, by omega, fun _ => ⟨by omega, ?_⟩⟩
    simpa using go
  · obtain rfl : i = parts.length := by omega
    rw [List.take_length]
    refine Run2.of I 1000 ?_
    simp -implicitDefEqProofs
    have hS : (parts.map List.length).sum ≤ 1048576 := by rw [← List.length_flatten]; exact ht
    refine (GrowI_g _ h hS).mono ?_
    rintro v h' ⟨hp0, g0, rfl⟩
    have hcell0 := g0.cell
    refine gK.go ?_
    simp -implicitDefEqProofs [hcell0]
    refine Run2.loopE (α := Nat × AV × Heap) (fun s => [(6, s.2.1), (25, .snap 1 (parts.map (.snap 1))), (26, .int .i64 parts.length), (27, .int .i64 (s.1 : Nat))]) (fun s => s.2.2 ++ h) (fun s => parts.length - s.1) (fun s => s.1 ≤ parts.length ∧ GrowX 1 s.2.1 (parts.take s.1).flatten s.2.2) (0, v, hp0) (by simp) rfl ⟨Nat.zero_le _, by simpa using g0⟩ ?_
    rintro ⟨i, w, hp⟩ ⟨hi2, hg⟩ ih2
    simp only at hi2 hg
    have hcell := hg.cell
    by_cases hlt : i < parts.length
    · have go := fun w' hp' (g : GrowX 1 w' ((parts.take i).flatten ++ parts[i]) hp') => ih2 (i + 1, w', hp') ⟨hlt, by simp only; rw [hfs i hlt]; exact g⟩ (by simp; omega)
      have h1 := hfl (i + 1)
      rw [hfs i hlt, List.length_append] at h1
      clear ih2
      generalize hP : parts[i] = p at *
      refine Run2.of I 1000 ?_
      simp -implicitDefEqProofs [hlt, hP, hcell]
      refine hg.app (by omega) fun w' hp' hg' => ?_
      have hcell' := hg'.cell
      simp -implicitDefEqProofs [hcell']
      refine ⟨by omega, ?_⟩
      simpa using go w' hp' hg'
    · obtain rfl : i = parts.length := by omega
      rw [List.take_length] at hg
      refine Run2.of I 1000 ?_
      simp -implicitDefEqProofs [hcell]
      exact hg
theorem flatten2 (a b : List AV) : [a, b].flatten = a ++ b := by simp
theorem ConcatI_f (a b : List Int) (h : Heap) (ha : a.length + b.length ≤ 1048576) : ACalls Try.prog 136 [.snap 1 [.snap 1 (a.map iv), .snap 1 (b.map iv)]] h (fun v h' => v = il (a ++ b) ∧ h' = h) := by
  have := ConcatI_g [a.map iv, b.map iv] h (by simp) (by simpa using ha)
  rw [flatten2] at this
  refine ACalls.post (ACalls.mono (by simpa using this) ?_)
  rintro v h' ⟨hp, g, rfl⟩
  refine Post.lend (.wk g.lent (.base ⟨?_, rfl⟩))
  simp
end Go.AG
