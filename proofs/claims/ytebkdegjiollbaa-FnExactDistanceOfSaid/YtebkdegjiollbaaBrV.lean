/- Small functions of bars that have no effect, and what they give. No statement is made here. -/
import Derived.Test.YtebkdegjiollbaaBrA
namespace Go.AG
open Go.Proofs Go.Proofs.Ytebkdegjiollbaa
set_option linter.unusedSimpArgs false
set_option linter.unusedVariables false
set_option maxRecDepth 4000
abbrev k45_o0 : List AJ := [.o ⟨(some 6), none, false, .mv (.c (.bool false)), (some [0, 1, 2])⟩]
abbrev k45_o1 : List AJ := [.o ⟨(some 7), none, false, .mv (.t 0), none⟩, .o ⟨(some 8), none, false, .mv (.t 1), none⟩, .o ⟨(some 9), none, false, .bin .geq (.t 7) (.t 8), none⟩, .o ⟨(some 10), none, false, .mv (.t 9), none⟩, .o ⟨(some 11), (some (10, true)), false, .mv (.t 0), none⟩, .o ⟨(some 12), (some (10, true)), false, .mv (.t 2), none⟩, .o ⟨(some 13), (some (10, true)), false, .bin .leq (.t 11) (.t 12), none⟩, .o ⟨(some 14), none, false, .pick (.t 10) (.t 13) (.c (.bool false)), none⟩, .o ⟨(some 6), none, false, .mv (.t 14), (some [6])⟩]
def k45_2 : ACode := .seq (.region k45_o1) .ret
def k45_3 : ACode := .seq (.region k45_o0) k45_2
@[simp, simp ↓] theorem k45_2r : sR k45_2 k45_o1 .ret := yR rfl
@[simp, simp ↓] theorem k45_3r : sR k45_3 k45_o0 k45_2 := yR rfl
noncomputable abbrev k45_C : Orc → Cx := mkC Try.prog [] 45 15 [.tmp 6]
theorem k45_of0 : OfP0 Try.prog Try.f45 45 15 k45_C k45_3 := @ofP0 _ _ _ _ _ _ _ _ Try.func45 (by decide +kernel) rfl (by kernel_rfl) rfl (by kernel_rfl)
theorem l00In_c (a b c : Int) (h : Heap) : ACalls Try.prog 45 [.int .i64 a, .int .i64 b, .int .i64 c] h (fun v h' => v = .bool (decide (b ≤ a) && decide (a ≤ c)) ∧ h' = h) := by
  refine k45_of0 rfl noPure fun I => ?_
  refine Run2.of I 1000 ?_
  simp -implicitDefEqProofs
  grind
noncomputable def o_l00In : List AV → Option (Prop × AV) := tab (fun (x : Int × Int × Int) => match x with | (a, b, c) => [.int .i64 a, .int .i64 b, .int .i64 c]) (fun x => match x with | (a, b, c) => True) (fun x => match x with | (a, b, c) => .bool (decide (b ≤ a) && decide (a ≤ c)))
@[simp] theorem o_l00In_e (a : Int) (b : Int) (c : Int) : o_l00In [.int .i64 a, .int .i64 b, .int .i64 c] = some (True, .bool (decide (b ≤ a) && decide (a ≤ c))) := tab_at (enc := fun (x : Int × Int × Int) => match x with | (a, b, c) => [.int .i64 a, .int .i64 b, .int .i64 c]) (fun x y h => by
  obtain ⟨a1, b1, c1⟩ := x; obtain ⟨a2, b2, c2⟩ := y; simp at h; simp [h] <;> omega) _ _ (a, b, c)
theorem o_l00In_k : Knows Try.prog 45 o_l00In := tab_knows fun x hx h => by
  obtain ⟨a, b, c⟩ := x; exact l00In_c _ _ _ h
abbrev k91_o0 : List AJ := [.o ⟨(some 6), none, false, .mv (.c (.bool false)), (some [0, 1, 2])⟩]
abbrev k91_o1 : List AJ := [.o ⟨(some 7), none, false, .mv (.t 0), none⟩, .o ⟨(some 8), none, false, .mv (.t 1), none⟩, .o ⟨(some 9), none, false, .bin .geq (.t 7) (.t 8), none⟩, .o ⟨(some 10), none, false, .mv (.t 9), none⟩, .o ⟨(some 11), (some (10, true)), false, .mv (.t 0), none⟩, .o ⟨(some 12), (some (10, true)), false, .mv (.t 2), none⟩, .o ⟨(some 13), (some (10, true)), false, .bin .leq (.t 11) (.t 12), none⟩, .o ⟨(some 14), none, false, .pick (.t 10) (.t 13) (.c (.bool false)), none⟩, .o ⟨(some 6), none, false, .mv (.t 14), (some [6])⟩]
def k91_2 : ACode := .seq (.region k91_o1) .ret
def k91_3 : ACode := .seq (.region k91_o0) k91_2
@[simp, simp ↓] theorem k91_2r : sR k91_2 k91_o1 .ret := yR rfl
@[simp, simp ↓] theorem k91_3r : sR k91_3 k91_o0 k91_2 := yR rfl
noncomputable abbrev k91_C : Orc → Cx := mkC Try.prog [] 91 15 [.tmp 6]
theorem k91_of0 : OfP0 Try.prog Try.f91 91 15 k91_C k91_3 := @ofP0 _ _ _ _ _ _ _ _ Try.func91 (by decide +kernel) rfl (by kernel_rfl) rfl (by kernel_rfl)
theorem within_c (a b c : Int) (h : Heap) : ACalls Try.prog 91 [.int .i64 a, .int .i64 b, .int .i64 c] h (fun v h' => v = .bool (decide (b ≤ a) && decide (a ≤ c)) ∧ h' = h) := by
  refine k91_of0 rfl noPure fun I => ?_
  refine Run2.of I 1000 ?_
  simp -implicitDefEqProofs
  grind
noncomputable def o_within : List AV → Option (Prop × AV) := tab (fun (x : Int × Int × Int) => match x with | (a, b, c) => [.int .i64 a, .int .i64 b, .int .i64 c]) (fun x => match x with | (a, b, c) => True) (fun x => match x with | (a, b, c) => .bool (decide (b ≤ a) && decide (a ≤ c)))
@[simp] theorem o_within_e (a : Int) (b : Int) (c : Int) : o_within [.int .i64 a, .int .i64 b, .int .i64 c] = some (True, .bool (decide (b ≤ a) && decide (a ≤ c))) := tab_at (enc := fun (x : Int × Int × Int) => match x with | (a, b, c) => [.int .i64 a, .int .i64 b, .int .i64 c]) (fun x y h => by
  obtain ⟨a1, b1, c1⟩ := x; obtain ⟨a2, b2, c2⟩ := y; simp at h; simp [h] <;> omega) _ _ (a, b, c)
theorem o_within_k : Knows Try.prog 91 o_within := tab_knows fun x hx h => by
  obtain ⟨a, b, c⟩ := x; exact within_c _ _ _ h
abbrev k158_o0 : List AJ := [.o ⟨(some 2), none, false, .mv (.c (.bool false)), (some [0])⟩]
abbrev k158_o1 : List AJ := [.o ⟨(some 3), none, false, .mv (.t 0), none⟩, .o ⟨(some 4), none, false, .mv (.t 0), none⟩, .o ⟨(some 5), none, false, .bin .neq (.t 3) (.t 4), none⟩, .o ⟨(some 2), none, false, .mv (.t 5), (some [2])⟩]
def k158_2 : ACode := .seq (.region k158_o1) .ret
def k158_3 : ACode := .seq (.region k158_o0) k158_2
@[simp, simp ↓] theorem k158_2r : sR k158_2 k158_o1 .ret := yR rfl
@[simp, simp ↓] theorem k158_3r : sR k158_3 k158_o0 k158_2 := yR rfl
noncomputable abbrev k158_C : Orc → Cx := mkC Try.prog [] 158 6 [.tmp 2]
theorem k158_of0 : OfP0 Try.prog Try.f158 158 6 k158_C k158_3 := @ofP0 _ _ _ _ _ _ _ _ Try.func158 (by decide +kernel) rfl (by kernel_rfl) rfl (by kernel_rfl)
theorem isNaN_c (a : Int) (h : Heap) : ACalls Try.prog 158 [.int .i64 a] h (fun v h' => v = .bool false ∧ h' = h) := by
  refine k158_of0 rfl noPure fun I => ?_
  refine Run2.of I 1000 ?_
  simp -implicitDefEqProofs
noncomputable def o_isNaN : List AV → Option (Prop × AV) := tab (fun (x : Int) => match x with | a => [.int .i64 a]) (fun x => match x with | a => True) (fun x => match x with | a => .bool false)
@[simp] theorem o_isNaN_e (a : Int) : o_isNaN [.int .i64 a] = some (True, .bool false) := tab_at (enc := fun (x : Int) => match x with | a => [.int .i64 a]) (fun x y h => by
  simp at h; simp [h] <;> omega) _ _ a
theorem o_isNaN_k : Knows Try.prog 158 o_isNaN := tab_knows fun x hx h => by
  exact isNaN_c _ h
noncomputable def orc1 : List (Nat × (List AV → Option (Prop × AV))) := (45, o_l00In) :: (91, o_within) :: (158, o_isNaN) :: []
theorem orc1_p : Pure Try.prog (lk orc1) := (lk_pure o_l00In_k (lk_pure o_within_k (lk_pure o_isNaN_k lk_pure0)))
@[simp] theorem orc1_l (b : Bool) (g : FuncId) (l : List AV) : lk orc1 b g l = if g = 45 then o_l00In l else if g = 91 then o_within l else if g = 158 then o_isNaN l else none := nr rfl
def cmpI (a b : Int) : Int := if a < b then -1 else if b < a then 1 else 0
abbrev k129_o0 : List AJ := [.o ⟨(some 4), none, false, .mv (.c (.int .i64 0)), (some [0, 1])⟩]
abbrev k129_o1 : List AJ := [.o ⟨(some 7), none, false, .mv (.t 0), none⟩, .o ⟨(some 8), none, false, .call 158 [(.t 7)], none⟩, .o ⟨(some 5), none, false, .mv (.t 8), (some [0, 1, 5])⟩]
abbrev k129_o2 : List AJ := [.o ⟨(some 9), none, false, .mv (.t 1), none⟩, .o ⟨(some 10), none, false, .call 158 [(.t 9)], none⟩, .o ⟨(some 6), none, false, .mv (.t 10), (some [0, 1, 5, 6])⟩]
abbrev k129_o3 : List AJ := [.o ⟨(some 11), none, false, .mv (.t 5), (some [0, 1, 6, 11])⟩]
abbrev k129_o4 : List AJ := [.o ⟨(some 12), none, false, .mv (.t 6), (some [12])⟩]
abbrev k129_o5 : List AJ := [.o ⟨(some 4), none, false, .mv (.c (.int .i64 0)), (some [4])⟩]
def k129_6 : ACode := .seq (.region k129_o5) .ret
def k129_7 : ACode := .cond (.t 12) k129_6 .skip
def k129_8 : ACode := .seq (.region k129_o4) k129_7
abbrev k129_o6 : List AJ := [.o ⟨(some 4), none, false, .mv (.c (.int .i64 (-1))), (some [4])⟩]
def k129_10 : ACode := .seq (.region k129_o6) .ret
def k129_11 : ACode := .seq k129_8 k129_10
def k129_12 : ACode := .cond (.t 11) k129_11 .skip
def k129_13 : ACode := .seq (.region k129_o3) k129_12
abbrev k129_o7 : List AJ := [.o ⟨(some 13), none, false, .mv (.t 6), (some [0, 1, 13])⟩]
abbrev k129_o8 : List AJ := [.o ⟨(some 4), none, false, .mv (.c (.int .i64 1)), (some [4])⟩]
def k129_16 : ACode := .seq (.region k129_o8) .ret
def k129_17 : ACode := .cond (.t 13) k129_16 .skip
def k129_18 : ACode := .seq (.region k129_o7) k129_17
abbrev k129_o9 : List AJ := [.o ⟨(some 14), none, false, .mv (.t 0), none⟩, .o ⟨(some 15), none, false, .mv (.t 1), none⟩, .o ⟨(some 16), none, false, .bin .lss (.t 14) (.t 15), (some [0, 1, 16])⟩]
abbrev k129_o10 : List AJ := [.o ⟨(some 4), none, false, .mv (.c (.int .i64 (-1))), (some [4])⟩]
def k129_21 : ACode := .seq (.region k129_o10) .ret
def k129_22 : ACode := .cond (.t 16) k129_21 .skip
def k129_23 : ACode := .seq (.region k129_o9) k129_22
abbrev k129_o11 : List AJ := [.o ⟨(some 17), none, false, .mv (.t 0), none⟩, .o ⟨(some 18), none, false, .mv (.t 1), none⟩, .o ⟨(some 19), none, false, .bin .gtr (.t 17) (.t 18), (some [19])⟩]
abbrev k129_o12 : List AJ := [.o ⟨(some 4), none, false, .mv (.c (.int .i64 1)), (some [4])⟩]
def k129_26 : ACode := .seq (.region k129_o12) .ret
def k129_27 : ACode := .cond (.t 19) k129_26 .skip
def k129_28 : ACode := .seq (.region k129_o11) k129_27
abbrev k129_o13 : List AJ := [.o ⟨(some 4), none, false, .mv (.c (.int .i64 0)), (some [4])⟩]
def k129_30 : ACode := .seq (.region k129_o13) .ret
def k129_31 : ACode := .seq k129_28 k129_30
def k129_32 : ACode := .seq k129_23 k129_31
def k129_33 : ACode := .seq k129_18 k129_32
def k129_34 : ACode := .seq k129_13 k129_33
def k129_35 : ACode := .seq (.region k129_o2) k129_34
def k129_36 : ACode := .seq (.region k129_o1) k129_35
def k129_37 : ACode := .seq (.region k129_o0) k129_36
@[simp, simp ↓] theorem k129_6r : sR k129_6 k129_o5 .ret := yR rfl
@[simp, simp ↓] theorem k129_7r : rC k129_7 (.t 12) k129_6 .skip := zC rfl
@[simp, simp ↓] theorem k129_8r : sR k129_8 k129_o4 k129_7 := yR rfl
@[simp, simp ↓] theorem k129_10r : sR k129_10 k129_o6 .ret := yR rfl
@[simp, simp ↓] theorem k129_11r : rS k129_11 k129_8 k129_10 := zS rfl
@[simp, simp ↓] theorem k129_12r : rC k129_12 (.t 11) k129_11 .skip := zC rfl
@[simp, simp ↓] theorem k129_13r : sR k129_13 k129_o3 k129_12 := yR rfl
@[simp, simp ↓] theorem k129_16r : sR k129_16 k129_o8 .ret := yR rfl
@[simp, simp ↓] theorem k129_17r : rC k129_17 (.t 13) k129_16 .skip := zC rfl
@[simp, simp ↓] theorem k129_18r : sR k129_18 k129_o7 k129_17 := yR rfl
@[simp, simp ↓] theorem k129_21r : sR k129_21 k129_o10 .ret := yR rfl
@[simp, simp ↓] theorem k129_22r : rC k129_22 (.t 16) k129_21 .skip := zC rfl
@[simp, simp ↓] theorem k129_23r : sR k129_23 k129_o9 k129_22 := yR rfl
@[simp, simp ↓] theorem k129_26r : sR k129_26 k129_o12 .ret := yR rfl
@[simp, simp ↓] theorem k129_27r : rC k129_27 (.t 19) k129_26 .skip := zC rfl
@[simp, simp ↓] theorem k129_28r : sR k129_28 k129_o11 k129_27 := yR rfl
@[simp, simp ↓] theorem k129_30r : sR k129_30 k129_o13 .ret := yR rfl
@[simp, simp ↓] theorem k129_31r : rS k129_31 k129_28 k129_30 := zS rfl
@[simp, simp ↓] theorem k129_32r : rS k129_32 k129_23 k129_31 := zS rfl
@[simp, simp ↓] theorem k129_33r : rS k129_33 k129_18 k129_32 := zS rfl
@[simp, simp ↓] theorem k129_34r : rS k129_34 k129_13 k129_33 := zS rfl
@[simp, simp ↓] theorem k129_35r : sR k129_35 k129_o2 k129_34 := yR rfl
@[simp, simp ↓] theorem k129_36r : sR k129_36 k129_o1 k129_35 := yR rfl
@[simp, simp ↓] theorem k129_37r : sR k129_37 k129_o0 k129_36 := yR rfl
noncomputable abbrev k129_C : Orc → Cx := mkC Try.prog [] 129 20 [.tmp 4]
theorem k129_of0 : OfP0 Try.prog Try.f129 129 20 k129_C k129_37 := @ofP0 _ _ _ _ _ _ _ _ Try.func129 (by decide +kernel) rfl (by kernel_rfl) rfl (by kernel_rfl)
theorem compare_c (a b : Int) (h : Heap) : ACalls Try.prog 129 [.int .i64 a, .int .i64 b] h (fun v h' => v = .int .i64 (cmpI a b) ∧ h' = h) := by
  refine k129_of0 rfl orc1_p fun I => ?_
  refine Run2.of I 1000 ?_
  simp -implicitDefEqProofs [cmpI]
  grind
noncomputable def o_compare : List AV → Option (Prop × AV) := tab (fun (x : Int × Int) => match x with | (a, b) => [.int .i64 a, .int .i64 b]) (fun x => match x with | (a, b) => True) (fun x => match x with | (a, b) => .int .i64 (cmpI a b))
@[simp] theorem o_compare_e (a : Int) (b : Int) : o_compare [.int .i64 a, .int .i64 b] = some (True, .int .i64 (cmpI a b)) := tab_at (enc := fun (x : Int × Int) => match x with | (a, b) => [.int .i64 a, .int .i64 b]) (fun x y h => by
  obtain ⟨a1, b1⟩ := x; obtain ⟨a2, b2⟩ := y; simp at h; simp [h] <;> omega) _ _ (a, b)
theorem o_compare_k : Knows Try.prog 129 o_compare := tab_knows fun x hx h => by
  obtain ⟨a, b⟩ := x; exact compare_c _ _ h
def orI : List Int → Int
  | [] => 0
  | x :: xs => if x = 0 then orI xs else x
abbrev k128_o0 : List AJ := [.o ⟨(some 2), none, false, .mv (.c (.int .i64 0)), (some [0])⟩]
abbrev k128_o1 : List AJ := [.o ⟨(some 3), none, false, .mv (.c (.int .i64 0)), (some [0, 3])⟩]
abbrev k128_o2 : List AJ := [.o ⟨(some 6), none, false, .mv (.t 0), none⟩, .o ⟨(some 7), none, false, .len (.t 6), none⟩, .o ⟨(some 8), none, false, .mv (.c (.int .i64 0)), (some [3, 6, 7, 8])⟩]
abbrev k128_o3 : List AJ := [.o ⟨(some 9), none, false, .bin .lss (.t 8) (.t 7), (some [3, 6, 7, 8, 9])⟩]
abbrev k128_o4 : List AJ := [.o ⟨(some 10), none, false, .idxA 1 (.t 6) (.t 8), none⟩, .o ⟨(some 11), none, false, .load 1 false (.t 10), none⟩, .o ⟨(some 5), none, false, .mv (.t 11), (some [3, 5, 6, 7, 8])⟩]
abbrev k128_o5 : List AJ := [.o ⟨(some 12), none, false, .mv (.t 5), none⟩, .o ⟨(some 13), none, false, .mv (.t 3), none⟩, .o ⟨(some 14), none, false, .bin .neq (.t 12) (.t 13), (some [3, 5, 6, 7, 8, 14])⟩]
abbrev k128_o6 : List AJ := [.o ⟨(some 15), none, false, .mv (.t 5), none⟩, .o ⟨(some 2), none, false, .mv (.t 15), (some [2])⟩]
def k128_8 : ACode := .seq (.region k128_o6) .ret
def k128_9 : ACode := .cond (.t 14) k128_8 .skip
def k128_10 : ACode := .seq (.region k128_o5) k128_9
def k128_11 : ACode := .seq (.region k128_o4) k128_10
abbrev k128_o7 : List AJ := [.o ⟨(some 16), none, true, .bin .add (.t 8) (.c (.int .i64 1)), none⟩, .o ⟨(some 8), none, false, .mv (.t 16), (some [3, 6, 7, 8])⟩]
def k128_13 : ACode := .region k128_o7
def k128_14 : ACode := .seq (.block 1 k128_11) k128_13
def k128_15 : ACode := .seq (.cond (.t 9) .skip (.exit 0)) k128_14
def k128_16 : ACode := .seq (.region k128_o3) k128_15
def k128_17 : ACode := .loop k128_16
def k128_18 : ACode := .block 0 k128_17
def k128_19 : ACode := .seq (.region k128_o2) k128_18
abbrev k128_o8 : List AJ := [.o ⟨(some 17), none, false, .mv (.t 3), none⟩, .o ⟨(some 2), none, false, .mv (.t 17), (some [2])⟩]
def k128_21 : ACode := .seq (.region k128_o8) .ret
def k128_22 : ACode := .seq k128_19 k128_21
def k128_23 : ACode := .seq (.region k128_o1) k128_22
def k128_24 : ACode := .seq (.region k128_o0) k128_23
@[simp, simp ↓] theorem k128_8r : sR k128_8 k128_o6 .ret := yR rfl
@[simp, simp ↓] theorem k128_9r : rC k128_9 (.t 14) k128_8 .skip := zC rfl
@[simp, simp ↓] theorem k128_10r : sR k128_10 k128_o5 k128_9 := yR rfl
@[simp, simp ↓] theorem k128_11r : sR k128_11 k128_o4 k128_10 := yR rfl
@[simp, simp ↓] theorem k128_13r : rR k128_13 k128_o7 := zR rfl
@[simp, simp ↓] theorem k128_14r : sB k128_14 1 k128_11 k128_13 := yB rfl
@[simp, simp ↓] theorem k128_15r : sC k128_15 (.t 9) .skip (.exit 0) k128_14 := yC rfl
@[simp, simp ↓] theorem k128_16r : sR k128_16 k128_o3 k128_15 := yR rfl
@[simp, simp ↓] theorem k128_17r : rL k128_17 k128_16 := zL rfl
@[simp, simp ↓] theorem k128_18r : rB k128_18 0 k128_17 := zB rfl
@[simp, simp ↓] theorem k128_19r : sR k128_19 k128_o2 k128_18 := yR rfl
@[simp, simp ↓] theorem k128_21r : sR k128_21 k128_o8 .ret := yR rfl
@[simp, simp ↓] theorem k128_22r : rS k128_22 k128_19 k128_21 := zS rfl
@[simp, simp ↓] theorem k128_23r : sR k128_23 k128_o1 k128_22 := yR rfl
@[simp, simp ↓] theorem k128_24r : sR k128_24 k128_o0 k128_23 := yR rfl
noncomputable abbrev k128_C : Orc → Cx := mkC Try.prog [] 128 18 [.tmp 2]
theorem k128_of0 : OfP0 Try.prog Try.f128 128 18 k128_C k128_24 := @ofP0 _ _ _ _ _ _ _ _ Try.func128 (by decide +kernel) rfl (by kernel_rfl) rfl (by kernel_rfl)
theorem or_c (l : List Int) (h : Heap) (hl : l.length ≤ 1048576) : ACalls Try.prog 128 [.snap 1 (l.map fun n => .int .i64 n)] h (fun v h' => v = .int .i64 (orI l) ∧ h' = h) := by
  refine k128_of0 rfl noPure fun I => ?_
  refine Run2.of I 1000 ?_
  simp -implicitDefEqProofs
  refine Run2.loop (fun i => [(3, .int .i64 0), (6, .snap 1 (l.map fun n => .int .i64 n)), (7, .int .i64 l.length), (8, .int .i64 (i : Nat))]) (fun i => h) (fun i => l.length - i) (fun i => i ≤ l.length ∧ orI (l.drop i) = orI l) 0 (by simp) fun i hi ih => ?_
  by_cases hlt : i < l.length
  · have hd : l.drop i = l[i] :: l.drop (i + 1) := List.drop_eq_getElem_cons hlt
    refine Run2.of I 1000 ?_
    simp -implicitDefEqProofs [hlt]
    constructor
    · intro hne
      rw [← hi.2, hd, orI, if_neg hne]
    · intro he
      refine ⟨by omega, ?_⟩
      have := ih (i + 1) ⟨by omega, by rw [← hi.2, hd, orI, if_pos he]⟩ (by omega)
      simpa using this
  · have : i = l.length := by omega
    have h2 := hi.2
    rw [List.drop_of_length_le (by omega)] at h2
    refine Run2.of I 1000 ?_
    simp -implicitDefEqProofs [hlt]
    exact h2
noncomputable def o_or3 : List AV → Option (Prop × AV) := tab (fun (x : Int × Int × Int) => match x with | (a, b, c) => [.snap 1 [.int .i64 a, .int .i64 b, .int .i64 c]]) (fun x => match x with | (a, b, c) => True) (fun x => match x with | (a, b, c) => .int .i64 (orI [a, b, c]))
@[simp] theorem o_or3_e (a : Int) (b : Int) (c : Int) : o_or3 [.snap 1 [.int .i64 a, .int .i64 b, .int .i64 c]] = some (True, .int .i64 (orI [a, b, c])) := tab_at (enc := fun (x : Int × Int × Int) => match x with | (a, b, c) => [.snap 1 [.int .i64 a, .int .i64 b, .int .i64 c]]) (fun x y h => by
  obtain ⟨a1, b1, c1⟩ := x; obtain ⟨a2, b2, c2⟩ := y; simp at h; simp [h] <;> omega) _ _ (a, b, c)
theorem o_or3_k : Knows Try.prog 128 o_or3 := tab_knows fun x hx h => by
  obtain ⟨a, b, c⟩ := x; exact or_c [a, b, c] h (by simp)
abbrev k72_o0 : List AJ := [.o ⟨(some 2), none, false, .mv (.c (.bool false)), (some [0])⟩]
abbrev k72_o1 : List AJ := [.o ⟨(some 3), none, false, .mv (.t 0), none⟩, .o ⟨(some 4), none, false, .call 91 [(.t 3), (.c (.int .i64 0)), (.c (.int .i64 3))], none⟩, .o ⟨(some 2), none, false, .mv (.t 4), (some [2])⟩]
def k72_2 : ACode := .seq (.region k72_o1) .ret
def k72_3 : ACode := .seq (.region k72_o0) k72_2
@[simp, simp ↓] theorem k72_2r : sR k72_2 k72_o1 .ret := yR rfl
@[simp, simp ↓] theorem k72_3r : sR k72_3 k72_o0 k72_2 := yR rfl
noncomputable abbrev k72_C : Orc → Cx := mkC Try.prog [] 72 5 [.tmp 2]
theorem k72_of0 : OfP0 Try.prog Try.f72 72 5 k72_C k72_3 := @ofP0 _ _ _ _ _ _ _ _ Try.func72 (by decide +kernel) rfl (by kernel_rfl) rfl (by kernel_rfl)
theorem isDimension_c (a : Int) (h : Heap) : ACalls Try.prog 72 [.int .i64 a] h (fun v h' => v = .bool (decide (0 ≤ a) && decide (a ≤ 3)) ∧ h' = h) := by
  refine k72_of0 rfl orc1_p fun I => ?_
  refine Run2.of I 1000 ?_
  simp -implicitDefEqProofs
noncomputable def o_isDimension : List AV → Option (Prop × AV) := tab (fun (x : Int) => match x with | a => [.int .i64 a]) (fun x => match x with | a => True) (fun x => match x with | a => .bool (decide (0 ≤ a) && decide (a ≤ 3)))
@[simp] theorem o_isDimension_e (a : Int) : o_isDimension [.int .i64 a] = some (True, .bool (decide (0 ≤ a) && decide (a ≤ 3))) := tab_at (enc := fun (x : Int) => match x with | a => [.int .i64 a]) (fun x y h => by
  simp at h; simp [h] <;> omega) _ _ a
theorem o_isDimension_k : Knows Try.prog 72 o_isDimension := tab_knows fun x hx h => by
  exact isDimension_c _ h
abbrev k120_o0 : List AJ := [.o ⟨(some 2), none, false, .mv (.c (.bool false)), (some [0])⟩]
abbrev k120_o1 : List AJ := [.o ⟨(some 3), none, false, .mv (.t 0), none⟩, .o ⟨(some 4), none, false, .call 91 [(.t 3), (.c (.int .i64 0)), (.c (.int .i64 1000))], none⟩, .o ⟨(some 2), none, false, .mv (.t 4), (some [2])⟩]
def k120_2 : ACode := .seq (.region k120_o1) .ret
def k120_3 : ACode := .seq (.region k120_o0) k120_2
@[simp, simp ↓] theorem k120_2r : sR k120_2 k120_o1 .ret := yR rfl
@[simp, simp ↓] theorem k120_3r : sR k120_3 k120_o0 k120_2 := yR rfl
noncomputable abbrev k120_C : Orc → Cx := mkC Try.prog [] 120 5 [.tmp 2]
theorem k120_of0 : OfP0 Try.prog Try.f120 120 5 k120_C k120_3 := @ofP0 _ _ _ _ _ _ _ _ Try.func120 (by decide +kernel) rfl (by kernel_rfl) rfl (by kernel_rfl)
theorem isTime_c (a : Int) (h : Heap) : ACalls Try.prog 120 [.int .i64 a] h (fun v h' => v = .bool (decide (0 ≤ a) && decide (a ≤ 1000)) ∧ h' = h) := by
  refine k120_of0 rfl orc1_p fun I => ?_
  refine Run2.of I 1000 ?_
  simp -implicitDefEqProofs
noncomputable def o_isTime : List AV → Option (Prop × AV) := tab (fun (x : Int) => match x with | a => [.int .i64 a]) (fun x => match x with | a => True) (fun x => match x with | a => .bool (decide (0 ≤ a) && decide (a ≤ 1000)))
@[simp] theorem o_isTime_e (a : Int) : o_isTime [.int .i64 a] = some (True, .bool (decide (0 ≤ a) && decide (a ≤ 1000))) := tab_at (enc := fun (x : Int) => match x with | a => [.int .i64 a]) (fun x y h => by
  simp at h; simp [h] <;> omega) _ _ a
theorem o_isTime_k : Knows Try.prog 120 o_isTime := tab_knows fun x hx h => by
  exact isTime_c _ h
abbrev k65_o0 : List AJ := [.o ⟨(some 2), none, false, .mv (.c (.bool false)), (some [0])⟩]
abbrev k65_o1 : List AJ := [.o ⟨(some 3), none, false, .mv (.t 0), none⟩, .o ⟨(some 4), none, false, .call 45 [(.t 3), (.c (.int .i64 0)), (.c (.int .i64 3))], none⟩, .o ⟨(some 2), none, false, .mv (.t 4), (some [2])⟩]
def k65_2 : ACode := .seq (.region k65_o1) .ret
def k65_3 : ACode := .seq (.region k65_o0) k65_2
@[simp, simp ↓] theorem k65_2r : sR k65_2 k65_o1 .ret := yR rfl
@[simp, simp ↓] theorem k65_3r : sR k65_3 k65_o0 k65_2 := yR rfl
noncomputable abbrev k65_C : Orc → Cx := mkC Try.prog [] 65 5 [.tmp 2]
theorem k65_of0 : OfP0 Try.prog Try.f65 65 5 k65_C k65_3 := @ofP0 _ _ _ _ _ _ _ _ Try.func65 (by decide +kernel) rfl (by kernel_rfl) rfl (by kernel_rfl)
theorem l05Dimension_c (a : Int) (h : Heap) : ACalls Try.prog 65 [.int .i64 a] h (fun v h' => v = .bool (decide (0 ≤ a) && decide (a ≤ 3)) ∧ h' = h) := by
  refine k65_of0 rfl orc1_p fun I => ?_
  refine Run2.of I 1000 ?_
  simp -implicitDefEqProofs
noncomputable def o_l05Dimension : List AV → Option (Prop × AV) := tab (fun (x : Int) => match x with | a => [.int .i64 a]) (fun x => match x with | a => True) (fun x => match x with | a => .bool (decide (0 ≤ a) && decide (a ≤ 3)))
@[simp] theorem o_l05Dimension_e (a : Int) : o_l05Dimension [.int .i64 a] = some (True, .bool (decide (0 ≤ a) && decide (a ≤ 3))) := tab_at (enc := fun (x : Int) => match x with | a => [.int .i64 a]) (fun x y h => by
  simp at h; simp [h] <;> omega) _ _ a
theorem o_l05Dimension_k : Knows Try.prog 65 o_l05Dimension := tab_knows fun x hx h => by
  exact l05Dimension_c _ h
abbrev k117_o0 : List AJ := [.o ⟨(some 2), none, false, .mv (.c (.bool false)), (some [0])⟩]
abbrev k117_o1 : List AJ := [.o ⟨(some 3), none, false, .mv (.t 0), none⟩, .o ⟨(some 4), none, false, .call 45 [(.t 3), (.c (.int .i64 0)), (.c (.int .i64 1000))], none⟩, .o ⟨(some 2), none, false, .mv (.t 4), (some [2])⟩]
def k117_2 : ACode := .seq (.region k117_o1) .ret
def k117_3 : ACode := .seq (.region k117_o0) k117_2
@[simp, simp ↓] theorem k117_2r : sR k117_2 k117_o1 .ret := yR rfl
@[simp, simp ↓] theorem k117_3r : sR k117_3 k117_o0 k117_2 := yR rfl
noncomputable abbrev k117_C : Orc → Cx := mkC Try.prog [] 117 5 [.tmp 2]
theorem k117_of0 : OfP0 Try.prog Try.f117 117 5 k117_C k117_3 := @ofP0 _ _ _ _ _ _ _ _ Try.func117 (by decide +kernel) rfl (by kernel_rfl) rfl (by kernel_rfl)
theorem l21Time_c (a : Int) (h : Heap) : ACalls Try.prog 117 [.int .i64 a] h (fun v h' => v = .bool (decide (0 ≤ a) && decide (a ≤ 1000)) ∧ h' = h) := by
  refine k117_of0 rfl orc1_p fun I => ?_
  refine Run2.of I 1000 ?_
  simp -implicitDefEqProofs
noncomputable def o_l21Time : List AV → Option (Prop × AV) := tab (fun (x : Int) => match x with | a => [.int .i64 a]) (fun x => match x with | a => True) (fun x => match x with | a => .bool (decide (0 ≤ a) && decide (a ≤ 1000)))
@[simp] theorem o_l21Time_e (a : Int) : o_l21Time [.int .i64 a] = some (True, .bool (decide (0 ≤ a) && decide (a ≤ 1000))) := tab_at (enc := fun (x : Int) => match x with | a => [.int .i64 a]) (fun x y h => by
  simp at h; simp [h] <;> omega) _ _ a
theorem o_l21Time_k : Knows Try.prog 117 o_l21Time := tab_knows fun x hx h => by
  exact l21Time_c _ h
def T.en (x : T) : Int := if x.s = -1 then 1001 else x.s
abbrev k156_o0 : List AJ := [.o ⟨(some 1), none, false, .box false 3 (.t 0), none⟩, .o ⟨(some 2), none, false, .mv (.c (.int .i64 0)), (some [1])⟩]
abbrev k156_o1 : List AJ := [.o ⟨(some 3), none, false, .fieldA 2 (.t 1), none⟩, .o ⟨(some 4), none, false, .load 1 false (.t 3), none⟩, .o ⟨(some 5), none, false, .bin .eql (.t 4) (.c (.int .i64 (-1))), (some [1, 5])⟩]
abbrev k156_o2 : List AJ := [.o ⟨(some 2), none, false, .mv (.c (.int .i64 1001)), (some [2])⟩]
def k156_3 : ACode := .seq (.region k156_o2) .ret
def k156_4 : ACode := .cond (.t 5) k156_3 .skip
def k156_5 : ACode := .seq (.region k156_o1) k156_4
abbrev k156_o3 : List AJ := [.o ⟨(some 6), none, false, .fieldA 2 (.t 1), none⟩, .o ⟨(some 7), none, false, .load 1 false (.t 6), none⟩, .o ⟨(some 2), none, false, .mv (.t 7), (some [2])⟩]
def k156_7 : ACode := .seq (.region k156_o3) .ret
def k156_8 : ACode := .seq k156_5 k156_7
def k156_9 : ACode := .seq (.region k156_o0) k156_8
@[simp, simp ↓] theorem k156_3r : sR k156_3 k156_o2 .ret := yR rfl
@[simp, simp ↓] theorem k156_4r : rC k156_4 (.t 5) k156_3 .skip := zC rfl
@[simp, simp ↓] theorem k156_5r : sR k156_5 k156_o1 k156_4 := yR rfl
@[simp, simp ↓] theorem k156_7r : sR k156_7 k156_o3 .ret := yR rfl
@[simp, simp ↓] theorem k156_8r : rS k156_8 k156_5 k156_7 := zS rfl
@[simp, simp ↓] theorem k156_9r : sR k156_9 k156_o0 k156_8 := yR rfl
noncomputable abbrev k156_C : Orc → Cx := mkC Try.prog [] 156 8 [.tmp 2]
theorem k156_of0 : OfP0 Try.prog Try.f156 156 8 k156_C k156_9 := @ofP0 _ _ _ _ _ _ _ _ Try.func156 (by decide +kernel) rfl (by kernel_rfl) rfl (by kernel_rfl)
theorem end_c (x : T) (h : Heap) : ACalls Try.prog 156 [x.av] h (fun v h' => v = .int .i64 x.en ∧ h' = h) := by
  refine k156_of0 rfl noPure fun I => ?_
  refine Run2.of I 1000 ?_
  simp -implicitDefEqProofs [T.en]
  grind
noncomputable def o_end : List AV → Option (Prop × AV) := tab (fun (x : Int × Int × Int) => match x with | (f, t, s) => [.agg [.int .i64 f, .int .i64 t, .int .i64 s]]) (fun x => match x with | (f, t, s) => True) (fun x => match x with | (f, t, s) => .int .i64 (T.en ⟨f, t, s⟩))
@[simp] theorem o_end_e (f : Int) (t : Int) (s : Int) : o_end [.agg [.int .i64 f, .int .i64 t, .int .i64 s]] = some (True, .int .i64 (T.en ⟨f, t, s⟩)) := tab_at (enc := fun (x : Int × Int × Int) => match x with | (f, t, s) => [.agg [.int .i64 f, .int .i64 t, .int .i64 s]]) (fun x y h => by
  obtain ⟨f1, t1, s1⟩ := x; obtain ⟨f2, t2, s2⟩ := y; simp at h; simp [h] <;> omega) _ _ (f, t, s)
theorem o_end_k : Knows Try.prog 156 o_end := tab_knows fun x hx h => by
  obtain ⟨f, t, s⟩ := x; exact end_c ⟨f, t, s⟩ h
noncomputable def orc2 : List (Nat × (List AV → Option (Prop × AV))) := (72, o_isDimension) :: (120, o_isTime) :: (65, o_l05Dimension) :: (117, o_l21Time) :: (156, o_end) :: (129, o_compare) :: (128, o_or3) :: orc1
theorem orc2_p : Pure Try.prog (lk orc2) := (lk_pure o_isDimension_k (lk_pure o_isTime_k (lk_pure o_l05Dimension_k (lk_pure o_l21Time_k (lk_pure o_end_k (lk_pure o_compare_k (lk_pure o_or3_k orc1_p)))))))
@[simp] theorem orc2_l (b : Bool) (g : FuncId) (l : List AV) : lk orc2 b g l = if g = 72 then o_isDimension l else if g = 120 then o_isTime l else if g = 65 then o_l05Dimension l else if g = 117 then o_l21Time l else if g = 156 then o_end l else if g = 129 then o_compare l else if g = 128 then o_or3 l else lk orc1 b g l := nr rfl
/-- What the program's comparison of two bars gives. -/
def cmpB (x y : T) : Int := orI [cmpI x.f y.f, cmpI x.t y.t, cmpI x.en y.en]
def T.lt (a b : T) : Prop := a.f < b.f ∨ a.f = b.f ∧ (a.t < b.t ∨ a.t = b.t ∧ a.en < b.en)
instance (a b : T) : Decidable (a.lt b) := by unfold T.lt; infer_instance
theorem cmpB_pos (x y : T) : 0 < cmpB x y ↔ y.lt x := by
  simp only [cmpB, orI, cmpI, T.lt]
  grind
theorem cmpB_neg (x y : T) : cmpB x y < 0 ↔ x.lt y := by
  simp only [cmpB, orI, cmpI, T.lt]
  grind
abbrev k121_o0 : List AJ := [.o ⟨(some 2), none, false, .box false 3 (.t 0), none⟩, .o ⟨(some 3), none, false, .box false 3 (.t 1), none⟩, .o ⟨(some 4), none, false, .mv (.c (.int .i64 0)), (some [2, 3])⟩]
abbrev k121_o1 : List AI := [⟨(some 5), none, false, .fieldA 0 (.t 2), none⟩, ⟨(some 6), none, false, .load 1 false (.t 5), none⟩, ⟨(some 7), none, false, .fieldA 0 (.t 3), none⟩, ⟨(some 8), none, false, .load 1 false (.t 7), none⟩, ⟨(some 9), none, false, .call 129 [(.t 6), (.t 8)], none⟩, ⟨(some 10), none, false, .fieldA 1 (.t 2), none⟩, ⟨(some 11), none, false, .load 1 false (.t 10), none⟩, ⟨(some 12), none, false, .fieldA 1 (.t 3), none⟩, ⟨(some 13), none, false, .load 1 false (.t 12), none⟩, ⟨(some 14), none, false, .call 129 [(.t 11), (.t 13)], none⟩, ⟨(some 15), none, false, .load 3 true (.t 2), none⟩, ⟨(some 16), none, false, .call 156 [(.t 15)], none⟩, ⟨(some 17), none, false, .load 3 true (.t 3), none⟩, ⟨(some 18), none, false, .call 156 [(.t 17)], (some [9, 14, 16, 18])⟩, ⟨(some 19), none, false, .call 129 [(.t 16), (.t 18)], none⟩, ⟨(some 20), none, false, .bsl false 1 [(.t 9), (.t 14), (.t 19)], none⟩, ⟨(some 21), none, false, .call 128 [(.t 20)], none⟩, ⟨(some 4), none, false, .mv (.t 21), (some [4])⟩]
def k121_2 : ACode := .seq (.draw k121_o1 [] rfl) .ret
def k121_3 : ACode := .seq (.region k121_o0) k121_2
@[simp, simp ↓] theorem k121_2r : sD k121_2 k121_o1 [] .ret := yD rfl
@[simp, simp ↓] theorem k121_3r : sR k121_3 k121_o0 k121_2 := yR rfl
noncomputable abbrev k121_C : Orc → Cx := mkC Try.prog [] 121 22 [.tmp 4]
theorem k121_of0 : OfP0 Try.prog Try.f121 121 22 k121_C k121_3 := @ofP0 _ _ _ _ _ _ _ _ Try.func121 (by decide +kernel) rfl (by kernel_rfl) rfl (by kernel_rfl)
theorem compareBars_c (x y : T) (h : Heap) : ACalls Try.prog 121 [x.av, y.av] h (fun v h' => v = .int .i64 (cmpB x y) ∧ h' = h) := by
  refine k121_of0 rfl orc2_p fun I => ?_
  refine Run2.of I 1000 ?_
  simp -implicitDefEqProofs [cmpB]
noncomputable def o_compareBars : List AV → Option (Prop × AV) := tab (fun (x : Int × Int × Int × Int × Int × Int) => match x with | (f, t, s, f', t', s') => [.agg [.int .i64 f, .int .i64 t, .int .i64 s], .agg [.int .i64 f', .int .i64 t', .int .i64 s']]) (fun x => match x with | (f, t, s, f', t', s') => True) (fun x => match x with | (f, t, s, f', t', s') => .int .i64 (cmpB ⟨f, t, s⟩ ⟨f', t', s'⟩))
@[simp] theorem o_compareBars_e (f : Int) (t : Int) (s : Int) (f' : Int) (t' : Int) (s' : Int) : o_compareBars [.agg [.int .i64 f, .int .i64 t, .int .i64 s], .agg [.int .i64 f', .int .i64 t', .int .i64 s']] = some (True, .int .i64 (cmpB ⟨f, t, s⟩ ⟨f', t', s'⟩)) := tab_at (enc := fun (x : Int × Int × Int × Int × Int × Int) => match x with | (f, t, s, f', t', s') => [.agg [.int .i64 f, .int .i64 t, .int .i64 s], .agg [.int .i64 f', .int .i64 t', .int .i64 s']]) (fun x y h => by
  obtain ⟨f1, t1, s1, f'1, t'1, s'1⟩ := x; obtain ⟨f2, t2, s2, f'2, t'2, s'2⟩ := y; simp at h; simp [h] <;> omega) _ _ (f, t, s, f', t', s')
theorem o_compareBars_k : Knows Try.prog 121 o_compareBars := tab_knows fun x hx h => by
  obtain ⟨f, t, s, f', t', s'⟩ := x; exact compareBars_c ⟨f, t, s⟩ ⟨f', t', s'⟩ h
/-- What the reference asks of two bars. -/
def T.bef (a b : T) : Prop := a.f < b.f ∨ a.f = b.f ∧ (a.t < b.t ∨ a.t = b.t ∧ ¬ a.s = -1 ∧ (b.s = -1 ∨ a.s < b.s))
instance (a b : T) : Decidable (a.bef b) := by unfold T.bef; infer_instance
abbrev k118_o0 : List AJ := [.o ⟨(some 4), none, false, .mv (.c (.bool false)), (some [0, 1])⟩]
abbrev k118_o1 : List AI := [⟨(some 5), none, false, .mv (.t 0), none⟩, ⟨(some 6), none, false, .nilchk (.t 5), none⟩, ⟨(some 7), none, false, .fieldA 0 (.t 6), none⟩, ⟨(some 8), none, false, .load 1 false (.t 7), none⟩, ⟨(some 9), none, false, .mv (.t 1), none⟩, ⟨(some 10), none, false, .nilchk (.t 9), none⟩, ⟨(some 11), none, false, .fieldA 0 (.t 10), none⟩, ⟨(some 12), none, false, .load 1 false (.t 11), none⟩, ⟨(some 13), none, false, .bin .neq (.t 8) (.t 12), (some [0, 1, 13])⟩]
abbrev k118_o2 : List AI := [⟨(some 14), none, false, .mv (.t 0), none⟩, ⟨(some 15), none, false, .nilchk (.t 14), none⟩, ⟨(some 16), none, false, .fieldA 0 (.t 15), none⟩, ⟨(some 17), none, false, .load 1 false (.t 16), none⟩, ⟨(some 18), none, false, .mv (.t 1), none⟩, ⟨(some 19), none, false, .nilchk (.t 18), none⟩, ⟨(some 20), none, false, .fieldA 0 (.t 19), none⟩, ⟨(some 21), none, false, .load 1 false (.t 20), none⟩, ⟨(some 22), none, false, .bin .lss (.t 17) (.t 21), none⟩, ⟨(some 4), none, false, .mv (.t 22), (some [4])⟩]
def k118_3 : ACode := .seq (.draw k118_o2 [] rfl) .ret
def k118_4 : ACode := .cond (.t 13) k118_3 .skip
def k118_5 : ACode := .seq (.draw k118_o1 [] rfl) k118_4
abbrev k118_o3 : List AI := [⟨(some 23), none, false, .mv (.t 0), none⟩, ⟨(some 24), none, false, .nilchk (.t 23), none⟩, ⟨(some 25), none, false, .fieldA 1 (.t 24), none⟩, ⟨(some 26), none, false, .load 1 false (.t 25), none⟩, ⟨(some 27), none, false, .mv (.t 1), none⟩, ⟨(some 28), none, false, .nilchk (.t 27), none⟩, ⟨(some 29), none, false, .fieldA 1 (.t 28), none⟩, ⟨(some 30), none, false, .load 1 false (.t 29), none⟩, ⟨(some 31), none, false, .bin .neq (.t 26) (.t 30), (some [0, 1, 31])⟩]
abbrev k118_o4 : List AI := [⟨(some 32), none, false, .mv (.t 0), none⟩, ⟨(some 33), none, false, .nilchk (.t 32), none⟩, ⟨(some 34), none, false, .fieldA 1 (.t 33), none⟩, ⟨(some 35), none, false, .load 1 false (.t 34), none⟩, ⟨(some 36), none, false, .mv (.t 1), none⟩, ⟨(some 37), none, false, .nilchk (.t 36), none⟩, ⟨(some 38), none, false, .fieldA 1 (.t 37), none⟩, ⟨(some 39), none, false, .load 1 false (.t 38), none⟩, ⟨(some 40), none, false, .bin .lss (.t 35) (.t 39), none⟩, ⟨(some 4), none, false, .mv (.t 40), (some [4])⟩]
def k118_8 : ACode := .seq (.draw k118_o4 [] rfl) .ret
def k118_9 : ACode := .cond (.t 31) k118_8 .skip
def k118_10 : ACode := .seq (.draw k118_o3 [] rfl) k118_9
abbrev k118_o5 : List AI := [⟨(some 41), none, false, .mv (.t 0), none⟩, ⟨(some 42), none, false, .nilchk (.t 41), none⟩, ⟨(some 43), none, false, .fieldA 2 (.t 42), none⟩, ⟨(some 44), none, false, .load 1 false (.t 43), none⟩, ⟨(some 45), none, false, .bin .neq (.t 44) (.c (.int .i64 (-1))), none⟩, ⟨(some 46), none, false, .mv (.t 45), none⟩, ⟨(some 47), (some (46, true)), false, .mv (.t 1), none⟩, ⟨(some 48), (some (46, true)), false, .nilchk (.t 47), none⟩, ⟨(some 49), (some (46, true)), false, .fieldA 2 (.t 48), none⟩, ⟨(some 50), (some (46, true)), false, .load 1 false (.t 49), (some [0, 1, 46, 50])⟩, ⟨(some 51), (some (46, true)), false, .bin .eql (.t 50) (.c (.int .i64 (-1))), none⟩, ⟨(some 52), (some (46, true)), false, .mv (.t 51), none⟩, ⟨(some 53), (some (52, false)), false, .mv (.t 0), none⟩, ⟨(some 54), (some (52, false)), false, .nilchk (.t 53), none⟩, ⟨(some 55), (some (52, false)), false, .fieldA 2 (.t 54), none⟩, ⟨(some 56), (some (52, false)), false, .load 1 false (.t 55), none⟩, ⟨(some 57), (some (52, false)), false, .mv (.t 1), (some [46, 52, 56, 57])⟩, ⟨(some 58), (some (52, false)), false, .nilchk (.t 57), none⟩, ⟨(some 59), (some (52, false)), false, .fieldA 2 (.t 58), none⟩, ⟨(some 60), (some (52, false)), false, .load 1 false (.t 59), none⟩, ⟨(some 61), (some (52, false)), false, .bin .lss (.t 56) (.t 60), none⟩, ⟨(some 62), (some (46, true)), false, .pick (.t 52) (.c (.bool true)) (.t 61), none⟩, ⟨(some 63), none, false, .pick (.t 46) (.t 62) (.c (.bool false)), none⟩, ⟨(some 4), none, false, .mv (.t 63), (some [4])⟩]
def k118_12 : ACode := .seq (.draw k118_o5 [] rfl) .ret
def k118_13 : ACode := .seq k118_10 k118_12
def k118_14 : ACode := .seq k118_5 k118_13
def k118_15 : ACode := .seq (.region k118_o0) k118_14
@[simp, simp ↓] theorem k118_3r : sD k118_3 k118_o2 [] .ret := yD rfl
@[simp, simp ↓] theorem k118_4r : rC k118_4 (.t 13) k118_3 .skip := zC rfl
@[simp, simp ↓] theorem k118_5r : sD k118_5 k118_o1 [] k118_4 := yD rfl
@[simp, simp ↓] theorem k118_8r : sD k118_8 k118_o4 [] .ret := yD rfl
@[simp, simp ↓] theorem k118_9r : rC k118_9 (.t 31) k118_8 .skip := zC rfl
@[simp, simp ↓] theorem k118_10r : sD k118_10 k118_o3 [] k118_9 := yD rfl
@[simp, simp ↓] theorem k118_12r : sD k118_12 k118_o5 [] .ret := yD rfl
@[simp, simp ↓] theorem k118_13r : rS k118_13 k118_10 k118_12 := zS rfl
@[simp, simp ↓] theorem k118_14r : rS k118_14 k118_5 k118_13 := zS rfl
@[simp, simp ↓] theorem k118_15r : sR k118_15 k118_o0 k118_14 := yR rfl
noncomputable abbrev k118_C : Orc → Cx := mkC Try.prog [] 118 64 [.tmp 4]
theorem k118_of0 : OfP0 Try.prog Try.f118 118 64 k118_C k118_15 := @ofP0 _ _ _ _ _ _ _ _ Try.func118 (by decide +kernel) rfl (by kernel_rfl) rfl (by kernel_rfl)
theorem l21Before_c (x y : T) (h : Heap) : ACalls Try.prog 118 [.ip [.int .i64 x.f, .int .i64 x.t, .int .i64 x.s], .ip [.int .i64 y.f, .int .i64 y.t, .int .i64 y.s]] h (fun v h' => v = .bool (decide (x.bef y)) ∧ h' = h) := by
  refine k118_of0 rfl noPure fun I => ?_
  refine Run2.of I 1000 ?_
  simp -implicitDefEqProofs [T.bef]
  grind
noncomputable def o_l21Before : List AV → Option (Prop × AV) := tab (fun (x : Int × Int × Int × Int × Int × Int) => match x with | (f, t, s, f', t', s') => [.ip [.int .i64 f, .int .i64 t, .int .i64 s], .ip [.int .i64 f', .int .i64 t', .int .i64 s']]) (fun x => match x with | (f, t, s, f', t', s') => True) (fun x => match x with | (f, t, s, f', t', s') => .bool (decide (T.bef ⟨f, t, s⟩ ⟨f', t', s'⟩)))
@[simp] theorem o_l21Before_e (f : Int) (t : Int) (s : Int) (f' : Int) (t' : Int) (s' : Int) : o_l21Before [.ip [.int .i64 f, .int .i64 t, .int .i64 s], .ip [.int .i64 f', .int .i64 t', .int .i64 s']] = some (True, .bool (decide (T.bef ⟨f, t, s⟩ ⟨f', t', s'⟩))) := tab_at (enc := fun (x : Int × Int × Int × Int × Int × Int) => match x with | (f, t, s, f', t', s') => [.ip [.int .i64 f, .int .i64 t, .int .i64 s], .ip [.int .i64 f', .int .i64 t', .int .i64 s']]) (fun x y h => by
  obtain ⟨f1, t1, s1, f'1, t'1, s'1⟩ := x; obtain ⟨f2, t2, s2, f'2, t'2, s'2⟩ := y; simp at h; simp [h] <;> omega) _ _ (f, t, s, f', t', s')
theorem o_l21Before_k : Knows Try.prog 118 o_l21Before := tab_knows fun x hx h => by
  obtain ⟨f, t, s, f', t', s'⟩ := x; exact l21Before_c ⟨f, t, s⟩ ⟨f', t', s'⟩ h
noncomputable def orc3 : List (Nat × (List AV → Option (Prop × AV))) := (121, o_compareBars) :: (118, o_l21Before) :: orc2
theorem orc3_p : Pure Try.prog (lk orc3) := (lk_pure o_compareBars_k (lk_pure o_l21Before_k orc2_p))
@[simp] theorem orc3_l (b : Bool) (g : FuncId) (l : List AV) : lk orc3 b g l = if g = 121 then o_compareBars l else if g = 118 then o_l21Before l else lk orc2 b g l := nr rfl
end Go.AG
