/- Small functions of complexes, and what they give. No statement is made here. -/
import Derived.Test.YtnbllllkaohfoaaDoorFilA
import Derived.Test.YtnbllllkaohfoaaDoorAGLists2
namespace Go.AG
open Go.Proofs Go.Proofs.YtnbllllkaohfoaaDoor
set_option linter.unusedSimpArgs false
set_option linter.unusedVariables false
set_option maxRecDepth 4000
abbrev k75_o0 : List AJ := [.o ⟨(some 6), none, false, .mv (.c (.bool false)), (some [0, 1, 2])⟩]
abbrev k75_o1 : List AJ := [.o ⟨(some 7), none, false, .mv (.t 0), none⟩, .o ⟨(some 8), none, false, .mv (.t 1), none⟩, .o ⟨(some 9), none, false, .bin .geq (.t 7) (.t 8), none⟩, .o ⟨(some 10), none, false, .mv (.t 9), none⟩, .o ⟨(some 11), (some (10, true)), false, .mv (.t 0), none⟩, .o ⟨(some 12), (some (10, true)), false, .mv (.t 2), none⟩, .o ⟨(some 13), (some (10, true)), false, .bin .leq (.t 11) (.t 12), none⟩, .o ⟨(some 14), none, false, .pick (.t 10) (.t 13) (.c (.bool false)), none⟩, .o ⟨(some 6), none, false, .mv (.t 14), (some [6])⟩]
def k75_2 : ACode := .seq (.region k75_o1) .ret
def k75_3 : ACode := .seq (.region k75_o0) k75_2
@[simp, simp ↓] theorem k75_2r : sR k75_2 k75_o1 .ret := yR rfl
@[simp, simp ↓] theorem k75_3r : sR k75_3 k75_o0 k75_2 := yR rfl
noncomputable abbrev k75_C : Orc → Cx := mkC Tryd.prog [] 75 15 [.tmp 6]
theorem k75_of0 : OfP0 Tryd.prog Tryd.f75 75 15 k75_C k75_3 := @ofP0 _ _ _ _ _ _ _ _ Tryd.func75 (by decide +kernel) rfl (by kernel_rfl) rfl (by kernel_rfl)
theorem l00In_c (a b c : Int) (h : Heap) : ACalls Tryd.prog 75 [.int .i64 a, .int .i64 b, .int .i64 c] h (fun v h' => v = .bool (decide (b ≤ a) && decide (a ≤ c)) ∧ h' = h) := by
  refine k75_of0 rfl noPure fun I => ?_
  refine Run2.of I 1000 ?_
  simp -implicitDefEqProofs
  grind
noncomputable def o_l00In : List AV → Option (Prop × AV) := tab (fun (x : Int × Int × Int) => match x with | (a, b, c) => [.int .i64 a, .int .i64 b, .int .i64 c]) (fun x => match x with | (a, b, c) => True) (fun x => match x with | (a, b, c) => .bool (decide (b ≤ a) && decide (a ≤ c)))
@[simp] theorem o_l00In_e (a : Int) (b : Int) (c : Int) : o_l00In [.int .i64 a, .int .i64 b, .int .i64 c] = some (True, .bool (decide (b ≤ a) && decide (a ≤ c))) := tab_at (enc := fun (x : Int × Int × Int) => match x with | (a, b, c) => [.int .i64 a, .int .i64 b, .int .i64 c]) (fun x y h => by
  obtain ⟨a1, b1, c1⟩ := x; obtain ⟨a2, b2, c2⟩ := y; simp at h; simp [h] <;> omega) _ _ (a, b, c)
theorem o_l00In_k : Knows Tryd.prog 75 o_l00In := tab_knows fun x hx h => by
  obtain ⟨a, b, c⟩ := x; exact l00In_c _ _ _ h
abbrev k72_o0 : List AJ := [.o ⟨(some 6), none, false, .mv (.c (.bool false)), (some [0, 1, 2])⟩]
abbrev k72_o1 : List AJ := [.o ⟨(some 7), none, false, .mv (.t 0), none⟩, .o ⟨(some 8), none, false, .mv (.t 1), none⟩, .o ⟨(some 9), none, false, .bin .geq (.t 7) (.t 8), none⟩, .o ⟨(some 10), none, false, .mv (.t 9), none⟩, .o ⟨(some 11), (some (10, true)), false, .mv (.t 0), none⟩, .o ⟨(some 12), (some (10, true)), false, .mv (.t 2), none⟩, .o ⟨(some 13), (some (10, true)), false, .bin .leq (.t 11) (.t 12), none⟩, .o ⟨(some 14), none, false, .pick (.t 10) (.t 13) (.c (.bool false)), none⟩, .o ⟨(some 6), none, false, .mv (.t 14), (some [6])⟩]
def k72_2 : ACode := .seq (.region k72_o1) .ret
def k72_3 : ACode := .seq (.region k72_o0) k72_2
@[simp, simp ↓] theorem k72_2r : sR k72_2 k72_o1 .ret := yR rfl
@[simp, simp ↓] theorem k72_3r : sR k72_3 k72_o0 k72_2 := yR rfl
noncomputable abbrev k72_C : Orc → Cx := mkC Tryd.prog [] 72 15 [.tmp 6]
theorem k72_of0 : OfP0 Tryd.prog Tryd.f72 72 15 k72_C k72_3 := @ofP0 _ _ _ _ _ _ _ _ Tryd.func72 (by decide +kernel) rfl (by kernel_rfl) rfl (by kernel_rfl)
theorem within_c (a b c : Int) (h : Heap) : ACalls Tryd.prog 72 [.int .i64 a, .int .i64 b, .int .i64 c] h (fun v h' => v = .bool (decide (b ≤ a) && decide (a ≤ c)) ∧ h' = h) := by
  refine k72_of0 rfl noPure fun I => ?_
  refine Run2.of I 1000 ?_
  simp -implicitDefEqProofs
  grind
noncomputable def o_within : List AV → Option (Prop × AV) := tab (fun (x : Int × Int × Int) => match x with | (a, b, c) => [.int .i64 a, .int .i64 b, .int .i64 c]) (fun x => match x with | (a, b, c) => True) (fun x => match x with | (a, b, c) => .bool (decide (b ≤ a) && decide (a ≤ c)))
@[simp] theorem o_within_e (a : Int) (b : Int) (c : Int) : o_within [.int .i64 a, .int .i64 b, .int .i64 c] = some (True, .bool (decide (b ≤ a) && decide (a ≤ c))) := tab_at (enc := fun (x : Int × Int × Int) => match x with | (a, b, c) => [.int .i64 a, .int .i64 b, .int .i64 c]) (fun x y h => by
  obtain ⟨a1, b1, c1⟩ := x; obtain ⟨a2, b2, c2⟩ := y; simp at h; simp [h] <;> omega) _ _ (a, b, c)
theorem o_within_k : Knows Tryd.prog 72 o_within := tab_knows fun x hx h => by
  obtain ⟨a, b, c⟩ := x; exact within_c _ _ _ h
abbrev k95_o0 : List AJ := [.o ⟨(some 2), none, false, .mv (.c (.bool false)), (some [0])⟩]
abbrev k95_o1 : List AJ := [.o ⟨(some 3), none, false, .mv (.t 0), none⟩, .o ⟨(some 4), none, false, .mv (.t 0), none⟩, .o ⟨(some 5), none, false, .bin .neq (.t 3) (.t 4), none⟩, .o ⟨(some 2), none, false, .mv (.t 5), (some [2])⟩]
def k95_2 : ACode := .seq (.region k95_o1) .ret
def k95_3 : ACode := .seq (.region k95_o0) k95_2
@[simp, simp ↓] theorem k95_2r : sR k95_2 k95_o1 .ret := yR rfl
@[simp, simp ↓] theorem k95_3r : sR k95_3 k95_o0 k95_2 := yR rfl
noncomputable abbrev k95_C : Orc → Cx := mkC Tryd.prog [] 95 6 [.tmp 2]
theorem k95_of0 : OfP0 Tryd.prog Tryd.f95 95 6 k95_C k95_3 := @ofP0 _ _ _ _ _ _ _ _ Tryd.func95 (by decide +kernel) rfl (by kernel_rfl) rfl (by kernel_rfl)
theorem isNaN_c (a : Int) (h : Heap) : ACalls Tryd.prog 95 [.int .i64 a] h (fun v h' => v = .bool false ∧ h' = h) := by
  refine k95_of0 rfl noPure fun I => ?_
  refine Run2.of I 1000 ?_
  simp -implicitDefEqProofs
noncomputable def o_isNaN : List AV → Option (Prop × AV) := tab (fun (x : Int) => match x with | a => [.int .i64 a]) (fun x => match x with | a => True) (fun x => match x with | a => .bool false)
@[simp] theorem o_isNaN_e (a : Int) : o_isNaN [.int .i64 a] = some (True, .bool false) := tab_at (enc := fun (x : Int) => match x with | a => [.int .i64 a]) (fun x y h => by
  simp at h; simp [h] <;> omega) _ _ a
theorem o_isNaN_k : Knows Tryd.prog 95 o_isNaN := tab_knows fun x hx h => by
  exact isNaN_c _ h
abbrev k134_o0 : List AJ := [.o ⟨(some 2), none, false, .mv (.c (.bool false)), (some [0])⟩]
abbrev k134_o1 : List AJ := [.o ⟨(some 3), none, false, .mv (.t 0), none⟩, .o ⟨(some 4), none, false, .mv (.t 0), none⟩, .o ⟨(some 5), none, false, .bin .neq (.t 3) (.t 4), none⟩, .o ⟨(some 2), none, false, .mv (.t 5), (some [2])⟩]
def k134_2 : ACode := .seq (.region k134_o1) .ret
def k134_3 : ACode := .seq (.region k134_o0) k134_2
@[simp, simp ↓] theorem k134_2r : sR k134_2 k134_o1 .ret := yR rfl
@[simp, simp ↓] theorem k134_3r : sR k134_3 k134_o0 k134_2 := yR rfl
noncomputable abbrev k134_C : Orc → Cx := mkC Tryd.prog [] 134 6 [.tmp 2]
theorem k134_of0 : OfP0 Tryd.prog Tryd.f134 134 6 k134_C k134_3 := @ofP0 _ _ _ _ _ _ _ _ Tryd.func134 (by decide +kernel) rfl (by kernel_rfl) rfl (by kernel_rfl)
theorem isNaNi_c (a : Int) (h : Heap) : ACalls Tryd.prog 134 [.int .i64 a] h (fun v h' => v = .bool false ∧ h' = h) := by
  refine k134_of0 rfl noPure fun I => ?_
  refine Run2.of I 1000 ?_
  simp -implicitDefEqProofs
noncomputable def o_isNaNi : List AV → Option (Prop × AV) := tab (fun (x : Int) => match x with | a => [.int .i64 a]) (fun x => match x with | a => True) (fun x => match x with | a => .bool false)
@[simp] theorem o_isNaNi_e (a : Int) : o_isNaNi [.int .i64 a] = some (True, .bool false) := tab_at (enc := fun (x : Int) => match x with | a => [.int .i64 a]) (fun x y h => by
  simp at h; simp [h] <;> omega) _ _ a
theorem o_isNaNi_k : Knows Tryd.prog 134 o_isNaNi := tab_knows fun x hx h => by
  exact isNaNi_c _ h
noncomputable def orc1 : List (Nat × (List AV → Option (Prop × AV))) := (75, o_l00In) :: (72, o_within) :: (95, o_isNaN) :: (134, o_isNaNi) :: []
theorem orc1_p : Pure Tryd.prog (lk orc1) := (lk_pure o_l00In_k (lk_pure o_within_k (lk_pure o_isNaN_k (lk_pure o_isNaNi_k lk_pure0))))
@[simp] theorem orc1_l (b : Bool) (g : FuncId) (l : List AV) : lk orc1 b g l = if g = 75 then o_l00In l else if g = 72 then o_within l else if g = 95 then o_isNaN l else if g = 134 then o_isNaNi l else none := nr rfl
abbrev k78_o0 : List AJ := [.o ⟨(some 4), none, false, .mv (.c (.int .i64 0)), (some [0, 1])⟩]
abbrev k78_o1 : List AJ := [.o ⟨(some 7), none, false, .mv (.t 0), none⟩, .o ⟨(some 8), none, false, .call 95 [(.t 7)], none⟩, .o ⟨(some 5), none, false, .mv (.t 8), (some [0, 1, 5])⟩]
abbrev k78_o2 : List AJ := [.o ⟨(some 9), none, false, .mv (.t 1), none⟩, .o ⟨(some 10), none, false, .call 95 [(.t 9)], none⟩, .o ⟨(some 6), none, false, .mv (.t 10), (some [0, 1, 5, 6])⟩]
abbrev k78_o3 : List AJ := [.o ⟨(some 11), none, false, .mv (.t 5), (some [0, 1, 6, 11])⟩]
abbrev k78_o4 : List AJ := [.o ⟨(some 12), none, false, .mv (.t 6), (some [12])⟩]
abbrev k78_o5 : List AJ := [.o ⟨(some 4), none, false, .mv (.c (.int .i64 0)), (some [4])⟩]
def k78_6 : ACode := .seq (.region k78_o5) .ret
def k78_7 : ACode := .cond (.t 12) k78_6 .skip
def k78_8 : ACode := .seq (.region k78_o4) k78_7
abbrev k78_o6 : List AJ := [.o ⟨(some 4), none, false, .mv (.c (.int .i64 (-1))), (some [4])⟩]
def k78_10 : ACode := .seq (.region k78_o6) .ret
def k78_11 : ACode := .seq k78_8 k78_10
def k78_12 : ACode := .cond (.t 11) k78_11 .skip
def k78_13 : ACode := .seq (.region k78_o3) k78_12
abbrev k78_o7 : List AJ := [.o ⟨(some 13), none, false, .mv (.t 6), (some [0, 1, 13])⟩]
abbrev k78_o8 : List AJ := [.o ⟨(some 4), none, false, .mv (.c (.int .i64 1)), (some [4])⟩]
def k78_16 : ACode := .seq (.region k78_o8) .ret
def k78_17 : ACode := .cond (.t 13) k78_16 .skip
def k78_18 : ACode := .seq (.region k78_o7) k78_17
abbrev k78_o9 : List AJ := [.o ⟨(some 14), none, false, .mv (.t 0), none⟩, .o ⟨(some 15), none, false, .mv (.t 1), none⟩, .o ⟨(some 16), none, false, .bin .lss (.t 14) (.t 15), (some [0, 1, 16])⟩]
abbrev k78_o10 : List AJ := [.o ⟨(some 4), none, false, .mv (.c (.int .i64 (-1))), (some [4])⟩]
def k78_21 : ACode := .seq (.region k78_o10) .ret
def k78_22 : ACode := .cond (.t 16) k78_21 .skip
def k78_23 : ACode := .seq (.region k78_o9) k78_22
abbrev k78_o11 : List AJ := [.o ⟨(some 17), none, false, .mv (.t 0), none⟩, .o ⟨(some 18), none, false, .mv (.t 1), none⟩, .o ⟨(some 19), none, false, .bin .gtr (.t 17) (.t 18), (some [19])⟩]
abbrev k78_o12 : List AJ := [.o ⟨(some 4), none, false, .mv (.c (.int .i64 1)), (some [4])⟩]
def k78_26 : ACode := .seq (.region k78_o12) .ret
def k78_27 : ACode := .cond (.t 19) k78_26 .skip
def k78_28 : ACode := .seq (.region k78_o11) k78_27
abbrev k78_o13 : List AJ := [.o ⟨(some 4), none, false, .mv (.c (.int .i64 0)), (some [4])⟩]
def k78_30 : ACode := .seq (.region k78_o13) .ret
def k78_31 : ACode := .seq k78_28 k78_30
def k78_32 : ACode := .seq k78_23 k78_31
def k78_33 : ACode := .seq k78_18 k78_32
def k78_34 : ACode := .seq k78_13 k78_33
def k78_35 : ACode := .seq (.region k78_o2) k78_34
def k78_36 : ACode := .seq (.region k78_o1) k78_35
def k78_37 : ACode := .seq (.region k78_o0) k78_36
@[simp, simp ↓] theorem k78_6r : sR k78_6 k78_o5 .ret := yR rfl
@[simp, simp ↓] theorem k78_7r : rC k78_7 (.t 12) k78_6 .skip := zC rfl
@[simp, simp ↓] theorem k78_8r : sR k78_8 k78_o4 k78_7 := yR rfl
@[simp, simp ↓] theorem k78_10r : sR k78_10 k78_o6 .ret := yR rfl
@[simp, simp ↓] theorem k78_11r : rS k78_11 k78_8 k78_10 := zS rfl
@[simp, simp ↓] theorem k78_12r : rC k78_12 (.t 11) k78_11 .skip := zC rfl
@[simp, simp ↓] theorem k78_13r : sR k78_13 k78_o3 k78_12 := yR rfl
@[simp, simp ↓] theorem k78_16r : sR k78_16 k78_o8 .ret := yR rfl
@[simp, simp ↓] theorem k78_17r : rC k78_17 (.t 13) k78_16 .skip := zC rfl
@[simp, simp ↓] theorem k78_18r : sR k78_18 k78_o7 k78_17 := yR rfl
@[simp, simp ↓] theorem k78_21r : sR k78_21 k78_o10 .ret := yR rfl
@[simp, simp ↓] theorem k78_22r : rC k78_22 (.t 16) k78_21 .skip := zC rfl
@[simp, simp ↓] theorem k78_23r : sR k78_23 k78_o9 k78_22 := yR rfl
@[simp, simp ↓] theorem k78_26r : sR k78_26 k78_o12 .ret := yR rfl
@[simp, simp ↓] theorem k78_27r : rC k78_27 (.t 19) k78_26 .skip := zC rfl
@[simp, simp ↓] theorem k78_28r : sR k78_28 k78_o11 k78_27 := yR rfl
@[simp, simp ↓] theorem k78_30r : sR k78_30 k78_o13 .ret := yR rfl
@[simp, simp ↓] theorem k78_31r : rS k78_31 k78_28 k78_30 := zS rfl
@[simp, simp ↓] theorem k78_32r : rS k78_32 k78_23 k78_31 := zS rfl
@[simp, simp ↓] theorem k78_33r : rS k78_33 k78_18 k78_32 := zS rfl
@[simp, simp ↓] theorem k78_34r : rS k78_34 k78_13 k78_33 := zS rfl
@[simp, simp ↓] theorem k78_35r : sR k78_35 k78_o2 k78_34 := yR rfl
@[simp, simp ↓] theorem k78_36r : sR k78_36 k78_o1 k78_35 := yR rfl
@[simp, simp ↓] theorem k78_37r : sR k78_37 k78_o0 k78_36 := yR rfl
noncomputable abbrev k78_C : Orc → Cx := mkC Tryd.prog [] 78 20 [.tmp 4]
theorem k78_of0 : OfP0 Tryd.prog Tryd.f78 78 20 k78_C k78_37 := @ofP0 _ _ _ _ _ _ _ _ Tryd.func78 (by decide +kernel) rfl (by kernel_rfl) rfl (by kernel_rfl)
theorem compare_c (a b : Int) (h : Heap) : ACalls Tryd.prog 78 [.int .i64 a, .int .i64 b] h (fun v h' => v = .int .i64 (cmpZ a b) ∧ h' = h) := by
  refine k78_of0 rfl orc1_p fun I => ?_
  refine Run2.of I 1000 ?_
  simp -implicitDefEqProofs [cmpZ]
  grind
noncomputable def o_compare : List AV → Option (Prop × AV) := tab (fun (x : Int × Int) => match x with | (a, b) => [.int .i64 a, .int .i64 b]) (fun x => match x with | (a, b) => True) (fun x => match x with | (a, b) => .int .i64 (cmpZ a b))
@[simp] theorem o_compare_e (a : Int) (b : Int) : o_compare [.int .i64 a, .int .i64 b] = some (True, .int .i64 (cmpZ a b)) := tab_at (enc := fun (x : Int × Int) => match x with | (a, b) => [.int .i64 a, .int .i64 b]) (fun x y h => by
  obtain ⟨a1, b1⟩ := x; obtain ⟨a2, b2⟩ := y; simp at h; simp [h] <;> omega) _ _ (a, b)
theorem o_compare_k : Knows Tryd.prog 78 o_compare := tab_knows fun x hx h => by
  obtain ⟨a, b⟩ := x; exact compare_c _ _ h
abbrev k122_o0 : List AJ := [.o ⟨(some 4), none, false, .mv (.c (.int .i64 0)), (some [0, 1])⟩]
abbrev k122_o1 : List AJ := [.o ⟨(some 7), none, false, .mv (.t 0), none⟩, .o ⟨(some 8), none, false, .call 134 [(.t 7)], none⟩, .o ⟨(some 5), none, false, .mv (.t 8), (some [0, 1, 5])⟩]
abbrev k122_o2 : List AJ := [.o ⟨(some 9), none, false, .mv (.t 1), none⟩, .o ⟨(some 10), none, false, .call 134 [(.t 9)], none⟩, .o ⟨(some 6), none, false, .mv (.t 10), (some [0, 1, 5, 6])⟩]
abbrev k122_o3 : List AJ := [.o ⟨(some 11), none, false, .mv (.t 5), (some [0, 1, 6, 11])⟩]
abbrev k122_o4 : List AJ := [.o ⟨(some 12), none, false, .mv (.t 6), (some [12])⟩]
abbrev k122_o5 : List AJ := [.o ⟨(some 4), none, false, .mv (.c (.int .i64 0)), (some [4])⟩]
def k122_6 : ACode := .seq (.region k122_o5) .ret
def k122_7 : ACode := .cond (.t 12) k122_6 .skip
def k122_8 : ACode := .seq (.region k122_o4) k122_7
abbrev k122_o6 : List AJ := [.o ⟨(some 4), none, false, .mv (.c (.int .i64 (-1))), (some [4])⟩]
def k122_10 : ACode := .seq (.region k122_o6) .ret
def k122_11 : ACode := .seq k122_8 k122_10
def k122_12 : ACode := .cond (.t 11) k122_11 .skip
def k122_13 : ACode := .seq (.region k122_o3) k122_12
abbrev k122_o7 : List AJ := [.o ⟨(some 13), none, false, .mv (.t 6), (some [0, 1, 13])⟩]
abbrev k122_o8 : List AJ := [.o ⟨(some 4), none, false, .mv (.c (.int .i64 1)), (some [4])⟩]
def k122_16 : ACode := .seq (.region k122_o8) .ret
def k122_17 : ACode := .cond (.t 13) k122_16 .skip
def k122_18 : ACode := .seq (.region k122_o7) k122_17
abbrev k122_o9 : List AJ := [.o ⟨(some 14), none, false, .mv (.t 0), none⟩, .o ⟨(some 15), none, false, .mv (.t 1), none⟩, .o ⟨(some 16), none, false, .bin .lss (.t 14) (.t 15), (some [0, 1, 16])⟩]
abbrev k122_o10 : List AJ := [.o ⟨(some 4), none, false, .mv (.c (.int .i64 (-1))), (some [4])⟩]
def k122_21 : ACode := .seq (.region k122_o10) .ret
def k122_22 : ACode := .cond (.t 16) k122_21 .skip
def k122_23 : ACode := .seq (.region k122_o9) k122_22
abbrev k122_o11 : List AJ := [.o ⟨(some 17), none, false, .mv (.t 0), none⟩, .o ⟨(some 18), none, false, .mv (.t 1), none⟩, .o ⟨(some 19), none, false, .bin .gtr (.t 17) (.t 18), (some [19])⟩]
abbrev k122_o12 : List AJ := [.o ⟨(some 4), none, false, .mv (.c (.int .i64 1)), (some [4])⟩]
def k122_26 : ACode := .seq (.region k122_o12) .ret
def k122_27 : ACode := .cond (.t 19) k122_26 .skip
def k122_28 : ACode := .seq (.region k122_o11) k122_27
abbrev k122_o13 : List AJ := [.o ⟨(some 4), none, false, .mv (.c (.int .i64 0)), (some [4])⟩]
def k122_30 : ACode := .seq (.region k122_o13) .ret
def k122_31 : ACode := .seq k122_28 k122_30
def k122_32 : ACode := .seq k122_23 k122_31
def k122_33 : ACode := .seq k122_18 k122_32
def k122_34 : ACode := .seq k122_13 k122_33
def k122_35 : ACode := .seq (.region k122_o2) k122_34
def k122_36 : ACode := .seq (.region k122_o1) k122_35
def k122_37 : ACode := .seq (.region k122_o0) k122_36
@[simp, simp ↓] theorem k122_6r : sR k122_6 k122_o5 .ret := yR rfl
@[simp, simp ↓] theorem k122_7r : rC k122_7 (.t 12) k122_6 .skip := zC rfl
@[simp, simp ↓] theorem k122_8r : sR k122_8 k122_o4 k122_7 := yR rfl
@[simp, simp ↓] theorem k122_10r : sR k122_10 k122_o6 .ret := yR rfl
@[simp, simp ↓] theorem k122_11r : rS k122_11 k122_8 k122_10 := zS rfl
@[simp, simp ↓] theorem k122_12r : rC k122_12 (.t 11) k122_11 .skip := zC rfl
@[simp, simp ↓] theorem k122_13r : sR k122_13 k122_o3 k122_12 := yR rfl
@[simp, simp ↓] theorem k122_16r : sR k122_16 k122_o8 .ret := yR rfl
@[simp, simp ↓] theorem k122_17r : rC k122_17 (.t 13) k122_16 .skip := zC rfl
@[simp, simp ↓] theorem k122_18r : sR k122_18 k122_o7 k122_17 := yR rfl
@[simp, simp ↓] theorem k122_21r : sR k122_21 k122_o10 .ret := yR rfl
@[simp, simp ↓] theorem k122_22r : rC k122_22 (.t 16) k122_21 .skip := zC rfl
@[simp, simp ↓] theorem k122_23r : sR k122_23 k122_o9 k122_22 := yR rfl
@[simp, simp ↓] theorem k122_26r : sR k122_26 k122_o12 .ret := yR rfl
@[simp, simp ↓] theorem k122_27r : rC k122_27 (.t 19) k122_26 .skip := zC rfl
@[simp, simp ↓] theorem k122_28r : sR k122_28 k122_o11 k122_27 := yR rfl
@[simp, simp ↓] theorem k122_30r : sR k122_30 k122_o13 .ret := yR rfl
@[simp, simp ↓] theorem k122_31r : rS k122_31 k122_28 k122_30 := zS rfl
@[simp, simp ↓] theorem k122_32r : rS k122_32 k122_23 k122_31 := zS rfl
@[simp, simp ↓] theorem k122_33r : rS k122_33 k122_18 k122_32 := zS rfl
@[simp, simp ↓] theorem k122_34r : rS k122_34 k122_13 k122_33 := zS rfl
@[simp, simp ↓] theorem k122_35r : sR k122_35 k122_o2 k122_34 := yR rfl
@[simp, simp ↓] theorem k122_36r : sR k122_36 k122_o1 k122_35 := yR rfl
@[simp, simp ↓] theorem k122_37r : sR k122_37 k122_o0 k122_36 := yR rfl
noncomputable abbrev k122_C : Orc → Cx := mkC Tryd.prog [] 122 20 [.tmp 4]
theorem k122_of0 : OfP0 Tryd.prog Tryd.f122 122 20 k122_C k122_37 := @ofP0 _ _ _ _ _ _ _ _ Tryd.func122 (by decide +kernel) rfl (by kernel_rfl) rfl (by kernel_rfl)
theorem comparei_c (a b : Int) (h : Heap) : ACalls Tryd.prog 122 [.int .i64 a, .int .i64 b] h (fun v h' => v = .int .i64 (cmpZ a b) ∧ h' = h) := by
  refine k122_of0 rfl orc1_p fun I => ?_
  refine Run2.of I 1000 ?_
  simp -implicitDefEqProofs [cmpZ]
  grind
noncomputable def o_comparei : List AV → Option (Prop × AV) := tab (fun (x : Int × Int) => match x with | (a, b) => [.int .i64 a, .int .i64 b]) (fun x => match x with | (a, b) => True) (fun x => match x with | (a, b) => .int .i64 (cmpZ a b))
@[simp] theorem o_comparei_e (a : Int) (b : Int) : o_comparei [.int .i64 a, .int .i64 b] = some (True, .int .i64 (cmpZ a b)) := tab_at (enc := fun (x : Int × Int) => match x with | (a, b) => [.int .i64 a, .int .i64 b]) (fun x y h => by
  obtain ⟨a1, b1⟩ := x; obtain ⟨a2, b2⟩ := y; simp at h; simp [h] <;> omega) _ _ (a, b)
theorem o_comparei_k : Knows Tryd.prog 122 o_comparei := tab_knows fun x hx h => by
  obtain ⟨a, b⟩ := x; exact comparei_c _ _ h
def orI : List Int → Int
  | [] => 0
  | x :: xs => if x = 0 then orI xs else x
abbrev k77_o0 : List AJ := [.o ⟨(some 2), none, false, .mv (.c (.int .i64 0)), (some [0])⟩]
abbrev k77_o1 : List AJ := [.o ⟨(some 3), none, false, .mv (.c (.int .i64 0)), (some [0, 3])⟩]
abbrev k77_o2 : List AJ := [.o ⟨(some 6), none, false, .mv (.t 0), none⟩, .o ⟨(some 7), none, false, .len (.t 6), none⟩, .o ⟨(some 8), none, false, .mv (.c (.int .i64 0)), (some [3, 6, 7, 8])⟩]
abbrev k77_o3 : List AJ := [.o ⟨(some 9), none, false, .bin .lss (.t 8) (.t 7), (some [3, 6, 7, 8, 9])⟩]
abbrev k77_o4 : List AJ := [.o ⟨(some 10), none, false, .idxA 1 (.t 6) (.t 8), none⟩, .o ⟨(some 11), none, false, .load 1 false (.t 10), none⟩, .o ⟨(some 5), none, false, .mv (.t 11), (some [3, 5, 6, 7, 8])⟩]
abbrev k77_o5 : List AJ := [.o ⟨(some 12), none, false, .mv (.t 5), none⟩, .o ⟨(some 13), none, false, .mv (.t 3), none⟩, .o ⟨(some 14), none, false, .bin .neq (.t 12) (.t 13), (some [3, 5, 6, 7, 8, 14])⟩]
abbrev k77_o6 : List AJ := [.o ⟨(some 15), none, false, .mv (.t 5), none⟩, .o ⟨(some 2), none, false, .mv (.t 15), (some [2])⟩]
def k77_8 : ACode := .seq (.region k77_o6) .ret
def k77_9 : ACode := .cond (.t 14) k77_8 .skip
def k77_10 : ACode := .seq (.region k77_o5) k77_9
def k77_11 : ACode := .seq (.region k77_o4) k77_10
abbrev k77_o7 : List AJ := [.o ⟨(some 16), none, true, .bin .add (.t 8) (.c (.int .i64 1)), none⟩, .o ⟨(some 8), none, false, .mv (.t 16), (some [3, 6, 7, 8])⟩]
def k77_13 : ACode := .region k77_o7
def k77_14 : ACode := .seq (.block 1 k77_11) k77_13
def k77_15 : ACode := .seq (.cond (.t 9) .skip (.exit 0)) k77_14
def k77_16 : ACode := .seq (.region k77_o3) k77_15
def k77_17 : ACode := .loop k77_16
def k77_18 : ACode := .block 0 k77_17
def k77_19 : ACode := .seq (.region k77_o2) k77_18
abbrev k77_o8 : List AJ := [.o ⟨(some 17), none, false, .mv (.t 3), none⟩, .o ⟨(some 2), none, false, .mv (.t 17), (some [2])⟩]
def k77_21 : ACode := .seq (.region k77_o8) .ret
def k77_22 : ACode := .seq k77_19 k77_21
def k77_23 : ACode := .seq (.region k77_o1) k77_22
def k77_24 : ACode := .seq (.region k77_o0) k77_23
@[simp, simp ↓] theorem k77_8r : sR k77_8 k77_o6 .ret := yR rfl
@[simp, simp ↓] theorem k77_9r : rC k77_9 (.t 14) k77_8 .skip := zC rfl
@[simp, simp ↓] theorem k77_10r : sR k77_10 k77_o5 k77_9 := yR rfl
@[simp, simp ↓] theorem k77_11r : sR k77_11 k77_o4 k77_10 := yR rfl
@[simp, simp ↓] theorem k77_13r : rR k77_13 k77_o7 := zR rfl
@[simp, simp ↓] theorem k77_14r : sB k77_14 1 k77_11 k77_13 := yB rfl
@[simp, simp ↓] theorem k77_15r : sC k77_15 (.t 9) .skip (.exit 0) k77_14 := yC rfl
@[simp, simp ↓] theorem k77_16r : sR k77_16 k77_o3 k77_15 := yR rfl
@[simp, simp ↓] theorem k77_17r : rL k77_17 k77_16 := zL rfl
@[simp, simp ↓] theorem k77_18r : rB k77_18 0 k77_17 := zB rfl
@[simp, simp ↓] theorem k77_19r : sR k77_19 k77_o2 k77_18 := yR rfl
@[simp, simp ↓] theorem k77_21r : sR k77_21 k77_o8 .ret := yR rfl
@[simp, simp ↓] theorem k77_22r : rS k77_22 k77_19 k77_21 := zS rfl
@[simp, simp ↓] theorem k77_23r : sR k77_23 k77_o1 k77_22 := yR rfl
@[simp, simp ↓] theorem k77_24r : sR k77_24 k77_o0 k77_23 := yR rfl
noncomputable abbrev k77_C : Orc → Cx := mkC Tryd.prog [] 77 18 [.tmp 2]
theorem k77_of0 : OfP0 Tryd.prog Tryd.f77 77 18 k77_C k77_24 := @ofP0 _ _ _ _ _ _ _ _ Tryd.func77 (by decide +kernel) rfl (by kernel_rfl) rfl (by kernel_rfl)
theorem or_c (l : List Int) (h : Heap) (hl : l.length ≤ 1048576) : ACalls Tryd.prog 77 [.snap 1 (l.map fun n => .int .i64 n)] h (fun v h' => v = .int .i64 (orI l) ∧ h' = h) := by
  refine k77_of0 rfl noPure fun I => ?_
  refine Run2.of I 1000 ?_
  simp -implicitDefEqProofs
  refine Run2.loop (fun i => [(3, .int .i64 0), (6, .snap 1 (l.map fun n => .int .i64 n)), (7, .int .i64 l.length), (8, .int .i64 (i : Nat))]) (fun i => h) (fun i => l.length - i) (fun i => i ≤ l.length ∧ orI (l.drop i) = orI l) 0 (by simp) fun i hi ih => ?_
  by_cases hlt : i < l.length
  · have hd : l.drop i = l[i] :: l.drop (i + 1) := List.drop_eq_getElem_cons hlt
    refine Run2.of I 1000 ?_
    simp -implicitDefEqProofs [hlt]
    constructor
    · intro hne
      rw [← hi.2, hd, orI, if_neg hne]
    · intro he
      refine ⟨by omega, ?_⟩
      have := ih (i + 1) ⟨by omega, by rw [← hi.2, hd, orI, if_pos he]⟩ (by omega)
      simpa using this
  · have : i = l.length := by omega
    have h2 := hi.2
    rw [List.drop_of_length_le (by omega)] at h2
    refine Run2.of I 1000 ?_
    simp -implicitDefEqProofs [hlt]
    exact h2
noncomputable def o_or2 : List AV → Option (Prop × AV) := tab (fun (x : Int × Int) => match x with | (a, b) => [.snap 1 [.int .i64 a, .int .i64 b]]) (fun x => match x with | (a, b) => True) (fun x => match x with | (a, b) => .int .i64 (orI [a, b]))
@[simp] theorem o_or2_e (a : Int) (b : Int) : o_or2 [.snap 1 [.int .i64 a, .int .i64 b]] = some (True, .int .i64 (orI [a, b])) := tab_at (enc := fun (x : Int × Int) => match x with | (a, b) => [.snap 1 [.int .i64 a, .int .i64 b]]) (fun x y h => by
  obtain ⟨a1, b1⟩ := x; obtain ⟨a2, b2⟩ := y; simp at h; simp [h] <;> omega) _ _ (a, b)
theorem o_or2_k : Knows Tryd.prog 77 o_or2 := tab_knows fun x hx h => by
  obtain ⟨a, b⟩ := x; exact or_c [a, b] h (by simp)
noncomputable def orc2 : List (Nat × (List AV → Option (Prop × AV))) := (78, o_compare) :: (122, o_comparei) :: (77, o_or2) :: orc1
theorem orc2_p : Pure Tryd.prog (lk orc2) := (lk_pure o_compare_k (lk_pure o_comparei_k (lk_pure o_or2_k orc1_p)))
@[simp] theorem orc2_l (b : Bool) (g : FuncId) (l : List AV) : lk orc2 b g l = if g = 78 then o_compare l else if g = 122 then o_comparei l else if g = 77 then o_or2 l else lk orc1 b g l := nr rfl
def btw (l : List Int) (a b : Int) : Prop := ∀ k ∈ l, a ≤ k ∧ k ≤ b
noncomputable instance (l : List Int) (a b : Int) : Decidable (btw l a b ∧ riseS l) := Classical.propDecidable _
theorem rising_to {r : List Int} (i : Nat) (h : ∀ j (h : j + 1 < r.length), j + 1 < i → r[j] < r[j + 1]) (hi : r.length ≤ i) : riseS r := fun j hj => h j hj (by omega)
abbrev k90_o0 : List AJ := [.o ⟨(some 4), none, false, .mv (.c (.int .i64 0)), (some [0, 1])⟩]
abbrev k90_o1 : List AJ := [.o ⟨(some 6), none, false, .mv (.t 0), none⟩, .o ⟨(some 7), none, false, .len (.t 6), none⟩, .o ⟨(some 8), none, false, .mv (.c (.int .i64 0)), (some [0, 1, 7, 8])⟩]
abbrev k90_o2 : List AJ := [.o ⟨(some 9), none, false, .bin .lss (.t 8) (.t 7), (some [0, 1, 7, 8, 9])⟩]
abbrev k90_o3 : List AJ := [.o ⟨(some 10), none, false, .mv (.t 8), none⟩, .o ⟨(some 5), none, false, .mv (.t 10), (some [0, 1, 5, 7, 8])⟩]
abbrev k90_o4 : List AJ := [.o ⟨(some 11), none, false, .mv (.t 1), none⟩, .o ⟨(some 12), none, false, .mv (.t 0), none⟩, .o ⟨(some 13), none, false, .mv (.t 5), none⟩, .o ⟨(some 14), none, false, .idxA 1 (.t 12) (.t 13), none⟩, .o ⟨(some 15), none, false, .load 1 false (.t 14), none⟩, .o ⟨(some 16), none, false, .callv (.t 11) [(.t 15)], (some [0, 1, 5, 7, 8, 16])⟩]
abbrev k90_o5 : List AJ := [.o ⟨(some 17), none, false, .mv (.t 5), none⟩, .o ⟨(some 4), none, false, .mv (.t 17), (some [4])⟩]
def k90_7 : ACode := .seq (.region k90_o5) .ret
def k90_8 : ACode := .cond (.t 16) k90_7 .skip
def k90_9 : ACode := .seq (.region k90_o4) k90_8
def k90_10 : ACode := .seq (.region k90_o3) k90_9
abbrev k90_o6 : List AJ := [.o ⟨(some 18), none, true, .bin .add (.t 8) (.c (.int .i64 1)), none⟩, .o ⟨(some 8), none, false, .mv (.t 18), (some [0, 1, 7, 8])⟩]
def k90_12 : ACode := .region k90_o6
def k90_13 : ACode := .seq (.block 1 k90_10) k90_12
def k90_14 : ACode := .seq (.cond (.t 9) .skip (.exit 0)) k90_13
def k90_15 : ACode := .seq (.region k90_o2) k90_14
def k90_16 : ACode := .loop k90_15
def k90_17 : ACode := .block 0 k90_16
def k90_18 : ACode := .seq (.region k90_o1) k90_17
abbrev k90_o7 : List AJ := [.o ⟨(some 4), none, false, .mv (.c (.int .i64 (-1))), (some [4])⟩]
def k90_20 : ACode := .seq (.region k90_o7) .ret
def k90_21 : ACode := .seq k90_18 k90_20
def k90_22 : ACode := .seq (.region k90_o0) k90_21
@[simp, simp ↓] theorem k90_7r : sR k90_7 k90_o5 .ret := yR rfl
@[simp, simp ↓] theorem k90_8r : rC k90_8 (.t 16) k90_7 .skip := zC rfl
@[simp, simp ↓] theorem k90_9r : sR k90_9 k90_o4 k90_8 := yR rfl
@[simp, simp ↓] theorem k90_10r : sR k90_10 k90_o3 k90_9 := yR rfl
@[simp, simp ↓] theorem k90_12r : rR k90_12 k90_o6 := zR rfl
@[simp, simp ↓] theorem k90_13r : sB k90_13 1 k90_10 k90_12 := yB rfl
@[simp, simp ↓] theorem k90_14r : sC k90_14 (.t 9) .skip (.exit 0) k90_13 := yC rfl
@[simp, simp ↓] theorem k90_15r : sR k90_15 k90_o2 k90_14 := yR rfl
@[simp, simp ↓] theorem k90_16r : rL k90_16 k90_15 := zL rfl
@[simp, simp ↓] theorem k90_17r : rB k90_17 0 k90_16 := zB rfl
@[simp, simp ↓] theorem k90_18r : sR k90_18 k90_o1 k90_17 := yR rfl
@[simp, simp ↓] theorem k90_20r : sR k90_20 k90_o7 .ret := yR rfl
@[simp, simp ↓] theorem k90_21r : rS k90_21 k90_18 k90_20 := zS rfl
@[simp, simp ↓] theorem k90_22r : sR k90_22 k90_o0 k90_21 := yR rfl
noncomputable abbrev k90_C : Orc → Cx := mkC Tryd.prog [] 90 19 [.tmp 4]
theorem k90_of0 : OfP0 Tryd.prog Tryd.f90 90 19 k90_C k90_22 := @ofP0 _ _ _ _ _ _ _ _ Tryd.func90 (by decide +kernel) rfl (by kernel_rfl) rfl (by kernel_rfl)
/-- The first place where q holds. -/
def idxf (q : Int → Bool) (l : List Int) : Int := match l.findIdx? q with
  | some i => i
  | none => -1
theorem idxf_at {q : Int → Bool} {l : List Int} {i : Nat} (h : i < l.length) (hb : ∀ j (hj : j < l.length), j < i → q l[j] = false) (ht : q l[i] = true) : idxf q l = i := by
  have : l.findIdx? q = some i := List.findIdx?_eq_some_iff_getElem.2 ⟨h, ht, fun j hj => by simp [hb j (by omega) hj]⟩
  unfold idxf; rw [this]
theorem idxf_none {q : Int → Bool} {l : List Int} (hb : ∀ j (hj : j < l.length), q l[j] = false) : idxf q l = -1 := by
  have : l.findIdx? q = none := List.findIdx?_eq_none_iff.2 fun a ha => by
    obtain ⟨j, hj, rfl⟩ := List.mem_iff_getElem.1 ha
    simp [hb j hj]
  unfold idxf; rw [this]
theorem idxf_ge (q : Int → Bool) (l : List Int) : (0 ≤ idxf q l) ↔ ∃ a ∈ l, q a = true := by
  unfold idxf
  cases h : l.findIdx? q with
  | none =>
    rw [List.findIdx?_eq_none_iff] at h
    simp only [show ¬ (0 : Int) ≤ -1 by omega, false_iff]
    rintro ⟨a, ha, hq⟩
    have := h a ha
    rw [hq] at this; cases this
  | some i =>
    obtain ⟨hi, hq, _⟩ := List.findIdx?_eq_some_iff_getElem.1 h
    simp only [Int.natCast_nonneg, true_iff]
    exact ⟨_, List.getElem_mem hi, hq⟩
theorem IndexFunc_s (l : List Int) (g : FuncId) (caps : List AV) (q : Int → Bool) (h : Heap) (hl : l.length ≤ 1048576) (hq : ∀ a ∈ l, ACalls Tryd.prog g (.int .i64 a :: caps) h (fun v h' => v = .bool (q a) ∧ h' = h)) :
    ACalls Tryd.prog 90 [.snap 1 (l.map iv), .fn g caps] h (fun v h' => v = .int .i64 (idxf q l) ∧ h' = h) := by
  refine k90_of0 rfl noPure fun I => ?_
  refine Run2.of I 1000 ?_
  simp -implicitDefEqProofs
  refine Run2.loopE (fun i => [(0, .snap 1 (l.map iv)), (1, .fn g caps), (7, .int .i64 l.length), (8, .int .i64 (i : Nat))]) (fun i => h) (fun i => l.length - i) (fun i => i ≤ l.length ∧ ∀ j (hj : j < l.length), j < i → q l[j] = false) 0 (by simp) rfl ⟨Nat.zero_le _, fun _ _ h => absurd h (Nat.not_lt_zero _)⟩ fun i hi ih => ?_
  by_cases hlt : i < l.length
  · have go := fun (h1 : q l[i] = false) => ih (i + 1) ⟨by omega, fun j hj hji => by
      rcases Nat.lt_or_ge j i with h | h
      · exact hi.2 j hj h
      · obtain rfl : j = i := by omega
        exact h1⟩ (by omega)
    have hat := idxf_at (q := q) hlt hi.2
    clear ih
    refine Run2.of I 1000 ?_
    simp -implicitDefEqProofs [hlt]
    refine (hq _ (List.getElem_mem hlt)).mono ?_
    rintro v h' ⟨rfl, rfl⟩
    refine gK.go ?_
    simp -implicitDefEqProofs
    refine ⟨fun h => (hat h).symm, fun h => ⟨by omega, ?_⟩⟩
    simpa using go h
  · obtain rfl : i = l.length := by omega
    have := idxf_none (q := q) (l := l) fun j hj => hi.2 j hj hj
    refine Run2.of I 1000 ?_
    simp -implicitDefEqProofs
    exact this.symm
abbrev k58_o0 : List AJ := [.o ⟨(some 4), none, false, .mv (.c (.bool false)), (some [0, 1])⟩]
abbrev k58_o1 : List AJ := [.o ⟨(some 5), none, false, .mv (.t 0), none⟩, .o ⟨(some 6), none, false, .mv (.t 1), none⟩, .o ⟨(some 7), none, false, .call 90 [(.t 5), (.t 6)], none⟩, .o ⟨(some 8), none, false, .bin .geq (.t 7) (.c (.int .i64 0)), none⟩, .o ⟨(some 4), none, false, .mv (.t 8), (some [4])⟩]
def k58_2 : ACode := .seq (.region k58_o1) .ret
def k58_3 : ACode := .seq (.region k58_o0) k58_2
@[simp, simp ↓] theorem k58_2r : sR k58_2 k58_o1 .ret := yR rfl
@[simp, simp ↓] theorem k58_3r : sR k58_3 k58_o0 k58_2 := yR rfl
noncomputable abbrev k58_C : Orc → Cx := mkC Tryd.prog [] 58 9 [.tmp 4]
theorem k58_of0 : OfP0 Tryd.prog Tryd.f58 58 9 k58_C k58_3 := @ofP0 _ _ _ _ _ _ _ _ Tryd.func58 (by decide +kernel) rfl (by kernel_rfl) rfl (by kernel_rfl)
theorem ContainsFunc_s (l : List Int) (g : FuncId) (caps : List AV) (q : Int → Bool) (h : Heap) (hl : l.length ≤ 1048576) (hq : ∀ a ∈ l, ACalls Tryd.prog g (.int .i64 a :: caps) h (fun v h' => v = .bool (q a) ∧ h' = h)) :
    ACalls Tryd.prog 58 [.snap 1 (l.map iv), .fn g caps] h (fun v h' => v = .bool (l.any q) ∧ h' = h) := by
  refine k58_of0 rfl noPure fun I => ?_
  refine Run2.of I 1000 ?_
  simp -implicitDefEqProofs
  refine (IndexFunc_s l g caps q h hl hq).mono ?_
  rintro v h' ⟨rfl, rfl⟩
  refine gK.go ?_
  simp -implicitDefEqProofs [idxf_ge]
  rw [Bool.eq_iff_iff]
  simp
abbrev k31_o0 : List AJ := [.o ⟨(some 2), none, false, .mv (.c (.bool false)), (some [0])⟩]
abbrev k31_o1 : List AJ := [.o ⟨(some 3), none, false, .mv (.c (.int .i64 1)), (some [0, 3])⟩]
abbrev k31_o2 : List AJ := [.o ⟨(some 4), none, false, .mv (.t 3), none⟩, .o ⟨(some 5), none, false, .mv (.t 0), none⟩, .o ⟨(some 6), none, false, .len (.t 5), none⟩, .o ⟨(some 7), none, false, .bin .lss (.t 4) (.t 6), (some [0, 3, 7])⟩]
def k31_3 : ACode := .cond (.t 7) .skip (.exit 0)
def k31_4 : ACode := .seq (.region k31_o2) k31_3
abbrev k31_o3 : List AI := [⟨(some 10), none, false, .mv (.t 0), none⟩, ⟨(some 11), none, false, .mv (.t 3), none⟩, ⟨(some 12), none, true, .bin .sub (.t 11) (.c (.int .i64 1)), none⟩, ⟨(some 13), none, false, .idxA 1 (.t 10) (.t 12), none⟩, ⟨(some 14), none, false, .load 1 false (.t 13), none⟩, ⟨(some 15), none, false, .mv (.t 0), none⟩, ⟨(some 16), none, false, .mv (.t 3), none⟩, ⟨(some 17), none, false, .idxA 1 (.t 15) (.t 16), none⟩, ⟨(some 18), none, false, .load 1 false (.t 17), none⟩, ⟨(some 19), none, false, .bin .geq (.t 14) (.t 18), (some [0, 3, 19])⟩]
abbrev k31_o4 : List AJ := [.o ⟨(some 2), none, false, .mv (.c (.bool false)), (some [2])⟩]
def k31_7 : ACode := .seq (.region k31_o4) .ret
def k31_8 : ACode := .cond (.t 19) k31_7 .skip
def k31_9 : ACode := .seq (.draw k31_o3 [] rfl) k31_8
abbrev k31_o5 : List AJ := [.o ⟨(some 8), none, false, .mv (.t 3), none⟩, .o ⟨(some 9), none, true, .bin .add (.t 8) (.c (.int .i64 1)), none⟩, .o ⟨(some 3), none, false, .mv (.t 9), (some [0, 3])⟩]
def k31_11 : ACode := .region k31_o5
def k31_12 : ACode := .seq (.block 1 k31_9) k31_11
def k31_13 : ACode := .seq k31_4 k31_12
def k31_14 : ACode := .loop k31_13
def k31_15 : ACode := .block 0 k31_14
def k31_16 : ACode := .seq (.region k31_o1) k31_15
abbrev k31_o6 : List AJ := [.o ⟨(some 2), none, false, .mv (.c (.bool true)), (some [2])⟩]
def k31_18 : ACode := .seq (.region k31_o6) .ret
def k31_19 : ACode := .seq k31_16 k31_18
def k31_20 : ACode := .seq (.region k31_o0) k31_19
@[simp, simp ↓] theorem k31_3r : rC k31_3 (.t 7) .skip (.exit 0) := zC rfl
@[simp, simp ↓] theorem k31_4r : sR k31_4 k31_o2 k31_3 := yR rfl
@[simp, simp ↓] theorem k31_7r : sR k31_7 k31_o4 .ret := yR rfl
@[simp, simp ↓] theorem k31_8r : rC k31_8 (.t 19) k31_7 .skip := zC rfl
@[simp, simp ↓] theorem k31_9r : sD k31_9 k31_o3 [] k31_8 := yD rfl
@[simp, simp ↓] theorem k31_11r : rR k31_11 k31_o5 := zR rfl
@[simp, simp ↓] theorem k31_12r : sB k31_12 1 k31_9 k31_11 := yB rfl
@[simp, simp ↓] theorem k31_13r : rS k31_13 k31_4 k31_12 := zS rfl
@[simp, simp ↓] theorem k31_14r : rL k31_14 k31_13 := zL rfl
@[simp, simp ↓] theorem k31_15r : rB k31_15 0 k31_14 := zB rfl
@[simp, simp ↓] theorem k31_16r : sR k31_16 k31_o1 k31_15 := yR rfl
@[simp, simp ↓] theorem k31_18r : sR k31_18 k31_o6 .ret := yR rfl
@[simp, simp ↓] theorem k31_19r : rS k31_19 k31_16 k31_18 := zS rfl
@[simp, simp ↓] theorem k31_20r : sR k31_20 k31_o0 k31_19 := yR rfl
noncomputable abbrev k31_C : Orc → Cx := mkC Tryd.prog [] 31 20 [.tmp 2]
theorem k31_of0 : OfP0 Tryd.prog Tryd.f31 31 20 k31_C k31_20 := @ofP0 _ _ _ _ _ _ _ _ Tryd.func31 (by decide +kernel) rfl (by kernel_rfl) rfl (by kernel_rfl)
theorem isRising_s (l : List Int) (h : Heap) (hl : l.length ≤ 1048576) : ACalls Tryd.prog 31 [.snap 1 (l.map iv)] h (fun v h' => v = .bool (decide (riseS l)) ∧ h' = h) := by
  refine k31_of0 rfl noPure fun I => ?_
  refine Run2.of I 1000 ?_
  simp -implicitDefEqProofs
  refine Run2.loopE (fun i => [(0, .snap 1 (l.map iv)), (3, .int .i64 (i + 1 : Nat))]) (fun i => h) (fun i => l.length - i) (fun i => (i = 0 ∨ i < l.length) ∧ ∀ j (hj : j + 1 < l.length), j + 1 < i + 1 → l[j] < l[j + 1]) 0 (by simp) rfl ⟨.inl rfl, fun _ _ h => by omega⟩ fun i hi ih => ?_
  by_cases hlt : i + 1 < l.length
  · have hlt' : i < l.length := by omega
    have hc : ((i : Int) + 1 - 1).toNat = i := by omega
    have go := fun (h1 : l[i] < l[i + 1]) => ih (i + 1) ⟨.inr (by omega), fun j hj hji => by
      rcases Nat.lt_or_ge j i with h | h
      · exact hi.2 j hj (by omega)
      · obtain rfl : j = i := by omega
        exact h1⟩ (by omega)
    have hbad : l[i + 1] ≤ l[i] → ¬ riseS l := fun h1 h2 => by have := h2 i hlt; omega
    clear ih
    refine Run2.of I 1000 ?_
    simp -implicitDefEqProofs [hlt, hlt', hc]
    simp at go
    repeat' (first | refine And.intro ?_ ?_ | intro _)
    all_goals first | omega | (unfold in64; omega) | exact absurd ‹riseS l› (hbad (by omega)) | exact go (by omega)
  · have hr := rising_to (r := l) (i + 1) hi.2 (by omega)
    have hlt2 : ¬ ((i : Int) + 1 < l.length) := by omega
    refine Run2.of I 1000 ?_
    simp -implicitDefEqProofs [hlt, hlt2]
    exact hr
noncomputable def o_isRising : List AV → Option (Prop × AV) := tab (fun (x : List Int) => match x with | l => [.snap 1 (l.map iv)]) (fun x => match x with | l => l.length ≤ 1048576) (fun x => match x with | l => .bool (decide (riseS l)))
@[simp] theorem o_isRising_e (l : List Int) : o_isRising [.snap 1 (l.map iv)] = some (l.length ≤ 1048576, .bool (decide (riseS l))) := tab_at (enc := fun (x : List Int) => match x with | l => [.snap 1 (l.map iv)]) (fun x y h => by
  simp at h; simp [h] <;> omega) _ _ l
theorem o_isRising_k : Knows Tryd.prog 31 o_isRising := tab_knows fun x hx h => by
  exact isRising_s x h hx
abbrev k56_o0 : List AJ := [.o ⟨(some 6), none, false, .mv (.c (.bool false)), (some [0, 1, 2])⟩]
abbrev k56_o1 : List AJ := [.o ⟨(some 7), none, false, .mv (.c (.int .i64 0)), (some [0, 1, 2, 7])⟩]
abbrev k56_o2 : List AJ := [.o ⟨(some 8), none, false, .mv (.t 7), none⟩, .o ⟨(some 9), none, false, .mv (.t 0), none⟩, .o ⟨(some 10), none, false, .len (.t 9), none⟩, .o ⟨(some 11), none, false, .bin .lss (.t 8) (.t 10), (some [0, 1, 2, 7, 11])⟩]
def k56_3 : ACode := .cond (.t 11) .skip (.exit 0)
def k56_4 : ACode := .seq (.region k56_o2) k56_3
abbrev k56_o3 : List AI := [⟨(some 14), none, false, .mv (.t 0), none⟩, ⟨(some 15), none, false, .mv (.t 7), none⟩, ⟨(some 16), none, false, .idxA 1 (.t 14) (.t 15), none⟩, ⟨(some 17), none, false, .load 1 false (.t 16), none⟩, ⟨(some 18), none, false, .mv (.t 1), none⟩, ⟨(some 19), none, false, .mv (.t 2), none⟩, ⟨(some 20), none, false, .call 75 [(.t 17), (.t 18), (.t 19)], none⟩, ⟨(some 21), none, false, .un .not (.t 20), none⟩, ⟨(some 22), none, false, .mv (.t 21), none⟩, ⟨(some 23), (some (22, false)), false, .mv (.t 7), none⟩, ⟨(some 24), (some (22, false)), false, .bin .gtr (.t 23) (.c (.int .i64 0)), none⟩, ⟨(some 25), (some (22, false)), false, .mv (.t 24), (some [0, 1, 2, 7, 22, 25])⟩, ⟨(some 26), (some (25, true)), false, .mv (.t 0), none⟩, ⟨(some 27), (some (25, true)), false, .mv (.t 7), none⟩, ⟨(some 28), (some (25, true)), true, .bin .sub (.t 27) (.c (.int .i64 1)), none⟩, ⟨(some 29), (some (25, true)), false, .idxA 1 (.t 26) (.t 28), none⟩, ⟨(some 30), (some (25, true)), false, .load 1 false (.t 29), none⟩, ⟨(some 31), (some (25, true)), false, .mv (.t 0), none⟩, ⟨(some 32), (some (25, true)), false, .mv (.t 7), (some [0, 1, 2, 7, 22, 25, 30, 31, 32])⟩, ⟨(some 33), (some (25, true)), false, .idxA 1 (.t 31) (.t 32), none⟩, ⟨(some 34), (some (25, true)), false, .load 1 false (.t 33), none⟩, ⟨(some 35), (some (25, true)), false, .bin .geq (.t 30) (.t 34), none⟩, ⟨(some 36), (some (22, false)), false, .pick (.t 25) (.t 35) (.c (.bool false)), none⟩, ⟨(some 37), none, false, .pick (.t 22) (.c (.bool true)) (.t 36), (some [0, 1, 2, 7, 37])⟩]
abbrev k56_o4 : List AJ := [.o ⟨(some 6), none, false, .mv (.c (.bool false)), (some [6])⟩]
def k56_7 : ACode := .seq (.region k56_o4) .ret
def k56_8 : ACode := .cond (.t 37) k56_7 .skip
def k56_9 : ACode := .seq (.draw k56_o3 [] rfl) k56_8
abbrev k56_o5 : List AJ := [.o ⟨(some 12), none, false, .mv (.t 7), none⟩, .o ⟨(some 13), none, true, .bin .add (.t 12) (.c (.int .i64 1)), none⟩, .o ⟨(some 7), none, false, .mv (.t 13), (some [0, 1, 2, 7])⟩]
def k56_11 : ACode := .region k56_o5
def k56_12 : ACode := .seq (.block 1 k56_9) k56_11
def k56_13 : ACode := .seq k56_4 k56_12
def k56_14 : ACode := .loop k56_13
def k56_15 : ACode := .block 0 k56_14
def k56_16 : ACode := .seq (.region k56_o1) k56_15
abbrev k56_o6 : List AJ := [.o ⟨(some 6), none, false, .mv (.c (.bool true)), (some [6])⟩]
def k56_18 : ACode := .seq (.region k56_o6) .ret
def k56_19 : ACode := .seq k56_16 k56_18
def k56_20 : ACode := .seq (.region k56_o0) k56_19
@[simp, simp ↓] theorem k56_3r : rC k56_3 (.t 11) .skip (.exit 0) := zC rfl
@[simp, simp ↓] theorem k56_4r : sR k56_4 k56_o2 k56_3 := yR rfl
@[simp, simp ↓] theorem k56_7r : sR k56_7 k56_o4 .ret := yR rfl
@[simp, simp ↓] theorem k56_8r : rC k56_8 (.t 37) k56_7 .skip := zC rfl
@[simp, simp ↓] theorem k56_9r : sD k56_9 k56_o3 [] k56_8 := yD rfl
@[simp, simp ↓] theorem k56_11r : rR k56_11 k56_o5 := zR rfl
@[simp, simp ↓] theorem k56_12r : sB k56_12 1 k56_9 k56_11 := yB rfl
@[simp, simp ↓] theorem k56_13r : rS k56_13 k56_4 k56_12 := zS rfl
@[simp, simp ↓] theorem k56_14r : rL k56_14 k56_13 := zL rfl
@[simp, simp ↓] theorem k56_15r : rB k56_15 0 k56_14 := zB rfl
@[simp, simp ↓] theorem k56_16r : sR k56_16 k56_o1 k56_15 := yR rfl
@[simp, simp ↓] theorem k56_18r : sR k56_18 k56_o6 .ret := yR rfl
@[simp, simp ↓] theorem k56_19r : rS k56_19 k56_16 k56_18 := zS rfl
@[simp, simp ↓] theorem k56_20r : sR k56_20 k56_o0 k56_19 := yR rfl
noncomputable abbrev k56_C : Orc → Cx := mkC Tryd.prog [] 56 38 [.tmp 6]
theorem k56_of0 : OfP0 Tryd.prog Tryd.f56 56 38 k56_C k56_20 := @ofP0 _ _ _ _ _ _ _ _ Tryd.func56 (by decide +kernel) rfl (by kernel_rfl) rfl (by kernel_rfl)
theorem l00Rises_s (l : List Int) (a b : Int) (h : Heap) (hl : l.length ≤ 1048576) : ACalls Tryd.prog 56 [.snap 1 (l.map iv), .int .i64 a, .int .i64 b] h (fun v h' => v = .bool (decide (btw l a b ∧ riseS l)) ∧ h' = h) := by
  refine k56_of0 rfl orc1_p fun I => ?_
  refine Run2.of I 1000 ?_
  simp -implicitDefEqProofs
  refine Run2.loopE (fun (i : Nat) => [(0, .snap 1 (l.map iv)), (1, .int .i64 a), (2, .int .i64 b), (7, .int .i64 i)]) (fun i => h) (fun i => l.length - i) (fun i => i ≤ l.length ∧ (∀ j (hj : j < l.length), j < i → a ≤ l[j] ∧ l[j] ≤ b) ∧ ∀ j (hj : j + 1 < l.length), j + 1 < i → l[j] < l[j + 1]) 0 (by simp) rfl ⟨Nat.zero_le _, fun _ _ h => by omega, fun _ _ h => by omega⟩ fun i hi ih => ?_
  by_cases hlt : i < l.length
  · have hbad1 : ¬ (a ≤ l[i] ∧ l[i] ≤ b) → ¬ (btw l a b ∧ riseS l) := fun h1 h2 => h1 (h2.1 _ (List.getElem_mem hlt))
    cases i with
    | zero =>
      have go := fun (h1 : a ≤ l[0] ∧ l[0] ≤ b) => ih 1 ⟨by omega, fun j hj hji => by
        obtain rfl : j = 0 := by omega
        exact h1, fun j hj hji => by omega⟩ (by omega)
      clear ih
      refine Run2.of I 1000 ?_
      simp -implicitDefEqProofs [hlt]
      simp at go hbad1
      repeat' (first | refine And.intro ?_ ?_ | intro _)
      all_goals first | omega | grind
    | succ i =>
      have hlt' : i < l.length := by omega
      have hc : ((i : Int) + 1 - 1).toNat = i := by omega
      have hbad2 : ¬ l[i] < l[i + 1] → ¬ (btw l a b ∧ riseS l) := fun h1 h2 => h1 (h2.2 i hlt)
      have go := fun (h1 : a ≤ l[i + 1] ∧ l[i + 1] ≤ b) (h2 : l[i] < l[i + 1]) => ih (i + 1 + 1) ⟨by omega, fun j hj hji => by
        rcases Nat.lt_or_ge j (i + 1) with h | h
        · exact hi.2.1 j hj h
        · obtain rfl : j = i + 1 := by omega
          exact h1, fun j hj hji => by
        rcases Nat.lt_or_ge (j + 1) (i + 1) with h | h
        · exact hi.2.2 j hj h
        · obtain rfl : j = i := by omega
          exact h2⟩ (by omega)
      clear ih
      refine Run2.of I 1000 ?_
      simp -implicitDefEqProofs [hlt, hlt', hc]
      simp at go hbad1 hbad2
      repeat' (first | refine And.intro ?_ ?_ | intro _)
      all_goals first | omega | (unfold in64; omega) | grind
  · obtain rfl : i = l.length := by omega
    have h1 : ∀ k ∈ l, a ≤ k ∧ k ≤ b := fun k hk => by
      obtain ⟨j, hj, rfl⟩ := List.mem_iff_getElem.1 hk
      exact hi.2.1 j hj hj
    have h2 : riseS l := fun j hj => hi.2.2 j hj hj
    refine Run2.of I 1000 ?_
    simp -implicitDefEqProofs
    exact ⟨h1, h2⟩
noncomputable def o_l00Rises : List AV → Option (Prop × AV) := tab (fun (x : List Int × Int × Int) => match x with | (l, a, b) => [.snap 1 (l.map iv), .int .i64 a, .int .i64 b]) (fun x => match x with | (l, a, b) => l.length ≤ 1048576) (fun x => match x with | (l, a, b) => .bool (decide (btw l a b ∧ riseS l)))
@[simp] theorem o_l00Rises_e (l : List Int) (a : Int) (b : Int) : o_l00Rises [.snap 1 (l.map iv), .int .i64 a, .int .i64 b] = some (l.length ≤ 1048576, .bool (decide (btw l a b ∧ riseS l))) := tab_at (enc := fun (x : List Int × Int × Int) => match x with | (l, a, b) => [.snap 1 (l.map iv), .int .i64 a, .int .i64 b]) (fun x y h => by
  obtain ⟨l1, a1, b1⟩ := x; obtain ⟨l2, a2, b2⟩ := y; simp at h; simp [h] <;> omega) _ _ (l, a, b)
theorem o_l00Rises_k : Knows Tryd.prog 56 o_l00Rises := tab_knows fun x hx h => by
  obtain ⟨l, a, b⟩ := x; exact l00Rises_s l a b h hx
abbrev k118_o0 : List AJ := [.o ⟨(some 2), none, false, .mv (.c .nilsl), (some [0])⟩]
abbrev k118_o1 : List AJ := [.e 3 1 none, .o ⟨(some 4), none, false, .mv (.t 0), none⟩, .o ⟨(some 5), none, false, .append 1 8 (.t 3) (.t 4), none⟩, .o ⟨(some 2), none, false, .mv (.t 5), (some [2])⟩]
def k118_2 : ACode := .seq (.region k118_o1) .ret
def k118_3 : ACode := .seq (.region k118_o0) k118_2
@[simp, simp ↓] theorem k118_2r : sR k118_2 k118_o1 .ret := yR rfl
@[simp, simp ↓] theorem k118_3r : sR k118_3 k118_o0 k118_2 := yR rfl
noncomputable abbrev k118_C : Orc → Cx := mkC Tryd.prog [3] 118 6 [.tmp 2]
theorem k118_of0 : OfP0 Tryd.prog Tryd.f118 118 6 k118_C k118_3 := @ofP0 _ _ _ _ _ _ _ _ Tryd.func118 (by decide +kernel) rfl (by kernel_rfl) rfl (by kernel_rfl)
theorem l00Own_g (l : List Int) (h : Heap) (hl : l.length ≤ 1048576) : ACalls Tryd.prog 118 [.snap 1 (l.map iv)] h (fun v h' => ∃ hp, Grow 1 v (l.map iv) hp ∧ h' = hp ++ h) := by
  refine k118_of0 rfl noPure fun I => ?_
  cases l with
  | nil =>
    refine Run2.of I 1000 ?_
    simp -implicitDefEqProofs
    exact .emp
  | cons a l =>
    refine Run2.of I 1000 ?_
    simp -implicitDefEqProofs
    refine ⟨by simp at hl; omega, fun id hid => ⟨[(id, _)], .sl id _ _ (by simp), rfl⟩⟩
/-- A slice that is only appended to, with room behind it. -/
inductive GrowX (sz : Nat) : AV → List AV → Heap → Prop
  | nil : GrowX sz .nilsl [] []
  | sl (id : Nat) (l ex : List AV) (n : Nat) (hn : n = l.length) : GrowX sz (.sl id sz 0 n none) l [(id, ⟨sz, l ++ ex⟩)]
theorem GrowX.cell {sz : Nat} {w : AV} {l : List AV} {hp : Heap} (h : GrowX sz w l hp) : isCell w = true := by cases h <;> rfl
theorem GrowX.len {sz : Nat} {w : AV} {l : List AV} {hp : Heap} (h : GrowX sz w l hp) : lenR w = .val (.int .i64 l.length) := by
  cases h with
  | nil => simp
  | sl id l ex n hn => subst hn; simp
theorem GrowX.app {sz : Nat} {w : AV} {l new : List AV} {hp h : Heap} {C : Cx} {n : Nat} {d : Option Nat} {ks : Option (List Nat)} {is : List AJ} {sk : List AItem} {R : AV → Heap → Prop} {e : Env} {bytes : Nat} (g : GrowX sz w l hp) (hb : (2 * (l.length + new.length)) * bytes ≤ 281474976710656)
    (k : ∀ w' hp', GrowX sz w' (l ++ new) hp' → vc2 C n is sk (kp (put e d w') ks) (hp' ++ h) R) : resK C n d ks is sk R e (hp ++ h) (appR (hp ++ h) sz bytes w new) := by
  cases g with
  | nil =>
    simp only [appR_n, List.nil_append]
    refine ⟨fun he => ?_, fun _ => ⟨by simpa using hb, fun id _ => ?_⟩⟩
    · have : new = [] := by cases new <;> simp_all
      subst this
      exact k _ _ .nil
    · have := k _ _ (.sl id new [] new.length rfl)
      simpa using this
  | sl id l ex m hm =>
    subst hm
    have hd : hdel ((id, ⟨sz, l ++ ex⟩) :: h) id = h := by simp [hdel]
    rw [appR_ln]
    refine ⟨rfl, ⟨sz, l ++ ex⟩, by simp [hget], rfl, by simp, rfl, hb, fun id' _ => ?_⟩
    have := k _ _ (.sl id' (l ++ new) [] (l.length + new.length) (by simp))
    simpa [hd] using this
/-- Lent: it reads as frozen. -/
theorem GrowX.lent {w : AV} {l : List AV} {hp : Heap} (h : GrowX 1 w l hp) : Wk (lend1 hp w) (.snap 1 l) := by
  cases h with
  | nil => exact Wk.nil 1
  | sl id l ex n hn =>
    subst hn
    have : lend1 [(id, (⟨1, l ++ ex⟩ : Blk))] (.sl id 1 0 l.length none) = .snap 1 l := by simp [lend1, fz]
    rw [this]
    exact Wk.refl _
abbrev k135_o0 : List AJ := [.o ⟨(some 4), none, false, .mv (.c .nilsl), (some [0, 1])⟩]
abbrev k135_o1 : List AJ := [.o ⟨(some 5), none, false, .mv (.t 1), none⟩, .o ⟨(some 6), none, false, .bin .lss (.t 5) (.c (.int .i64 0)), (some [0, 1, 6])⟩]
def k135_2 : ACode := .cond (.t 6) .bad .skip
def k135_3 : ACode := .seq (.region k135_o1) k135_2
abbrev k135_o2 : List AJ := [.o ⟨(some 8), none, false, .mv (.t 1), none⟩, .o ⟨(some 9), none, false, .mv (.t 0), none⟩, .o ⟨(some 10), none, false, .capk (.t 9), none⟩, .o ⟨(some 11), none, false, .mv (.t 0), none⟩, .o ⟨(some 12), none, false, .len (.t 11), none⟩, .o ⟨(some 13), none, true, .bin .sub (.t 10) (.t 12), none⟩, .o ⟨(some 14), none, true, .bin .sub (.t 8) (.t 13), none⟩, .o ⟨(some 1), none, false, .mv (.t 14), (some [0, 1])⟩]
abbrev k135_o3 : List AJ := [.o ⟨(some 15), none, false, .mv (.t 1), none⟩, .o ⟨(some 16), none, false, .bin .gtr (.t 15) (.c (.int .i64 0)), (some [0, 1, 16])⟩]
abbrev k135_o4 : List AJ := [.o ⟨(some 17), none, false, .mv (.t 0), none⟩, .o ⟨(some 18), none, false, .mv (.t 0), none⟩, .o ⟨(some 19), none, false, .capk (.t 18), none⟩, .o ⟨(some 20), none, false, .slice 1 (.t 17) none (some (.t 19)) none, none⟩, .o ⟨(some 21), none, false, .mv (.t 1), none⟩, .o ⟨(some 22), none, false, .appendz 1 8 (.int .i64 0) (.t 20) (.t 21), none⟩, .o ⟨(some 23), none, false, .mv (.t 0), none⟩, .o ⟨(some 24), none, false, .len (.t 23), none⟩, .o ⟨(some 25), none, false, .slice 1 (.t 22) none (some (.t 24)) none, none⟩, .o ⟨(some 0), none, false, .mv (.t 25), (some [0])⟩]
def k135_6 : ACode := .region k135_o4
def k135_7 : ACode := .cond (.t 16) k135_6 .skip
def k135_8 : ACode := .seq (.region k135_o3) k135_7
def k135_9 : ACode := .seq (.region k135_o2) k135_8
abbrev k135_o5 : List AJ := [.o ⟨(some 26), none, false, .mv (.t 0), none⟩, .o ⟨(some 4), none, false, .mv (.t 26), (some [4])⟩]
def k135_11 : ACode := .seq (.region k135_o5) .ret
def k135_12 : ACode := .seq k135_9 k135_11
def k135_13 : ACode := .seq k135_3 k135_12
def k135_14 : ACode := .seq (.region k135_o0) k135_13
@[simp, simp ↓] theorem k135_2r : rC k135_2 (.t 6) .bad .skip := zC rfl
@[simp, simp ↓] theorem k135_3r : sR k135_3 k135_o1 k135_2 := yR rfl
@[simp, simp ↓] theorem k135_6r : rR k135_6 k135_o4 := zR rfl
@[simp, simp ↓] theorem k135_7r : rC k135_7 (.t 16) k135_6 .skip := zC rfl
@[simp, simp ↓] theorem k135_8r : sR k135_8 k135_o3 k135_7 := yR rfl
@[simp, simp ↓] theorem k135_9r : sR k135_9 k135_o2 k135_8 := yR rfl
@[simp, simp ↓] theorem k135_11r : sR k135_11 k135_o5 .ret := yR rfl
@[simp, simp ↓] theorem k135_12r : rS k135_12 k135_9 k135_11 := zS rfl
@[simp, simp ↓] theorem k135_13r : rS k135_13 k135_3 k135_12 := zS rfl
@[simp, simp ↓] theorem k135_14r : sR k135_14 k135_o0 k135_13 := yR rfl
noncomputable abbrev k135_C : Orc → Cx := mkC Tryd.prog [] 135 27 [.tmp 4]
theorem k135_of0 : OfP0 Tryd.prog Tryd.f135 135 27 k135_C k135_14 := @ofP0 _ _ _ _ _ _ _ _ Tryd.func135 (by decide +kernel) rfl (by kernel_rfl) rfl (by kernel_rfl)
theorem GrowI_g (n : Nat) (h : Heap) (hn : n ≤ 1048576) : ACalls Tryd.prog 135 [.nilsl, .int .i64 n] h (fun v h' => ∃ hp, GrowX 1 v [] hp ∧ h' = hp ++ h) := by
  refine k135_of0 rfl noPure fun I => ?_
  refine Run2.of I 1000 ?_
  simp -implicitDefEqProofs
  refine ⟨by omega, fun h1 => ⟨h1, by omega, fun id _ => ⟨[(id, ⟨1, [] ++ List.replicate n (.int .i64 0)⟩)], .sl id [] _ 0 rfl, by simp⟩⟩, fun _ => .nil⟩
abbrev k125_o0 : List AJ := [.o ⟨(some 2), none, false, .mv (.c .nilsl), (some [0])⟩]
abbrev k125_o1 : List AJ := [.o ⟨(some 3), none, false, .mv (.c (.int .i64 0)), (some [0, 3])⟩]
abbrev k125_o2 : List AJ := [.o ⟨(some 9), none, false, .mv (.t 0), none⟩, .o ⟨(some 10), none, false, .len (.t 9), none⟩, .o ⟨(some 11), none, false, .mv (.c (.int .i64 0)), (some [0, 3, 9, 10, 11])⟩]
abbrev k125_o3 : List AJ := [.o ⟨(some 12), none, false, .bin .lss (.t 11) (.t 10), (some [0, 3, 9, 10, 11, 12])⟩]
abbrev k125_o4 : List AJ := [.o ⟨(some 13), none, false, .idxA 1 (.t 9) (.t 11), none⟩, .o ⟨(some 14), none, false, .load 1 false (.t 13), none⟩, .o ⟨(some 5), none, false, .mv (.t 14), (some [0, 3, 5, 9, 10, 11])⟩]
abbrev k125_o5 : List AJ := [.o ⟨(some 15), none, false, .mv (.t 3), none⟩, .o ⟨(some 16), none, false, .mv (.t 5), none⟩, .o ⟨(some 17), none, false, .len (.t 16), none⟩, .o ⟨(some 18), none, true, .bin .add (.t 15) (.t 17), none⟩, .o ⟨(some 3), none, false, .mv (.t 18), (some [0, 3, 9, 10, 11])⟩]
abbrev k125_o6 : List AJ := [.o ⟨(some 19), none, false, .mv (.t 3), none⟩, .o ⟨(some 20), none, false, .bin .lss (.t 19) (.c (.int .i64 0)), (some [0, 3, 9, 10, 11, 20])⟩]
def k125_8 : ACode := .cond (.t 20) .bad .skip
def k125_9 : ACode := .seq (.region k125_o6) k125_8
def k125_10 : ACode := .seq (.region k125_o5) k125_9
def k125_11 : ACode := .seq (.region k125_o4) k125_10
abbrev k125_o7 : List AJ := [.o ⟨(some 22), none, true, .bin .add (.t 11) (.c (.int .i64 1)), none⟩, .o ⟨(some 11), none, false, .mv (.t 22), (some [0, 3, 9, 10, 11])⟩]
def k125_13 : ACode := .region k125_o7
def k125_14 : ACode := .seq (.block 1 k125_11) k125_13
def k125_15 : ACode := .seq (.cond (.t 12) .skip (.exit 0)) k125_14
def k125_16 : ACode := .seq (.region k125_o3) k125_15
def k125_17 : ACode := .loop k125_16
def k125_18 : ACode := .block 0 k125_17
def k125_19 : ACode := .seq (.region k125_o2) k125_18
abbrev k125_o8 : List AJ := [.o ⟨(some 23), none, false, .mv (.t 3), none⟩, .o ⟨(some 24), none, false, .call 135 [(.c .nilsl), (.t 23)], none⟩, .o ⟨(some 6), none, false, .mv (.t 24), (some [0, 6])⟩]
abbrev k125_o9 : List AJ := [.o ⟨(some 25), none, false, .mv (.t 0), none⟩, .o ⟨(some 26), none, false, .len (.t 25), none⟩, .o ⟨(some 27), none, false, .mv (.c (.int .i64 0)), (some [6, 25, 26, 27])⟩]
abbrev k125_o10 : List AJ := [.o ⟨(some 28), none, false, .bin .lss (.t 27) (.t 26), (some [6, 25, 26, 27, 28])⟩]
abbrev k125_o11 : List AJ := [.o ⟨(some 29), none, false, .idxA 1 (.t 25) (.t 27), none⟩, .o ⟨(some 30), none, false, .load 1 false (.t 29), none⟩, .o ⟨(some 8), none, false, .mv (.t 30), (some [6, 8, 25, 26, 27])⟩]
abbrev k125_o12 : List AJ := [.o ⟨(some 31), none, false, .mv (.t 6), none⟩, .o ⟨(some 32), none, false, .mv (.t 8), none⟩, .o ⟨(some 33), none, false, .append 1 8 (.t 31) (.t 32), none⟩, .o ⟨(some 6), none, false, .mv (.t 33), (some [6, 25, 26, 27])⟩]
def k125_25 : ACode := .region k125_o12
def k125_26 : ACode := .seq (.region k125_o11) k125_25
abbrev k125_o13 : List AJ := [.o ⟨(some 34), none, true, .bin .add (.t 27) (.c (.int .i64 1)), none⟩, .o ⟨(some 27), none, false, .mv (.t 34), (some [6, 25, 26, 27])⟩]
def k125_28 : ACode := .region k125_o13
def k125_29 : ACode := .seq (.block 3 k125_26) k125_28
def k125_30 : ACode := .seq (.cond (.t 28) .skip (.exit 2)) k125_29
def k125_31 : ACode := .seq (.region k125_o10) k125_30
def k125_32 : ACode := .loop k125_31
def k125_33 : ACode := .block 2 k125_32
def k125_34 : ACode := .seq (.region k125_o9) k125_33
abbrev k125_o14 : List AJ := [.o ⟨(some 35), none, false, .mv (.t 6), none⟩, .o ⟨(some 2), none, false, .mv (.t 35), (some [2])⟩]
def k125_36 : ACode := .seq (.region k125_o14) .ret
def k125_37 : ACode := .seq k125_34 k125_36
def k125_38 : ACode := .seq (.region k125_o8) k125_37
def k125_39 : ACode := .seq k125_19 k125_38
def k125_40 : ACode := .seq (.region k125_o1) k125_39
def k125_41 : ACode := .seq (.region k125_o0) k125_40
@[simp, simp ↓] theorem k125_8r : rC k125_8 (.t 20) .bad .skip := zC rfl
@[simp, simp ↓] theorem k125_9r : sR k125_9 k125_o6 k125_8 := yR rfl
@[simp, simp ↓] theorem k125_10r : sR k125_10 k125_o5 k125_9 := yR rfl
@[simp, simp ↓] theorem k125_11r : sR k125_11 k125_o4 k125_10 := yR rfl
@[simp, simp ↓] theorem k125_13r : rR k125_13 k125_o7 := zR rfl
@[simp, simp ↓] theorem k125_14r : sB k125_14 1 k125_11 k125_13 := yB rfl
@[simp, simp ↓] theorem k125_15r : sC k125_15 (.t 12) .skip (.exit 0) k125_14 := yC rfl
@[simp, simp ↓] theorem k125_16r : sR k125_16 k125_o3 k125_15 := yR rfl
@[simp, simp ↓] theorem k125_17r : rL k125_17 k125_16 := zL rfl
@[simp, simp ↓] theorem k125_18r : rB k125_18 0 k125_17 := zB rfl
@[simp, simp ↓] theorem k125_19r : sR k125_19 k125_o2 k125_18 := yR rfl
@[simp, simp ↓] theorem k125_25r : rR k125_25 k125_o12 := zR rfl
@[simp, simp ↓] theorem k125_26r : sR k125_26 k125_o11 k125_25 := yR rfl
@[simp, simp ↓] theorem k125_28r : rR k125_28 k125_o13 := zR rfl
@[simp, simp ↓] theorem k125_29r : sB k125_29 3 k125_26 k125_28 := yB rfl
@[simp, simp ↓] theorem k125_30r : sC k125_30 (.t 28) .skip (.exit 2) k125_29 := yC rfl
@[simp, simp ↓] theorem k125_31r : sR k125_31 k125_o10 k125_30 := yR rfl
@[simp, simp ↓] theorem k125_32r : rL k125_32 k125_31 := zL rfl
@[simp, simp ↓] theorem k125_33r : rB k125_33 2 k125_32 := zB rfl
@[simp, simp ↓] theorem k125_34r : sR k125_34 k125_o9 k125_33 := yR rfl
@[simp, simp ↓] theorem k125_36r : sR k125_36 k125_o14 .ret := yR rfl
@[simp, simp ↓] theorem k125_37r : rS k125_37 k125_34 k125_36 := zS rfl
@[simp, simp ↓] theorem k125_38r : sR k125_38 k125_o8 k125_37 := yR rfl
@[simp, simp ↓] theorem k125_39r : rS k125_39 k125_19 k125_38 := zS rfl
@[simp, simp ↓] theorem k125_40r : sR k125_40 k125_o1 k125_39 := yR rfl
@[simp, simp ↓] theorem k125_41r : sR k125_41 k125_o0 k125_40 := yR rfl
noncomputable abbrev k125_C : Orc → Cx := mkC Tryd.prog [] 125 36 [.tmp 2]
theorem k125_of0 : OfP0 Tryd.prog Tryd.f125 125 36 k125_C k125_41 := @ofP0 _ _ _ _ _ _ _ _ Tryd.func125 (by decide +kernel) rfl (by kernel_rfl) rfl (by kernel_rfl)
theorem ConcatI_g (parts : List (List AV)) (h : Heap) (hl : parts.length ≤ 1048576) (ht : parts.flatten.length ≤ 1048576) : ACalls Tryd.prog 125 [.snap 1 (parts.map (.snap 1))] h (fun v h' => ∃ hp, GrowX 1 v parts.flatten hp ∧ h' = hp ++ h) := by
  have hfl : ∀ i, (parts.take i).flatten.length ≤ parts.flatten.length := fun i => by
    conv => rhs; rw [← List.take_append_drop i parts]
    rw [List.flatten_append, List.length_append]; omega
  have hfs : ∀ i (hi : i < parts.length), (parts.take (i + 1)).flatten = (parts.take i).flatten ++ parts[i] := fun i hi => by
    rw [List.take_succ_eq_append_getElem hi, List.flatten_append]; simp
  refine k125_of0 rfl noPure fun I => ?_
  refine Run2.of I 1000 ?_
  simp -implicitDefEqProofs
  refine Run2.loopE (fun (i : Nat) => [(0, .snap 1 (parts.map (.snap 1))), (3, .int .i64 ((parts.take i).flatten.length : Nat)), (9, .snap 1 (parts.map (.snap 1))), (10, .int .i64 parts.length), (11, .int .i64 i)]) (fun i => h) (fun i => parts.length - i) (fun i => i ≤ parts.length) 0 (by simp) rfl (Nat.zero_le _) fun i hi ih => ?_
  by_cases hlt : i < parts.length
  · have go := ih (i + 1) (by omega) (by omega)
    have h1 := hfl (i + 1)
    rw [hfs i hlt, List.length_append] at go h1
    clear ih
    generalize hL : (parts.take i).flatten.length = L at *
    generalize hP : parts[i] = p at *
    refine Run2.of I 1000 ?_
    simp -implicitDefEqProofs [hlt, hP]
    refine ⟨by omega, by omega, fun _ => ⟨by omega, ?_⟩⟩
    simpa using go
  · obtain rfl : i = parts.length := by omega
    rw [List.take_length]
    refine Run2.of I 1000 ?_
    simp -implicitDefEqProofs
    have hS : (parts.map List.length).sum ≤ 1048576 := by rw [← List.length_flatten]; exact ht
    refine (GrowI_g _ h hS).mono ?_
    rintro v h' ⟨hp0, g0, rfl⟩
    have hcell0 := g0.cell
    refine gK.go ?_
    simp -implicitDefEqProofs [hcell0]
    refine Run2.loopE (α := Nat × AV × Heap) (fun s => [(6, s.2.1), (25, .snap 1 (parts.map (.snap 1))), (26, .int .i64 parts.length), (27, .int .i64 (s.1 : Nat))]) (fun s => s.2.2 ++ h) (fun s => parts.length - s.1) (fun s => s.1 ≤ parts.length ∧ GrowX 1 s.2.1 (parts.take s.1).flatten s.2.2) (0, v, hp0) (by simp) rfl ⟨Nat.zero_le _, by simpa using g0⟩ ?_
    rintro ⟨i, w, hp⟩ ⟨hi2, hg⟩ ih2
    simp only at hi2 hg
    have hcell := hg.cell
    by_cases hlt : i < parts.length
    · have go := fun w' hp' (g : GrowX 1 w' ((parts.take i).flatten ++ parts[i]) hp') => ih2 (i + 1, w', hp') ⟨hlt, by simp only; rw [hfs i hlt]; exact g⟩ (by simp; omega)
      have h1 := hfl (i + 1)
      rw [hfs i hlt, List.length_append] at h1
      clear ih2
      generalize hP : parts[i] = p at *
      refine Run2.of I 1000 ?_
      simp -implicitDefEqProofs [hlt, hP, hcell]
      refine hg.app (by omega) fun w' hp' hg' => ?_
      have hcell' := hg'.cell
      simp -implicitDefEqProofs [hcell']
      refine ⟨by omega, ?_⟩
      simpa using go w' hp' hg'
    · obtain rfl : i = parts.length := by omega
      rw [List.take_length] at hg
      refine Run2.of I 1000 ?_
      simp -implicitDefEqProofs [hcell]
      exact hg
theorem flatten2 (a b : List AV) : [a, b].flatten = a ++ b := by simp
theorem ConcatI_f (a b : List Int) (h : Heap) (ha : a.length + b.length ≤ 1048576) : ACalls Tryd.prog 125 [.snap 1 [.snap 1 (a.map iv), .snap 1 (b.map iv)]] h (fun v h' => v = il (a ++ b) ∧ h' = h) := by
  have := ConcatI_g [a.map iv, b.map iv] h (by simp) (by simpa using ha)
  rw [flatten2] at this
  refine ACalls.post (ACalls.mono (by simpa using this) ?_)
  rintro v h' ⟨hp, g, rfl⟩
  refine Post.lend (.wk g.lent (.base ⟨?_, rfl⟩))
  simp
end Go.AG
