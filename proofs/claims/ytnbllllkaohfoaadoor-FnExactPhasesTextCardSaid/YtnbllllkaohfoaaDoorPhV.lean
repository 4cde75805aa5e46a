/- Small functions of the program and of the reference that have no effect, and what they give. No statement is made here. -/
import Derived.Test.YtnbllllkaohfoaaDoorPhA
namespace Go.AG.P
open Go.Proofs Go.Proofs.YtnbllllkaohfoaaDoor
set_option linter.unusedSimpArgs false
set_option linter.unusedVariables false
set_option maxRecDepth 4000
abbrev k75_o0 : List AJ := [.o ⟨(some 6), none, false, .mv (.c (.bool false)), (some [0, 1, 2])⟩]
abbrev k75_o1 : List AJ := [.o ⟨(some 7), none, false, .mv (.t 0), none⟩, .o ⟨(some 8), none, false, .mv (.t 1), none⟩, .o ⟨(some 9), none, false, .bin .geq (.t 7) (.t 8), none⟩, .o ⟨(some 10), none, false, .mv (.t 9), none⟩, .o ⟨(some 11), (some (10, true)), false, .mv (.t 0), none⟩, .o ⟨(some 12), (some (10, true)), false, .mv (.t 2), none⟩, .o ⟨(some 13), (some (10, true)), false, .bin .leq (.t 11) (.t 12), none⟩, .o ⟨(some 14), none, false, .pick (.t 10) (.t 13) (.c (.bool false)), none⟩, .o ⟨(some 6), none, false, .mv (.t 14), (some [6])⟩]
def k75_2 : ACode := .seq (.region k75_o1) .ret
def k75_3 : ACode := .seq (.region k75_o0) k75_2
@[simp, simp ↓] theorem k75_2r : sR k75_2 k75_o1 .ret := yR rfl
@[simp, simp ↓] theorem k75_3r : sR k75_3 k75_o0 k75_2 := yR rfl
noncomputable abbrev k75_C : Orc → Cx := mkC Tryd.prog [] 75 15 [.tmp 6]
theorem k75_of0 : OfP0 Tryd.prog Tryd.f75 75 15 k75_C k75_3 := @ofP0 _ _ _ _ _ _ _ _ Tryd.func75 (by decide +kernel) rfl (by kernel_rfl) rfl (by kernel_rfl)
theorem l00In_c (a b c : Int) (h : Heap) : ACalls Tryd.prog 75 [.int .i64 a, .int .i64 b, .int .i64 c] h (fun v h' => v = .bool (decide (b ≤ a) && decide (a ≤ c)) ∧ h' = h) := by
  refine k75_of0 rfl noPure fun I => ?_
  refine Run2.of I 1000 ?_
  simp -implicitDefEqProofs
  grind
noncomputable def o_l00In : List AV → Option (Prop × AV) := tab (fun (x : Int × Int × Int) => match x with | (a, b, c) => [.int .i64 a, .int .i64 b, .int .i64 c]) (fun x => match x with | (a, b, c) => True) (fun x => match x with | (a, b, c) => .bool (decide (b ≤ a) && decide (a ≤ c)))
@[simp] theorem o_l00In_e (a : Int) (b : Int) (c : Int) : o_l00In [.int .i64 a, .int .i64 b, .int .i64 c] = some (True, .bool (decide (b ≤ a) && decide (a ≤ c))) := tab_at (enc := fun (x : Int × Int × Int) => match x with | (a, b, c) => [.int .i64 a, .int .i64 b, .int .i64 c]) (fun x y h => by
  obtain ⟨a1, b1, c1⟩ := x; obtain ⟨a2, b2, c2⟩ := y; simp at h; simp [h] <;> omega) _ _ (a, b, c)
theorem o_l00In_k : Knows Tryd.prog 75 o_l00In := tab_knows fun x hx h => by
  obtain ⟨a, b, c⟩ := x; exact l00In_c _ _ _ h
abbrev k72_o0 : List AJ := [.o ⟨(some 6), none, false, .mv (.c (.bool false)), (some [0, 1, 2])⟩]
abbrev k72_o1 : List AJ := [.o ⟨(some 7), none, false, .mv (.t 0), none⟩, .o ⟨(some 8), none, false, .mv (.t 1), none⟩, .o ⟨(some 9), none, false, .bin .geq (.t 7) (.t 8), none⟩, .o ⟨(some 10), none, false, .mv (.t 9), none⟩, .o ⟨(some 11), (some (10, true)), false, .mv (.t 0), none⟩, .o ⟨(some 12), (some (10, true)), false, .mv (.t 2), none⟩, .o ⟨(some 13), (some (10, true)), false, .bin .leq (.t 11) (.t 12), none⟩, .o ⟨(some 14), none, false, .pick (.t 10) (.t 13) (.c (.bool false)), none⟩, .o ⟨(some 6), none, false, .mv (.t 14), (some [6])⟩]
def k72_2 : ACode := .seq (.region k72_o1) .ret
def k72_3 : ACode := .seq (.region k72_o0) k72_2
@[simp, simp ↓] theorem k72_2r : sR k72_2 k72_o1 .ret := yR rfl
@[simp, simp ↓] theorem k72_3r : sR k72_3 k72_o0 k72_2 := yR rfl
noncomputable abbrev k72_C : Orc → Cx := mkC Tryd.prog [] 72 15 [.tmp 6]
theorem k72_of0 : OfP0 Tryd.prog Tryd.f72 72 15 k72_C k72_3 := @ofP0 _ _ _ _ _ _ _ _ Tryd.func72 (by decide +kernel) rfl (by kernel_rfl) rfl (by kernel_rfl)
theorem within_c (a b c : Int) (h : Heap) : ACalls Tryd.prog 72 [.int .i64 a, .int .i64 b, .int .i64 c] h (fun v h' => v = .bool (decide (b ≤ a) && decide (a ≤ c)) ∧ h' = h) := by
  refine k72_of0 rfl noPure fun I => ?_
  refine Run2.of I 1000 ?_
  simp -implicitDefEqProofs
  grind
noncomputable def o_within : List AV → Option (Prop × AV) := tab (fun (x : Int × Int × Int) => match x with | (a, b, c) => [.int .i64 a, .int .i64 b, .int .i64 c]) (fun x => match x with | (a, b, c) => True) (fun x => match x with | (a, b, c) => .bool (decide (b ≤ a) && decide (a ≤ c)))
@[simp] theorem o_within_e (a : Int) (b : Int) (c : Int) : o_within [.int .i64 a, .int .i64 b, .int .i64 c] = some (True, .bool (decide (b ≤ a) && decide (a ≤ c))) := tab_at (enc := fun (x : Int × Int × Int) => match x with | (a, b, c) => [.int .i64 a, .int .i64 b, .int .i64 c]) (fun x y h => by
  obtain ⟨a1, b1, c1⟩ := x; obtain ⟨a2, b2, c2⟩ := y; simp at h; simp [h] <;> omega) _ _ (a, b, c)
theorem o_within_k : Knows Tryd.prog 72 o_within := tab_knows fun x hx h => by
  obtain ⟨a, b, c⟩ := x; exact within_c _ _ _ h
abbrev k95_o0 : List AJ := [.o ⟨(some 2), none, false, .mv (.c (.bool false)), (some [0])⟩]
abbrev k95_o1 : List AJ := [.o ⟨(some 3), none, false, .mv (.t 0), none⟩, .o ⟨(some 4), none, false, .mv (.t 0), none⟩, .o ⟨(some 5), none, false, .bin .neq (.t 3) (.t 4), none⟩, .o ⟨(some 2), none, false, .mv (.t 5), (some [2])⟩]
def k95_2 : ACode := .seq (.region k95_o1) .ret
def k95_3 : ACode := .seq (.region k95_o0) k95_2
@[simp, simp ↓] theorem k95_2r : sR k95_2 k95_o1 .ret := yR rfl
@[simp, simp ↓] theorem k95_3r : sR k95_3 k95_o0 k95_2 := yR rfl
noncomputable abbrev k95_C : Orc → Cx := mkC Tryd.prog [] 95 6 [.tmp 2]
theorem k95_of0 : OfP0 Tryd.prog Tryd.f95 95 6 k95_C k95_3 := @ofP0 _ _ _ _ _ _ _ _ Tryd.func95 (by decide +kernel) rfl (by kernel_rfl) rfl (by kernel_rfl)
theorem isNaN_c (a : Int) (h : Heap) : ACalls Tryd.prog 95 [.int .i64 a] h (fun v h' => v = .bool false ∧ h' = h) := by
  refine k95_of0 rfl noPure fun I => ?_
  refine Run2.of I 1000 ?_
  simp -implicitDefEqProofs
noncomputable def o_isNaN : List AV → Option (Prop × AV) := tab (fun (x : Int) => match x with | a => [.int .i64 a]) (fun x => match x with | a => True) (fun x => match x with | a => .bool false)
@[simp] theorem o_isNaN_e (a : Int) : o_isNaN [.int .i64 a] = some (True, .bool false) := tab_at (enc := fun (x : Int) => match x with | a => [.int .i64 a]) (fun x y h => by
  simp at h; simp [h] <;> omega) _ _ a
theorem o_isNaN_k : Knows Tryd.prog 95 o_isNaN := tab_knows fun x hx h => by
  exact isNaN_c _ h
noncomputable def orc1 : List (Nat × (List AV → Option (Prop × AV))) := (75, o_l00In) :: (72, o_within) :: (95, o_isNaN) :: []
theorem orc1_p : Pure Tryd.prog (lk orc1) := (lk_pure o_l00In_k (lk_pure o_within_k (lk_pure o_isNaN_k lk_pure0)))
@[simp] theorem orc1_l (b : Bool) (g : FuncId) (l : List AV) : lk orc1 b g l = if g = 75 then o_l00In l else if g = 72 then o_within l else if g = 95 then o_isNaN l else none := nr rfl
abbrev k60_o0 : List AJ := [.o ⟨(some 4), none, false, .mv (.c (.bool false)), (some [0, 1])⟩]
abbrev k60_o1 : List AJ := [.o ⟨(some 5), none, false, .mv (.t 0), none⟩, .o ⟨(some 6), none, false, .mv (.t 1), none⟩, .o ⟨(some 7), none, false, .bin .sub (.t 6) (.c (.int .i64 1)), none⟩, .o ⟨(some 8), none, false, .call 72 [(.t 5), (.c (.int .i64 0)), (.t 7)], none⟩, .o ⟨(some 4), none, false, .mv (.t 8), (some [4])⟩]
def k60_2 : ACode := .seq (.region k60_o1) .ret
def k60_3 : ACode := .seq (.region k60_o0) k60_2
@[simp, simp ↓] theorem k60_2r : sR k60_2 k60_o1 .ret := yR rfl
@[simp, simp ↓] theorem k60_3r : sR k60_3 k60_o0 k60_2 := yR rfl
noncomputable abbrev k60_C : Orc → Cx := mkC Tryd.prog [] 60 9 [.tmp 4]
theorem k60_of0 : OfP0 Tryd.prog Tryd.f60 60 9 k60_C k60_3 := @ofP0 _ _ _ _ _ _ _ _ Tryd.func60 (by decide +kernel) rfl (by kernel_rfl) rfl (by kernel_rfl)
theorem isElement_c (a p : Int) (h : Heap) : ACalls Tryd.prog 60 [.int .i64 a, .int .i64 p] h (fun v h' => v = .bool (decide (0 ≤ a) && decide (a ≤ IntKind.i64.wrap (p - 1))) ∧ h' = h) := by
  refine k60_of0 rfl orc1_p fun I => ?_
  refine Run2.of I 1000 ?_
  simp -implicitDefEqProofs
noncomputable def o_isElement : List AV → Option (Prop × AV) := tab (fun (x : Int × Int) => match x with | (a, p) => [.int .i64 a, .int .i64 p]) (fun x => match x with | (a, p) => True) (fun x => match x with | (a, p) => .bool (decide (0 ≤ a) && decide (a ≤ IntKind.i64.wrap (p - 1))))
@[simp] theorem o_isElement_e (a : Int) (p : Int) : o_isElement [.int .i64 a, .int .i64 p] = some (True, .bool (decide (0 ≤ a) && decide (a ≤ IntKind.i64.wrap (p - 1)))) := tab_at (enc := fun (x : Int × Int) => match x with | (a, p) => [.int .i64 a, .int .i64 p]) (fun x y h => by
  obtain ⟨a1, p1⟩ := x; obtain ⟨a2, p2⟩ := y; simp at h; simp [h] <;> omega) _ _ (a, p)
theorem o_isElement_k : Knows Tryd.prog 60 o_isElement := tab_knows fun x hx h => by
  obtain ⟨a, p⟩ := x; exact isElement_c _ _ h
def cmpI (a b : Int) : Int := if a < b then -1 else if b < a then 1 else 0
abbrev k78_o0 : List AJ := [.o ⟨(some 4), none, false, .mv (.c (.int .i64 0)), (some [0, 1])⟩]
abbrev k78_o1 : List AJ := [.o ⟨(some 7), none, false, .mv (.t 0), none⟩, .o ⟨(some 8), none, false, .call 95 [(.t 7)], none⟩, .o ⟨(some 5), none, false, .mv (.t 8), (some [0, 1, 5])⟩]
abbrev k78_o2 : List AJ := [.o ⟨(some 9), none, false, .mv (.t 1), none⟩, .o ⟨(some 10), none, false, .call 95 [(.t 9)], none⟩, .o ⟨(some 6), none, false, .mv (.t 10), (some [0, 1, 5, 6])⟩]
abbrev k78_o3 : List AJ := [.o ⟨(some 11), none, false, .mv (.t 5), (some [0, 1, 6, 11])⟩]
abbrev k78_o4 : List AJ := [.o ⟨(some 12), none, false, .mv (.t 6), (some [12])⟩]
abbrev k78_o5 : List AJ := [.o ⟨(some 4), none, false, .mv (.c (.int .i64 0)), (some [4])⟩]
def k78_6 : ACode := .seq (.region k78_o5) .ret
def k78_7 : ACode := .cond (.t 12) k78_6 .skip
def k78_8 : ACode := .seq (.region k78_o4) k78_7
abbrev k78_o6 : List AJ := [.o ⟨(some 4), none, false, .mv (.c (.int .i64 (-1))), (some [4])⟩]
def k78_10 : ACode := .seq (.region k78_o6) .ret
def k78_11 : ACode := .seq k78_8 k78_10
def k78_12 : ACode := .cond (.t 11) k78_11 .skip
def k78_13 : ACode := .seq (.region k78_o3) k78_12
abbrev k78_o7 : List AJ := [.o ⟨(some 13), none, false, .mv (.t 6), (some [0, 1, 13])⟩]
abbrev k78_o8 : List AJ := [.o ⟨(some 4), none, false, .mv (.c (.int .i64 1)), (some [4])⟩]
def k78_16 : ACode := .seq (.region k78_o8) .ret
def k78_17 : ACode := .cond (.t 13) k78_16 .skip
def k78_18 : ACode := .seq (.region k78_o7) k78_17
abbrev k78_o9 : List AJ := [.o ⟨(some 14), none, false, .mv (.t 0), none⟩, .o ⟨(some 15), none, false, .mv (.t 1), none⟩, .o ⟨(some 16), none, false, .bin .lss (.t 14) (.t 15), (some [0, 1, 16])⟩]
abbrev k78_o10 : List AJ := [.o ⟨(some 4), none, false, .mv (.c (.int .i64 (-1))), (some [4])⟩]
def k78_21 : ACode := .seq (.region k78_o10) .ret
def k78_22 : ACode := .cond (.t 16) k78_21 .skip
def k78_23 : ACode := .seq (.region k78_o9) k78_22
abbrev k78_o11 : List AJ := [.o ⟨(some 17), none, false, .mv (.t 0), none⟩, .o ⟨(some 18), none, false, .mv (.t 1), none⟩, .o ⟨(some 19), none, false, .bin .gtr (.t 17) (.t 18), (some [19])⟩]
abbrev k78_o12 : List AJ := [.o ⟨(some 4), none, false, .mv (.c (.int .i64 1)), (some [4])⟩]
def k78_26 : ACode := .seq (.region k78_o12) .ret
def k78_27 : ACode := .cond (.t 19) k78_26 .skip
def k78_28 : ACode := .seq (.region k78_o11) k78_27
abbrev k78_o13 : List AJ := [.o ⟨(some 4), none, false, .mv (.c (.int .i64 0)), (some [4])⟩]
def k78_30 : ACode := .seq (.region k78_o13) .ret
def k78_31 : ACode := .seq k78_28 k78_30
def k78_32 : ACode := .seq k78_23 k78_31
def k78_33 : ACode := .seq k78_18 k78_32
def k78_34 : ACode := .seq k78_13 k78_33
def k78_35 : ACode := .seq (.region k78_o2) k78_34
def k78_36 : ACode := .seq (.region k78_o1) k78_35
def k78_37 : ACode := .seq (.region k78_o0) k78_36
@[simp, simp ↓] theorem k78_6r : sR k78_6 k78_o5 .ret := yR rfl
@[simp, simp ↓] theorem k78_7r : rC k78_7 (.t 12) k78_6 .skip := zC rfl
@[simp, simp ↓] theorem k78_8r : sR k78_8 k78_o4 k78_7 := yR rfl
@[simp, simp ↓] theorem k78_10r : sR k78_10 k78_o6 .ret := yR rfl
@[simp, simp ↓] theorem k78_11r : rS k78_11 k78_8 k78_10 := zS rfl
@[simp, simp ↓] theorem k78_12r : rC k78_12 (.t 11) k78_11 .skip := zC rfl
@[simp, simp ↓] theorem k78_13r : sR k78_13 k78_o3 k78_12 := yR rfl
@[simp, simp ↓] theorem k78_16r : sR k78_16 k78_o8 .ret := yR rfl
@[simp, simp ↓] theorem k78_17r : rC k78_17 (.t 13) k78_16 .skip := zC rfl
@[simp, simp ↓] theorem k78_18r : sR k78_18 k78_o7 k78_17 := yR rfl
@[simp, simp ↓] theorem k78_21r : sR k78_21 k78_o10 .ret := yR rfl
@[simp, simp ↓] theorem k78_22r : rC k78_22 (.t 16) k78_21 .skip := zC rfl
@[simp, simp ↓] theorem k78_23r : sR k78_23 k78_o9 k78_22 := yR rfl
@[simp, simp ↓] theorem k78_26r : sR k78_26 k78_o12 .ret := yR rfl
@[simp, simp ↓] theorem k78_27r : rC k78_27 (.t 19) k78_26 .skip := zC rfl
@[simp, simp ↓] theorem k78_28r : sR k78_28 k78_o11 k78_27 := yR rfl
@[simp, simp ↓] theorem k78_30r : sR k78_30 k78_o13 .ret := yR rfl
@[simp, simp ↓] theorem k78_31r : rS k78_31 k78_28 k78_30 := zS rfl
@[simp, simp ↓] theorem k78_32r : rS k78_32 k78_23 k78_31 := zS rfl
@[simp, simp ↓] theorem k78_33r : rS k78_33 k78_18 k78_32 := zS rfl
@[simp, simp ↓] theorem k78_34r : rS k78_34 k78_13 k78_33 := zS rfl
@[simp, simp ↓] theorem k78_35r : sR k78_35 k78_o2 k78_34 := yR rfl
@[simp, simp ↓] theorem k78_36r : sR k78_36 k78_o1 k78_35 := yR rfl
@[simp, simp ↓] theorem k78_37r : sR k78_37 k78_o0 k78_36 := yR rfl
noncomputable abbrev k78_C : Orc → Cx := mkC Tryd.prog [] 78 20 [.tmp 4]
theorem k78_of0 : OfP0 Tryd.prog Tryd.f78 78 20 k78_C k78_37 := @ofP0 _ _ _ _ _ _ _ _ Tryd.func78 (by decide +kernel) rfl (by kernel_rfl) rfl (by kernel_rfl)
theorem compare_c (a b : Int) (h : Heap) : ACalls Tryd.prog 78 [.int .i64 a, .int .i64 b] h (fun v h' => v = .int .i64 (cmpI a b) ∧ h' = h) := by
  refine k78_of0 rfl orc1_p fun I => ?_
  refine Run2.of I 1000 ?_
  simp -implicitDefEqProofs [cmpI]
  grind
noncomputable def o_compare : List AV → Option (Prop × AV) := tab (fun (x : Int × Int) => match x with | (a, b) => [.int .i64 a, .int .i64 b]) (fun x => match x with | (a, b) => True) (fun x => match x with | (a, b) => .int .i64 (cmpI a b))
@[simp] theorem o_compare_e (a : Int) (b : Int) : o_compare [.int .i64 a, .int .i64 b] = some (True, .int .i64 (cmpI a b)) := tab_at (enc := fun (x : Int × Int) => match x with | (a, b) => [.int .i64 a, .int .i64 b]) (fun x y h => by
  obtain ⟨a1, b1⟩ := x; obtain ⟨a2, b2⟩ := y; simp at h; simp [h] <;> omega) _ _ (a, b)
theorem o_compare_k : Knows Tryd.prog 78 o_compare := tab_knows fun x hx h => by
  obtain ⟨a, b⟩ := x; exact compare_c _ _ h
def orI : List Int → Int
  | [] => 0
  | x :: xs => if x = 0 then orI xs else x
abbrev k77_o0 : List AJ := [.o ⟨(some 2), none, false, .mv (.c (.int .i64 0)), (some [0])⟩]
abbrev k77_o1 : List AJ := [.o ⟨(some 3), none, false, .mv (.c (.int .i64 0)), (some [0, 3])⟩]
abbrev k77_o2 : List AJ := [.o ⟨(some 6), none, false, .mv (.t 0), none⟩, .o ⟨(some 7), none, false, .len (.t 6), none⟩, .o ⟨(some 8), none, false, .mv (.c (.int .i64 0)), (some [3, 6, 7, 8])⟩]
abbrev k77_o3 : List AJ := [.o ⟨(some 9), none, false, .bin .lss (.t 8) (.t 7), (some [3, 6, 7, 8, 9])⟩]
abbrev k77_o4 : List AJ := [.o ⟨(some 10), none, false, .idxA 1 (.t 6) (.t 8), none⟩, .o ⟨(some 11), none, false, .load 1 false (.t 10), none⟩, .o ⟨(some 5), none, false, .mv (.t 11), (some [3, 5, 6, 7, 8])⟩]
abbrev k77_o5 : List AJ := [.o ⟨(some 12), none, false, .mv (.t 5), none⟩, .o ⟨(some 13), none, false, .mv (.t 3), none⟩, .o ⟨(some 14), none, false, .bin .neq (.t 12) (.t 13), (some [3, 5, 6, 7, 8, 14])⟩]
abbrev k77_o6 : List AJ := [.o ⟨(some 15), none, false, .mv (.t 5), none⟩, .o ⟨(some 2), none, false, .mv (.t 15), (some [2])⟩]
def k77_8 : ACode := .seq (.region k77_o6) .ret
def k77_9 : ACode := .cond (.t 14) k77_8 .skip
def k77_10 : ACode := .seq (.region k77_o5) k77_9
def k77_11 : ACode := .seq (.region k77_o4) k77_10
abbrev k77_o7 : List AJ := [.o ⟨(some 16), none, true, .bin .add (.t 8) (.c (.int .i64 1)), none⟩, .o ⟨(some 8), none, false, .mv (.t 16), (some [3, 6, 7, 8])⟩]
def k77_13 : ACode := .region k77_o7
def k77_14 : ACode := .seq (.block 1 k77_11) k77_13
def k77_15 : ACode := .seq (.cond (.t 9) .skip (.exit 0)) k77_14
def k77_16 : ACode := .seq (.region k77_o3) k77_15
def k77_17 : ACode := .loop k77_16
def k77_18 : ACode := .block 0 k77_17
def k77_19 : ACode := .seq (.region k77_o2) k77_18
abbrev k77_o8 : List AJ := [.o ⟨(some 17), none, false, .mv (.t 3), none⟩, .o ⟨(some 2), none, false, .mv (.t 17), (some [2])⟩]
def k77_21 : ACode := .seq (.region k77_o8) .ret
def k77_22 : ACode := .seq k77_19 k77_21
def k77_23 : ACode := .seq (.region k77_o1) k77_22
def k77_24 : ACode := .seq (.region k77_o0) k77_23
@[simp, simp ↓] theorem k77_8r : sR k77_8 k77_o6 .ret := yR rfl
@[simp, simp ↓] theorem k77_9r : rC k77_9 (.t 14) k77_8 .skip := zC rfl
@[simp, simp ↓] theorem k77_10r : sR k77_10 k77_o5 k77_9 := yR rfl
@[simp, simp ↓] theorem k77_11r : sR k77_11 k77_o4 k77_10 := yR rfl
@[simp, simp ↓] theorem k77_13r : rR k77_13 k77_o7 := zR rfl
@[simp, simp ↓] theorem k77_14r : sB k77_14 1 k77_11 k77_13 := yB rfl
@[simp, simp ↓] theorem k77_15r : sC k77_15 (.t 9) .skip (.exit 0) k77_14 := yC rfl
@[simp, simp ↓] theorem k77_16r : sR k77_16 k77_o3 k77_15 := yR rfl
@[simp, simp ↓] theorem k77_17r : rL k77_17 k77_16 := zL rfl
@[simp, simp ↓] theorem k77_18r : rB k77_18 0 k77_17 := zB rfl
@[simp, simp ↓] theorem k77_19r : sR k77_19 k77_o2 k77_18 := yR rfl
@[simp, simp ↓] theorem k77_21r : sR k77_21 k77_o8 .ret := yR rfl
@[simp, simp ↓] theorem k77_22r : rS k77_22 k77_19 k77_21 := zS rfl
@[simp, simp ↓] theorem k77_23r : sR k77_23 k77_o1 k77_22 := yR rfl
@[simp, simp ↓] theorem k77_24r : sR k77_24 k77_o0 k77_23 := yR rfl
noncomputable abbrev k77_C : Orc → Cx := mkC Tryd.prog [] 77 18 [.tmp 2]
theorem k77_of0 : OfP0 Tryd.prog Tryd.f77 77 18 k77_C k77_24 := @ofP0 _ _ _ _ _ _ _ _ Tryd.func77 (by decide +kernel) rfl (by kernel_rfl) rfl (by kernel_rfl)
theorem or_c (l : List Int) (h : Heap) (hl : l.length ≤ 1048576) : ACalls Tryd.prog 77 [.snap 1 (l.map fun n => .int .i64 n)] h (fun v h' => v = .int .i64 (orI l) ∧ h' = h) := by
  refine k77_of0 rfl noPure fun I => ?_
  refine Run2.of I 1000 ?_
  simp -implicitDefEqProofs
  refine Run2.loop (fun i => [(3, .int .i64 0), (6, .snap 1 (l.map fun n => .int .i64 n)), (7, .int .i64 l.length), (8, .int .i64 (i : Nat))]) (fun i => h) (fun i => l.length - i) (fun i => i ≤ l.length ∧ orI (l.drop i) = orI l) 0 (by simp) fun i hi ih => ?_
  by_cases hlt : i < l.length
  · have hd : l.drop i = l[i] :: l.drop (i + 1) := List.drop_eq_getElem_cons hlt
    refine Run2.of I 1000 ?_
    simp -implicitDefEqProofs [hlt]
    constructor
    · intro hne
      rw [← hi.2, hd, orI, if_neg hne]
    · intro he
      refine ⟨by omega, ?_⟩
      have := ih (i + 1) ⟨by omega, by rw [← hi.2, hd, orI, if_pos he]⟩ (by omega)
      simpa using this
  · have : i = l.length := by omega
    have h2 := hi.2
    rw [List.drop_of_length_le (by omega)] at h2
    refine Run2.of I 1000 ?_
    simp -implicitDefEqProofs [hlt]
    exact h2
noncomputable def o_or2 : List AV → Option (Prop × AV) := tab (fun (x : Int × Int) => match x with | (a, b) => [.snap 1 [.int .i64 a, .int .i64 b]]) (fun x => match x with | (a, b) => True) (fun x => match x with | (a, b) => .int .i64 (orI [a, b]))
@[simp] theorem o_or2_e (a : Int) (b : Int) : o_or2 [.snap 1 [.int .i64 a, .int .i64 b]] = some (True, .int .i64 (orI [a, b])) := tab_at (enc := fun (x : Int × Int) => match x with | (a, b) => [.snap 1 [.int .i64 a, .int .i64 b]]) (fun x y h => by
  obtain ⟨a1, b1⟩ := x; obtain ⟨a2, b2⟩ := y; simp at h; simp [h] <;> omega) _ _ (a, b)
theorem o_or2_k : Knows Tryd.prog 77 o_or2 := tab_knows fun x hx h => by
  obtain ⟨a, b⟩ := x; exact or_c [a, b] h (by simp)
end Go.AG.P
