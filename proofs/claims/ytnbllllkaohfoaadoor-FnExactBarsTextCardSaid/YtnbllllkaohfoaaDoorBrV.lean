/- Small functions of bars that have no effect, and what they give. No statement is made here. -/
import Derived.Test.YtnbllllkaohfoaaDoorBrA
namespace Go.AG.B
open Go.Proofs Go.Proofs.YtnbllllkaohfoaaDoor
set_option linter.unusedSimpArgs false
set_option linter.unusedVariables false
set_option maxRecDepth 4000
abbrev k75_o0 : List AJ := [.o ⟨(some 6), none, false, .mv (.c (.bool false)), (some [0, 1, 2])⟩]
abbrev k75_o1 : List AJ := [.o ⟨(some 7), none, false, .mv (.t 0), none⟩, .o ⟨(some 8), none, false, .mv (.t 1), none⟩, .o ⟨(some 9), none, false, .bin .geq (.t 7) (.t 8), none⟩, .o ⟨(some 10), none, false, .mv (.t 9), none⟩, .o ⟨(some 11), (some (10, true)), false, .mv (.t 0), none⟩, .o ⟨(some 12), (some (10, true)), false, .mv (.t 2), none⟩, .o ⟨(some 13), (some (10, true)), false, .bin .leq (.t 11) (.t 12), none⟩, .o ⟨(some 14), none, false, .pick (.t 10) (.t 13) (.c (.bool false)), none⟩, .o ⟨(some 6), none, false, .mv (.t 14), (some [6])⟩]
def k75_2 : ACode := .seq (.region k75_o1) .ret
def k75_3 : ACode := .seq (.region k75_o0) k75_2
@[simp, simp ↓] theorem k75_2r : sR k75_2 k75_o1 .ret := yR rfl
@[simp, simp ↓] theorem k75_3r : sR k75_3 k75_o0 k75_2 := yR rfl
noncomputable abbrev k75_C : Orc → Cx := mkC Tryd.prog [] 75 15 [.tmp 6]
theorem k75_of0 : OfP0 Tryd.prog Tryd.f75 75 15 k75_C k75_3 := @ofP0 _ _ _ _ _ _ _ _ Tryd.func75 (by decide +kernel) rfl (by kernel_rfl) rfl (by kernel_rfl)
theorem l00In_c (a b c : Int) (h : Heap) : ACalls Tryd.prog 75 [.int .i64 a, .int .i64 b, .int .i64 c] h (fun v h' => v = .bool (decide (b ≤ a) && decide (a ≤ c)) ∧ h' = h) := by
  refine k75_of0 rfl noPure fun I => ?_
  refine Run2.of I 1000 ?_
  simp -implicitDefEqProofs
  grind
noncomputable def o_l00In : List AV → Option (Prop × AV) := tab (fun (x : Int × Int × Int) => match x with | (a, b, c) => [.int .i64 a, .int .i64 b, .int .i64 c]) (fun x => match x with | (a, b, c) => True) (fun x => match x with | (a, b, c) => .bool (decide (b ≤ a) && decide (a ≤ c)))
@[simp] theorem o_l00In_e (a : Int) (b : Int) (c : Int) : o_l00In [.int .i64 a, .int .i64 b, .int .i64 c] = some (True, .bool (decide (b ≤ a) && decide (a ≤ c))) := tab_at (enc := fun (x : Int × Int × Int) => match x with | (a, b, c) => [.int .i64 a, .int .i64 b, .int .i64 c]) (fun x y h => by
  obtain ⟨a1, b1, c1⟩ := x; obtain ⟨a2, b2, c2⟩ := y; simp at h; simp [h] <;> omega) _ _ (a, b, c)
theorem o_l00In_k : Knows Tryd.prog 75 o_l00In := tab_knows fun x hx h => by
  obtain ⟨a, b, c⟩ := x; exact l00In_c _ _ _ h
abbrev k72_o0 : List AJ := [.o ⟨(some 6), none, false, .mv (.c (.bool false)), (some [0, 1, 2])⟩]
abbrev k72_o1 : List AJ := [.o ⟨(some 7), none, false, .mv (.t 0), none⟩, .o ⟨(some 8), none, false, .mv (.t 1), none⟩, .o ⟨(some 9), none, false, .bin .geq (.t 7) (.t 8), none⟩, .o ⟨(some 10), none, false, .mv (.t 9), none⟩, .o ⟨(some 11), (some (10, true)), false, .mv (.t 0), none⟩, .o ⟨(some 12), (some (10, true)), false, .mv (.t 2), none⟩, .o ⟨(some 13), (some (10, true)), false, .bin .leq (.t 11) (.t 12), none⟩, .o ⟨(some 14), none, false, .pick (.t 10) (.t 13) (.c (.bool false)), none⟩, .o ⟨(some 6), none, false, .mv (.t 14), (some [6])⟩]
def k72_2 : ACode := .seq (.region k72_o1) .ret
def k72_3 : ACode := .seq (.region k72_o0) k72_2
@[simp, simp ↓] theorem k72_2r : sR k72_2 k72_o1 .ret := yR rfl
@[simp, simp ↓] theorem k72_3r : sR k72_3 k72_o0 k72_2 := yR rfl
noncomputable abbrev k72_C : Orc → Cx := mkC Tryd.prog [] 72 15 [.tmp 6]
theorem k72_of0 : OfP0 Tryd.prog Tryd.f72 72 15 k72_C k72_3 := @ofP0 _ _ _ _ _ _ _ _ Tryd.func72 (by decide +kernel) rfl (by kernel_rfl) rfl (by kernel_rfl)
theorem within_c (a b c : Int) (h : Heap) : ACalls Tryd.prog 72 [.int .i64 a, .int .i64 b, .int .i64 c] h (fun v h' => v = .bool (decide (b ≤ a) && decide (a ≤ c)) ∧ h' = h) := by
  refine k72_of0 rfl noPure fun I => ?_
  refine Run2.of I 1000 ?_
  simp -implicitDefEqProofs
  grind
noncomputable def o_within : List AV → Option (Prop × AV) := tab (fun (x : Int × Int × Int) => match x with | (a, b, c) => [.int .i64 a, .int .i64 b, .int .i64 c]) (fun x => match x with | (a, b, c) => True) (fun x => match x with | (a, b, c) => .bool (decide (b ≤ a) && decide (a ≤ c)))
@[simp] theorem o_within_e (a : Int) (b : Int) (c : Int) : o_within [.int .i64 a, .int .i64 b, .int .i64 c] = some (True, .bool (decide (b ≤ a) && decide (a ≤ c))) := tab_at (enc := fun (x : Int × Int × Int) => match x with | (a, b, c) => [.int .i64 a, .int .i64 b, .int .i64 c]) (fun x y h => by
  obtain ⟨a1, b1, c1⟩ := x; obtain ⟨a2, b2, c2⟩ := y; simp at h; simp [h] <;> omega) _ _ (a, b, c)
theorem o_within_k : Knows Tryd.prog 72 o_within := tab_knows fun x hx h => by
  obtain ⟨a, b, c⟩ := x; exact within_c _ _ _ h
abbrev k95_o0 : List AJ := [.o ⟨(some 2), none, false, .mv (.c (.bool false)), (some [0])⟩]
abbrev k95_o1 : List AJ := [.o ⟨(some 3), none, false, .mv (.t 0), none⟩, .o ⟨(some 4), none, false, .mv (.t 0), none⟩, .o ⟨(some 5), none, false, .bin .neq (.t 3) (.t 4), none⟩, .o ⟨(some 2), none, false, .mv (.t 5), (some [2])⟩]
def k95_2 : ACode := .seq (.region k95_o1) .ret
def k95_3 : ACode := .seq (.region k95_o0) k95_2
@[simp, simp ↓] theorem k95_2r : sR k95_2 k95_o1 .ret := yR rfl
@[simp, simp ↓] theorem k95_3r : sR k95_3 k95_o0 k95_2 := yR rfl
noncomputable abbrev k95_C : Orc → Cx := mkC Tryd.prog [] 95 6 [.tmp 2]
theorem k95_of0 : OfP0 Tryd.prog Tryd.f95 95 6 k95_C k95_3 := @ofP0 _ _ _ _ _ _ _ _ Tryd.func95 (by decide +kernel) rfl (by kernel_rfl) rfl (by kernel_rfl)
theorem isNaN_c (a : Int) (h : Heap) : ACalls Tryd.prog 95 [.int .i64 a] h (fun v h' => v = .bool false ∧ h' = h) := by
  refine k95_of0 rfl noPure fun I => ?_
  refine Run2.of I 1000 ?_
  simp -implicitDefEqProofs
noncomputable def o_isNaN : List AV → Option (Prop × AV) := tab (fun (x : Int) => match x with | a => [.int .i64 a]) (fun x => match x with | a => True) (fun x => match x with | a => .bool false)
@[simp] theorem o_isNaN_e (a : Int) : o_isNaN [.int .i64 a] = some (True, .bool false) := tab_at (enc := fun (x : Int) => match x with | a => [.int .i64 a]) (fun x y h => by
  simp at h; simp [h] <;> omega) _ _ a
theorem o_isNaN_k : Knows Tryd.prog 95 o_isNaN := tab_knows fun x hx h => by
  exact isNaN_c _ h
noncomputable def orc1 : List (Nat × (List AV → Option (Prop × AV))) := (75, o_l00In) :: (72, o_within) :: (95, o_isNaN) :: []
theorem orc1_p : Pure Tryd.prog (lk orc1) := (lk_pure o_l00In_k (lk_pure o_within_k (lk_pure o_isNaN_k lk_pure0)))
@[simp] theorem orc1_l (b : Bool) (g : FuncId) (l : List AV) : lk orc1 b g l = if g = 75 then o_l00In l else if g = 72 then o_within l else if g = 95 then o_isNaN l else none := nr rfl
def cmpI (a b : Int) : Int := if a < b then -1 else if b < a then 1 else 0
abbrev k78_o0 : List AJ := [.o ⟨(some 4), none, false, .mv (.c (.int .i64 0)), (some [0, 1])⟩]
abbrev k78_o1 : List AJ := [.o ⟨(some 7), none, false, .mv (.t 0), none⟩, .o ⟨(some 8), none, false, .call 95 [(.t 7)], none⟩, .o ⟨(some 5), none, false, .mv (.t 8), (some [0, 1, 5])⟩]
abbrev k78_o2 : List AJ := [.o ⟨(some 9), none, false, .mv (.t 1), none⟩, .o ⟨(some 10), none, false, .call 95 [(.t 9)], none⟩, .o ⟨(some 6), none, false, .mv (.t 10), (some [0, 1, 5, 6])⟩]
abbrev k78_o3 : List AJ := [.o ⟨(some 11), none, false, .mv (.t 5), (some [0, 1, 6, 11])⟩]
abbrev k78_o4 : List AJ := [.o ⟨(some 12), none, false, .mv (.t 6), (some [12])⟩]
abbrev k78_o5 : List AJ := [.o ⟨(some 4), none, false, .mv (.c (.int .i64 0)), (some [4])⟩]
def k78_6 : ACode := .seq (.region k78_o5) .ret
def k78_7 : ACode := .cond (.t 12) k78_6 .skip
def k78_8 : ACode := .seq (.region k78_o4) k78_7
abbrev k78_o6 : List AJ := [.o ⟨(some 4), none, false, .mv (.c (.int .i64 (-1))), (some [4])⟩]
def k78_10 : ACode := .seq (.region k78_o6) .ret
def k78_11 : ACode := .seq k78_8 k78_10
def k78_12 : ACode := .cond (.t 11) k78_11 .skip
def k78_13 : ACode := .seq (.region k78_o3) k78_12
abbrev k78_o7 : List AJ := [.o ⟨(some 13), none, false, .mv (.t 6), (some [0, 1, 13])⟩]
abbrev k78_o8 : List AJ := [.o ⟨(some 4), none, false, .mv (.c (.int .i64 1)), (some [4])⟩]
def k78_16 : ACode := .seq (.region k78_o8) .ret
def k78_17 : ACode := .cond (.t 13) k78_16 .skip
def k78_18 : ACode := .seq (.region k78_o7) k78_17
abbrev k78_o9 : List AJ := [.o ⟨(some 14), none, false, .mv (.t 0), none⟩, .o ⟨(some 15), none, false, .mv (.t 1), none⟩, .o ⟨(some 16), none, false, .bin .lss (.t 14) (.t 15), (some [0, 1, 16])⟩]
abbrev k78_o10 : List AJ := [.o ⟨(some 4), none, false, .mv (.c (.int .i64 (-1))), (some [4])⟩]
def k78_21 : ACode := .seq (.region k78_o10) .ret
def k78_22 : ACode := .cond (.t 16) k78_21 .skip
def k78_23 : ACode := .seq (.region k78_o9) k78_22
abbrev k78_o11 : List AJ := [.o ⟨(some 17), none, false, .mv (.t 0), none⟩, .o ⟨(some 18), none, false, .mv (.t 1), none⟩, .o ⟨(some 19), none, false, .bin .gtr (.t 17) (.t 18), (some [19])⟩]
abbrev k78_o12 : List AJ := [.o ⟨(some 4), none, false, .mv (.c (.int .i64 1)), (some [4])⟩]
def k78_26 : ACode := .seq (.region k78_o12) .ret
def k78_27 : ACode := .cond (.t 19) k78_26 .skip
def k78_28 : ACode := .seq (.region k78_o11) k78_27
abbrev k78_o13 : List AJ := [.o ⟨(some 4), none, false, .mv (.c (.int .i64 0)), (some [4])⟩]
def k78_30 : ACode := .seq (.region k78_o13) .ret
def k78_31 : ACode := .seq k78_28 k78_30
def k78_32 : ACode := .seq k78_23 k78_31
def k78_33 : ACode := .seq k78_18 k78_32
def k78_34 : ACode := .seq k78_13 k78_33
def k78_35 : ACode := .seq (.region k78_o2) k78_34
def k78_36 : ACode := .seq (.region k78_o1) k78_35
def k78_37 : ACode := .seq (.region k78_o0) k78_36
@[simp, simp ↓] theorem k78_6r : sR k78_6 k78_o5 .ret := yR rfl
@[simp, simp ↓] theorem k78_7r : rC k78_7 (.t 12) k78_6 .skip := zC rfl
@[simp, simp ↓] theorem k78_8r : sR k78_8 k78_o4 k78_7 := yR rfl
@[simp, simp ↓] theorem k78_10r : sR k78_10 k78_o6 .ret := yR rfl
@[simp, simp ↓] theorem k78_11r : rS k78_11 k78_8 k78_10 := zS rfl
@[simp, simp ↓] theorem k78_12r : rC k78_12 (.t 11) k78_11 .skip := zC rfl
@[simp, simp ↓] theorem k78_13r : sR k78_13 k78_o3 k78_12 := yR rfl
@[simp, simp ↓] theorem k78_16r : sR k78_16 k78_o8 .ret := yR rfl
@[simp, simp ↓] theorem k78_17r : rC k78_17 (.t 13) k78_16 .skip := zC rfl
@[simp, simp ↓] theorem k78_18r : sR k78_18 k78_o7 k78_17 := yR rfl
@[simp, simp ↓] theorem k78_21r : sR k78_21 k78_o10 .ret := yR rfl
@[simp, simp ↓] theorem k78_22r : rC k78_22 (.t 16) k78_21 .skip := zC rfl
@[simp, simp ↓] theorem k78_23r : sR k78_23 k78_o9 k78_22 := yR rfl
@[simp, simp ↓] theorem k78_26r : sR k78_26 k78_o12 .ret := yR rfl
@[simp, simp ↓] theorem k78_27r : rC k78_27 (.t 19) k78_26 .skip := zC rfl
@[simp, simp ↓] theorem k78_28r : sR k78_28 k78_o11 k78_27 := yR rfl
@[simp, simp ↓] theorem k78_30r : sR k78_30 k78_o13 .ret := yR rfl
@[simp, simp ↓] theorem k78_31r : rS k78_31 k78_28 k78_30 := zS rfl
@[simp, simp ↓] theorem k78_32r : rS k78_32 k78_23 k78_31 := zS rfl
@[simp, simp ↓] theorem k78_33r : rS k78_33 k78_18 k78_32 := zS rfl
@[simp, simp ↓] theorem k78_34r : rS k78_34 k78_13 k78_33 := zS rfl
@[simp, simp ↓] theorem k78_35r : sR k78_35 k78_o2 k78_34 := yR rfl
@[simp, simp ↓] theorem k78_36r : sR k78_36 k78_o1 k78_35 := yR rfl
@[simp, simp ↓] theorem k78_37r : sR k78_37 k78_o0 k78_36 := yR rfl
noncomputable abbrev k78_C : Orc → Cx := mkC Tryd.prog [] 78 20 [.tmp 4]
theorem k78_of0 : OfP0 Tryd.prog Tryd.f78 78 20 k78_C k78_37 := @ofP0 _ _ _ _ _ _ _ _ Tryd.func78 (by decide +kernel) rfl (by kernel_rfl) rfl (by kernel_rfl)
theorem compare_c (a b : Int) (h : Heap) : ACalls Tryd.prog 78 [.int .i64 a, .int .i64 b] h (fun v h' => v = .int .i64 (cmpI a b) ∧ h' = h) := by
  refine k78_of0 rfl orc1_p fun I => ?_
  refine Run2.of I 1000 ?_
  simp -implicitDefEqProofs [cmpI]
  grind
noncomputable def o_compare : List AV → Option (Prop × AV) := tab (fun (x : Int × Int) => match x with | (a, b) => [.int .i64 a, .int .i64 b]) (fun x => match x with | (a, b) => True) (fun x => match x with | (a, b) => .int .i64 (cmpI a b))
@[simp] theorem o_compare_e (a : Int) (b : Int) : o_compare [.int .i64 a, .int .i64 b] = some (True, .int .i64 (cmpI a b)) := tab_at (enc := fun (x : Int × Int) => match x with | (a, b) => [.int .i64 a, .int .i64 b]) (fun x y h => by
  obtain ⟨a1, b1⟩ := x; obtain ⟨a2, b2⟩ := y; simp at h; simp [h] <;> omega) _ _ (a, b)
theorem o_compare_k : Knows Tryd.prog 78 o_compare := tab_knows fun x hx h => by
  obtain ⟨a, b⟩ := x; exact compare_c _ _ h
def orI : List Int → Int
  | [] => 0
  | x :: xs => if x = 0 then orI xs else x
abbrev k77_o0 : List AJ := [.o ⟨(some 2), none, false, .mv (.c (.int .i64 0)), (some [0])⟩]
abbrev k77_o1 : List AJ := [.o ⟨(some 3), none, false, .mv (.c (.int .i64 0)), (some [0, 3])⟩]
abbrev k77_o2 : List AJ := [.o ⟨(some 6), none, false, .mv (.t 0), none⟩, .o ⟨(some 7), none, false, .len (.t 6), none⟩, .o ⟨(some 8), none, false, .mv (.c (.int .i64 0)), (some [3, 6, 7, 8])⟩]
abbrev k77_o3 : List AJ := [.o ⟨(some 9), none, false, .bin .lss (.t 8) (.t 7), (some [3, 6, 7, 8, 9])⟩]
abbrev k77_o4 : List AJ := [.o ⟨(some 10), none, false, .idxA 1 (.t 6) (.t 8), none⟩, .o ⟨(some 11), none, false, .load 1 false (.t 10), none⟩, .o ⟨(some 5), none, false, .mv (.t 11), (some [3, 5, 6, 7, 8])⟩]
abbrev k77_o5 : List AJ := [.o ⟨(some 12), none, false, .mv (.t 5), none⟩, .o ⟨(some 13), none, false, .mv (.t 3), none⟩, .o ⟨(some 14), none, false, .bin .neq (.t 12) (.t 13), (some [3, 5, 6, 7, 8, 14])⟩]
abbrev k77_o6 : List AJ := [.o ⟨(some 15), none, false, .mv (.t 5), none⟩, .o ⟨(some 2), none, false, .mv (.t 15), (some [2])⟩]
def k77_8 : ACode := .seq (.region k77_o6) .ret
def k77_9 : ACode := .cond (.t 14) k77_8 .skip
def k77_10 : ACode := .seq (.region k77_o5) k77_9
def k77_11 : ACode := .seq (.region k77_o4) k77_10
abbrev k77_o7 : List AJ := [.o ⟨(some 16), none, true, .bin .add (.t 8) (.c (.int .i64 1)), none⟩, .o ⟨(some 8), none, false, .mv (.t 16), (some [3, 6, 7, 8])⟩]
def k77_13 : ACode := .region k77_o7
def k77_14 : ACode := .seq (.block 1 k77_11) k77_13
def k77_15 : ACode := .seq (.cond (.t 9) .skip (.exit 0)) k77_14
def k77_16 : ACode := .seq (.region k77_o3) k77_15
def k77_17 : ACode := .loop k77_16
def k77_18 : ACode := .block 0 k77_17
def k77_19 : ACode := .seq (.region k77_o2) k77_18
abbrev k77_o8 : List AJ := [.o ⟨(some 17), none, false, .mv (.t 3), none⟩, .o ⟨(some 2), none, false, .mv (.t 17), (some [2])⟩]
def k77_21 : ACode := .seq (.region k77_o8) .ret
def k77_22 : ACode := .seq k77_19 k77_21
def k77_23 : ACode := .seq (.region k77_o1) k77_22
def k77_24 : ACode := .seq (.region k77_o0) k77_23
@[simp, simp ↓] theorem k77_8r : sR k77_8 k77_o6 .ret := yR rfl
@[simp, simp ↓] theorem k77_9r : rC k77_9 (.t 14) k77_8 .skip := zC rfl
@[simp, simp ↓] theorem k77_10r : sR k77_10 k77_o5 k77_9 := yR rfl
@[simp, simp ↓] theorem k77_11r : sR k77_11 k77_o4 k77_10 := yR rfl
@[simp, simp ↓] theorem k77_13r : rR k77_13 k77_o7 := zR rfl
@[simp, simp ↓] theorem k77_14r : sB k77_14 1 k77_11 k77_13 := yB rfl
@[simp, simp ↓] theorem k77_15r : sC k77_15 (.t 9) .skip (.exit 0) k77_14 := yC rfl
@[simp, simp ↓] theorem k77_16r : sR k77_16 k77_o3 k77_15 := yR rfl
@[simp, simp ↓] theorem k77_17r : rL k77_17 k77_16 := zL rfl
@[simp, simp ↓] theorem k77_18r : rB k77_18 0 k77_17 := zB rfl
@[simp, simp ↓] theorem k77_19r : sR k77_19 k77_o2 k77_18 := yR rfl
@[simp, simp ↓] theorem k77_21r : sR k77_21 k77_o8 .ret := yR rfl
@[simp, simp ↓] theorem k77_22r : rS k77_22 k77_19 k77_21 := zS rfl
@[simp, simp ↓] theorem k77_23r : sR k77_23 k77_o1 k77_22 := yR rfl
@[simp, simp ↓] theorem k77_24r : sR k77_24 k77_o0 k77_23 := yR rfl
noncomputable abbrev k77_C : Orc → Cx := mkC Tryd.prog [] 77 18 [.tmp 2]
theorem k77_of0 : OfP0 Tryd.prog Tryd.f77 77 18 k77_C k77_24 := @ofP0 _ _ _ _ _ _ _ _ Tryd.func77 (by decide +kernel) rfl (by kernel_rfl) rfl (by kernel_rfl)
theorem or_c (l : List Int) (h : Heap) (hl : l.length ≤ 1048576) : ACalls Tryd.prog 77 [.snap 1 (l.map fun n => .int .i64 n)] h (fun v h' => v = .int .i64 (orI l) ∧ h' = h) := by
  refine k77_of0 rfl noPure fun I => ?_
  refine Run2.of I 1000 ?_
  simp -implicitDefEqProofs
  refine Run2.loop (fun i => [(3, .int .i64 0), (6, .snap 1 (l.map fun n => .int .i64 n)), (7, .int .i64 l.length), (8, .int .i64 (i : Nat))]) (fun i => h) (fun i => l.length - i) (fun i => i ≤ l.length ∧ orI (l.drop i) = orI l) 0 (by simp) fun i hi ih => ?_
  by_cases hlt : i < l.length
  · have hd : l.drop i = l[i] :: l.drop (i + 1) := List.drop_eq_getElem_cons hlt
    refine Run2.of I 1000 ?_
    simp -implicitDefEqProofs [hlt]
    constructor
    · intro hne
      rw [← hi.2, hd, orI, if_neg hne]
    · intro he
      refine ⟨by omega, ?_⟩
      have := ih (i + 1) ⟨by omega, by rw [← hi.2, hd, orI, if_pos he]⟩ (by omega)
      simpa using this
  · have : i = l.length := by omega
    have h2 := hi.2
    rw [List.drop_of_length_le (by omega)] at h2
    refine Run2.of I 1000 ?_
    simp -implicitDefEqProofs [hlt]
    exact h2
noncomputable def o_or3 : List AV → Option (Prop × AV) := tab (fun (x : Int × Int × Int) => match x with | (a, b, c) => [.snap 1 [.int .i64 a, .int .i64 b, .int .i64 c]]) (fun x => match x with | (a, b, c) => True) (fun x => match x with | (a, b, c) => .int .i64 (orI [a, b, c]))
@[simp] theorem o_or3_e (a : Int) (b : Int) (c : Int) : o_or3 [.snap 1 [.int .i64 a, .int .i64 b, .int .i64 c]] = some (True, .int .i64 (orI [a, b, c])) := tab_at (enc := fun (x : Int × Int × Int) => match x with | (a, b, c) => [.snap 1 [.int .i64 a, .int .i64 b, .int .i64 c]]) (fun x y h => by
  obtain ⟨a1, b1, c1⟩ := x; obtain ⟨a2, b2, c2⟩ := y; simp at h; simp [h] <;> omega) _ _ (a, b, c)
theorem o_or3_k : Knows Tryd.prog 77 o_or3 := tab_knows fun x hx h => by
  obtain ⟨a, b, c⟩ := x; exact or_c [a, b, c] h (by simp)
abbrev k70_o0 : List AJ := [.o ⟨(some 2), none, false, .mv (.c (.bool false)), (some [0])⟩]
abbrev k70_o1 : List AJ := [.o ⟨(some 3), none, false, .mv (.t 0), none⟩, .o ⟨(some 4), none, false, .call 72 [(.t 3), (.c (.int .i64 0)), (.c (.int .i64 3))], none⟩, .o ⟨(some 2), none, false, .mv (.t 4), (some [2])⟩]
def k70_2 : ACode := .seq (.region k70_o1) .ret
def k70_3 : ACode := .seq (.region k70_o0) k70_2
@[simp, simp ↓] theorem k70_2r : sR k70_2 k70_o1 .ret := yR rfl
@[simp, simp ↓] theorem k70_3r : sR k70_3 k70_o0 k70_2 := yR rfl
noncomputable abbrev k70_C : Orc → Cx := mkC Tryd.prog [] 70 5 [.tmp 2]
theorem k70_of0 : OfP0 Tryd.prog Tryd.f70 70 5 k70_C k70_3 := @ofP0 _ _ _ _ _ _ _ _ Tryd.func70 (by decide +kernel) rfl (by kernel_rfl) rfl (by kernel_rfl)
theorem isDimension_c (a : Int) (h : Heap) : ACalls Tryd.prog 70 [.int .i64 a] h (fun v h' => v = .bool (decide (0 ≤ a) && decide (a ≤ 3)) ∧ h' = h) := by
  refine k70_of0 rfl orc1_p fun I => ?_
  refine Run2.of I 1000 ?_
  simp -implicitDefEqProofs
noncomputable def o_isDimension : List AV → Option (Prop × AV) := tab (fun (x : Int) => match x with | a => [.int .i64 a]) (fun x => match x with | a => True) (fun x => match x with | a => .bool (decide (0 ≤ a) && decide (a ≤ 3)))
@[simp] theorem o_isDimension_e (a : Int) : o_isDimension [.int .i64 a] = some (True, .bool (decide (0 ≤ a) && decide (a ≤ 3))) := tab_at (enc := fun (x : Int) => match x with | a => [.int .i64 a]) (fun x y h => by
  simp at h; simp [h] <;> omega) _ _ a
theorem o_isDimension_k : Knows Tryd.prog 70 o_isDimension := tab_knows fun x hx h => by
  exact isDimension_c _ h
abbrev k71_o0 : List AJ := [.o ⟨(some 2), none, false, .mv (.c (.bool false)), (some [0])⟩]
abbrev k71_o1 : List AJ := [.o ⟨(some 3), none, false, .mv (.t 0), none⟩, .o ⟨(some 4), none, false, .call 72 [(.t 3), (.c (.int .i64 0)), (.c (.int .i64 1000))], none⟩, .o ⟨(some 2), none, false, .mv (.t 4), (some [2])⟩]
def k71_2 : ACode := .seq (.region k71_o1) .ret
def k71_3 : ACode := .seq (.region k71_o0) k71_2
@[simp, simp ↓] theorem k71_2r : sR k71_2 k71_o1 .ret := yR rfl
@[simp, simp ↓] theorem k71_3r : sR k71_3 k71_o0 k71_2 := yR rfl
noncomputable abbrev k71_C : Orc → Cx := mkC Tryd.prog [] 71 5 [.tmp 2]
theorem k71_of0 : OfP0 Tryd.prog Tryd.f71 71 5 k71_C k71_3 := @ofP0 _ _ _ _ _ _ _ _ Tryd.func71 (by decide +kernel) rfl (by kernel_rfl) rfl (by kernel_rfl)
theorem isTime_c (a : Int) (h : Heap) : ACalls Tryd.prog 71 [.int .i64 a] h (fun v h' => v = .bool (decide (0 ≤ a) && decide (a ≤ 1000)) ∧ h' = h) := by
  refine k71_of0 rfl orc1_p fun I => ?_
  refine Run2.of I 1000 ?_
  simp -implicitDefEqProofs
noncomputable def o_isTime : List AV → Option (Prop × AV) := tab (fun (x : Int) => match x with | a => [.int .i64 a]) (fun x => match x with | a => True) (fun x => match x with | a => .bool (decide (0 ≤ a) && decide (a ≤ 1000)))
@[simp] theorem o_isTime_e (a : Int) : o_isTime [.int .i64 a] = some (True, .bool (decide (0 ≤ a) && decide (a ≤ 1000))) := tab_at (enc := fun (x : Int) => match x with | a => [.int .i64 a]) (fun x y h => by
  simp at h; simp [h] <;> omega) _ _ a
theorem o_isTime_k : Knows Tryd.prog 71 o_isTime := tab_knows fun x hx h => by
  exact isTime_c _ h
abbrev k66_o0 : List AJ := [.o ⟨(some 2), none, false, .mv (.c (.bool false)), (some [0])⟩]
abbrev k66_o1 : List AJ := [.o ⟨(some 3), none, false, .mv (.t 0), none⟩, .o ⟨(some 4), none, false, .call 75 [(.t 3), (.c (.int .i64 0)), (.c (.int .i64 3))], none⟩, .o ⟨(some 2), none, false, .mv (.t 4), (some [2])⟩]
def k66_2 : ACode := .seq (.region k66_o1) .ret
def k66_3 : ACode := .seq (.region k66_o0) k66_2
@[simp, simp ↓] theorem k66_2r : sR k66_2 k66_o1 .ret := yR rfl
@[simp, simp ↓] theorem k66_3r : sR k66_3 k66_o0 k66_2 := yR rfl
noncomputable abbrev k66_C : Orc → Cx := mkC Tryd.prog [] 66 5 [.tmp 2]
theorem k66_of0 : OfP0 Tryd.prog Tryd.f66 66 5 k66_C k66_3 := @ofP0 _ _ _ _ _ _ _ _ Tryd.func66 (by decide +kernel) rfl (by kernel_rfl) rfl (by kernel_rfl)
theorem l05Dimension_c (a : Int) (h : Heap) : ACalls Tryd.prog 66 [.int .i64 a] h (fun v h' => v = .bool (decide (0 ≤ a) && decide (a ≤ 3)) ∧ h' = h) := by
  refine k66_of0 rfl orc1_p fun I => ?_
  refine Run2.of I 1000 ?_
  simp -implicitDefEqProofs
noncomputable def o_l05Dimension : List AV → Option (Prop × AV) := tab (fun (x : Int) => match x with | a => [.int .i64 a]) (fun x => match x with | a => True) (fun x => match x with | a => .bool (decide (0 ≤ a) && decide (a ≤ 3)))
@[simp] theorem o_l05Dimension_e (a : Int) : o_l05Dimension [.int .i64 a] = some (True, .bool (decide (0 ≤ a) && decide (a ≤ 3))) := tab_at (enc := fun (x : Int) => match x with | a => [.int .i64 a]) (fun x y h => by
  simp at h; simp [h] <;> omega) _ _ a
theorem o_l05Dimension_k : Knows Tryd.prog 66 o_l05Dimension := tab_knows fun x hx h => by
  exact l05Dimension_c _ h
abbrev k67_o0 : List AJ := [.o ⟨(some 2), none, false, .mv (.c (.bool false)), (some [0])⟩]
abbrev k67_o1 : List AJ := [.o ⟨(some 3), none, false, .mv (.t 0), none⟩, .o ⟨(some 4), none, false, .call 75 [(.t 3), (.c (.int .i64 0)), (.c (.int .i64 1000))], none⟩, .o ⟨(some 2), none, false, .mv (.t 4), (some [2])⟩]
def k67_2 : ACode := .seq (.region k67_o1) .ret
def k67_3 : ACode := .seq (.region k67_o0) k67_2
@[simp, simp ↓] theorem k67_2r : sR k67_2 k67_o1 .ret := yR rfl
@[simp, simp ↓] theorem k67_3r : sR k67_3 k67_o0 k67_2 := yR rfl
noncomputable abbrev k67_C : Orc → Cx := mkC Tryd.prog [] 67 5 [.tmp 2]
theorem k67_of0 : OfP0 Tryd.prog Tryd.f67 67 5 k67_C k67_3 := @ofP0 _ _ _ _ _ _ _ _ Tryd.func67 (by decide +kernel) rfl (by kernel_rfl) rfl (by kernel_rfl)
theorem l21Time_c (a : Int) (h : Heap) : ACalls Tryd.prog 67 [.int .i64 a] h (fun v h' => v = .bool (decide (0 ≤ a) && decide (a ≤ 1000)) ∧ h' = h) := by
  refine k67_of0 rfl orc1_p fun I => ?_
  refine Run2.of I 1000 ?_
  simp -implicitDefEqProofs
noncomputable def o_l21Time : List AV → Option (Prop × AV) := tab (fun (x : Int) => match x with | a => [.int .i64 a]) (fun x => match x with | a => True) (fun x => match x with | a => .bool (decide (0 ≤ a) && decide (a ≤ 1000)))
@[simp] theorem o_l21Time_e (a : Int) : o_l21Time [.int .i64 a] = some (True, .bool (decide (0 ≤ a) && decide (a ≤ 1000))) := tab_at (enc := fun (x : Int) => match x with | a => [.int .i64 a]) (fun x y h => by
  simp at h; simp [h] <;> omega) _ _ a
theorem o_l21Time_k : Knows Tryd.prog 67 o_l21Time := tab_knows fun x hx h => by
  exact l21Time_c _ h
def T.en (x : T) : Int := if x.s = -1 then 1001 else x.s
abbrev k93_o0 : List AJ := [.o ⟨(some 1), none, false, .box false 3 (.t 0), none⟩, .o ⟨(some 2), none, false, .mv (.c (.int .i64 0)), (some [1])⟩]
abbrev k93_o1 : List AJ := [.o ⟨(some 3), none, false, .fieldA 2 (.t 1), none⟩, .o ⟨(some 4), none, false, .load 1 false (.t 3), none⟩, .o ⟨(some 5), none, false, .bin .eql (.t 4) (.c (.int .i64 (-1))), (some [1, 5])⟩]
abbrev k93_o2 : List AJ := [.o ⟨(some 2), none, false, .mv (.c (.int .i64 1001)), (some [2])⟩]
def k93_3 : ACode := .seq (.region k93_o2) .ret
def k93_4 : ACode := .cond (.t 5) k93_3 .skip
def k93_5 : ACode := .seq (.region k93_o1) k93_4
abbrev k93_o3 : List AJ := [.o ⟨(some 6), none, false, .fieldA 2 (.t 1), none⟩, .o ⟨(some 7), none, false, .load 1 false (.t 6), none⟩, .o ⟨(some 2), none, false, .mv (.t 7), (some [2])⟩]
def k93_7 : ACode := .seq (.region k93_o3) .ret
def k93_8 : ACode := .seq k93_5 k93_7
def k93_9 : ACode := .seq (.region k93_o0) k93_8
@[simp, simp ↓] theorem k93_3r : sR k93_3 k93_o2 .ret := yR rfl
@[simp, simp ↓] theorem k93_4r : rC k93_4 (.t 5) k93_3 .skip := zC rfl
@[simp, simp ↓] theorem k93_5r : sR k93_5 k93_o1 k93_4 := yR rfl
@[simp, simp ↓] theorem k93_7r : sR k93_7 k93_o3 .ret := yR rfl
@[simp, simp ↓] theorem k93_8r : rS k93_8 k93_5 k93_7 := zS rfl
@[simp, simp ↓] theorem k93_9r : sR k93_9 k93_o0 k93_8 := yR rfl
noncomputable abbrev k93_C : Orc → Cx := mkC Tryd.prog [] 93 8 [.tmp 2]
theorem k93_of0 : OfP0 Tryd.prog Tryd.f93 93 8 k93_C k93_9 := @ofP0 _ _ _ _ _ _ _ _ Tryd.func93 (by decide +kernel) rfl (by kernel_rfl) rfl (by kernel_rfl)
theorem end_c (x : T) (h : Heap) : ACalls Tryd.prog 93 [x.av] h (fun v h' => v = .int .i64 x.en ∧ h' = h) := by
  refine k93_of0 rfl noPure fun I => ?_
  refine Run2.of I 1000 ?_
  simp -implicitDefEqProofs [T.en]
  grind
noncomputable def o_end : List AV → Option (Prop × AV) := tab (fun (x : Int × Int × Int) => match x with | (f, t, s) => [.agg [.int .i64 f, .int .i64 t, .int .i64 s]]) (fun x => match x with | (f, t, s) => True) (fun x => match x with | (f, t, s) => .int .i64 (T.en ⟨f, t, s⟩))
@[simp] theorem o_end_e (f : Int) (t : Int) (s : Int) : o_end [.agg [.int .i64 f, .int .i64 t, .int .i64 s]] = some (True, .int .i64 (T.en ⟨f, t, s⟩)) := tab_at (enc := fun (x : Int × Int × Int) => match x with | (f, t, s) => [.agg [.int .i64 f, .int .i64 t, .int .i64 s]]) (fun x y h => by
  obtain ⟨f1, t1, s1⟩ := x; obtain ⟨f2, t2, s2⟩ := y; simp at h; simp [h] <;> omega) _ _ (f, t, s)
theorem o_end_k : Knows Tryd.prog 93 o_end := tab_knows fun x hx h => by
  obtain ⟨f, t, s⟩ := x; exact end_c ⟨f, t, s⟩ h
noncomputable def orc2 : List (Nat × (List AV → Option (Prop × AV))) := (70, o_isDimension) :: (71, o_isTime) :: (66, o_l05Dimension) :: (67, o_l21Time) :: (93, o_end) :: (78, o_compare) :: (77, o_or3) :: orc1
theorem orc2_p : Pure Tryd.prog (lk orc2) := (lk_pure o_isDimension_k (lk_pure o_isTime_k (lk_pure o_l05Dimension_k (lk_pure o_l21Time_k (lk_pure o_end_k (lk_pure o_compare_k (lk_pure o_or3_k orc1_p)))))))
@[simp] theorem orc2_l (b : Bool) (g : FuncId) (l : List AV) : lk orc2 b g l = if g = 70 then o_isDimension l else if g = 71 then o_isTime l else if g = 66 then o_l05Dimension l else if g = 67 then o_l21Time l else if g = 93 then o_end l else if g = 78 then o_compare l else if g = 77 then o_or3 l else lk orc1 b g l := nr rfl
/-- What the program's comparison of two bars gives. -/
def cmpB (x y : T) : Int := orI [cmpI x.f y.f, cmpI x.t y.t, cmpI x.en y.en]
def T.lt (a b : T) : Prop := a.f < b.f ∨ a.f = b.f ∧ (a.t < b.t ∨ a.t = b.t ∧ a.en < b.en)
instance (a b : T) : Decidable (a.lt b) := by unfold T.lt; infer_instance
theorem cmpB_pos (x y : T) : 0 < cmpB x y ↔ y.lt x := by
  simp only [cmpB, orI, cmpI, T.lt]
  grind
theorem cmpB_neg (x y : T) : cmpB x y < 0 ↔ x.lt y := by
  simp only [cmpB, orI, cmpI, T.lt]
  grind
abbrev k73_o0 : List AJ := [.o ⟨(some 2), none, false, .box false 3 (.t 0), none⟩, .o ⟨(some 3), none, false, .box false 3 (.t 1), none⟩, .o ⟨(some 4), none, false, .mv (.c (.int .i64 0)), (some [2, 3])⟩]
abbrev k73_o1 : List AI := [⟨(some 5), none, false, .fieldA 0 (.t 2), none⟩, ⟨(some 6), none, false, .load 1 false (.t 5), none⟩, ⟨(some 7), none, false, .fieldA 0 (.t 3), none⟩, ⟨(some 8), none, false, .load 1 false (.t 7), none⟩, ⟨(some 9), none, false, .call 78 [(.t 6), (.t 8)], none⟩, ⟨(some 10), none, false, .fieldA 1 (.t 2), none⟩, ⟨(some 11), none, false, .load 1 false (.t 10), none⟩, ⟨(some 12), none, false, .fieldA 1 (.t 3), none⟩, ⟨(some 13), none, false, .load 1 false (.t 12), none⟩, ⟨(some 14), none, false, .call 78 [(.t 11), (.t 13)], none⟩, ⟨(some 15), none, false, .load 3 true (.t 2), none⟩, ⟨(some 16), none, false, .call 93 [(.t 15)], none⟩, ⟨(some 17), none, false, .load 3 true (.t 3), none⟩, ⟨(some 18), none, false, .call 93 [(.t 17)], (some [9, 14, 16, 18])⟩, ⟨(some 19), none, false, .call 78 [(.t 16), (.t 18)], none⟩, ⟨(some 20), none, false, .bsl false 1 [(.t 9), (.t 14), (.t 19)], none⟩, ⟨(some 21), none, false, .call 77 [(.t 20)], none⟩, ⟨(some 4), none, false, .mv (.t 21), (some [4])⟩]
def k73_2 : ACode := .seq (.draw k73_o1 [] rfl) .ret
def k73_3 : ACode := .seq (.region k73_o0) k73_2
@[simp, simp ↓] theorem k73_2r : sD k73_2 k73_o1 [] .ret := yD rfl
@[simp, simp ↓] theorem k73_3r : sR k73_3 k73_o0 k73_2 := yR rfl
noncomputable abbrev k73_C : Orc → Cx := mkC Tryd.prog [] 73 22 [.tmp 4]
theorem k73_of0 : OfP0 Tryd.prog Tryd.f73 73 22 k73_C k73_3 := @ofP0 _ _ _ _ _ _ _ _ Tryd.func73 (by decide +kernel) rfl (by kernel_rfl) rfl (by kernel_rfl)
theorem compareBars_c (x y : T) (h : Heap) : ACalls Tryd.prog 73 [x.av, y.av] h (fun v h' => v = .int .i64 (cmpB x y) ∧ h' = h) := by
  refine k73_of0 rfl orc2_p fun I => ?_
  refine Run2.of I 1000 ?_
  simp -implicitDefEqProofs [cmpB]
noncomputable def o_compareBars : List AV → Option (Prop × AV) := tab (fun (x : Int × Int × Int × Int × Int × Int) => match x with | (f, t, s, f', t', s') => [.agg [.int .i64 f, .int .i64 t, .int .i64 s], .agg [.int .i64 f', .int .i64 t', .int .i64 s']]) (fun x => match x with | (f, t, s, f', t', s') => True) (fun x => match x with | (f, t, s, f', t', s') => .int .i64 (cmpB ⟨f, t, s⟩ ⟨f', t', s'⟩))
@[simp] theorem o_compareBars_e (f : Int) (t : Int) (s : Int) (f' : Int) (t' : Int) (s' : Int) : o_compareBars [.agg [.int .i64 f, .int .i64 t, .int .i64 s], .agg [.int .i64 f', .int .i64 t', .int .i64 s']] = some (True, .int .i64 (cmpB ⟨f, t, s⟩ ⟨f', t', s'⟩)) := tab_at (enc := fun (x : Int × Int × Int × Int × Int × Int) => match x with | (f, t, s, f', t', s') => [.agg [.int .i64 f, .int .i64 t, .int .i64 s], .agg [.int .i64 f', .int .i64 t', .int .i64 s']]) (fun x y h => by
  obtain ⟨f1, t1, s1, f'1, t'1, s'1⟩ := x; obtain ⟨f2, t2, s2, f'2, t'2, s'2⟩ := y; simp at h; simp [h] <;> omega) _ _ (f, t, s, f', t', s')
theorem o_compareBars_k : Knows Tryd.prog 73 o_compareBars := tab_knows fun x hx h => by
  obtain ⟨f, t, s, f', t', s'⟩ := x; exact compareBars_c ⟨f, t, s⟩ ⟨f', t', s'⟩ h
/-- What the reference asks of two bars. -/
def T.bef (a b : T) : Prop := a.f < b.f ∨ a.f = b.f ∧ (a.t < b.t ∨ a.t = b.t ∧ ¬ a.s = -1 ∧ (b.s = -1 ∨ a.s < b.s))
instance (a b : T) : Decidable (a.bef b) := by unfold T.bef; infer_instance
abbrev k68_o0 : List AJ := [.o ⟨(some 4), none, false, .mv (.c (.bool false)), (some [0, 1])⟩]
abbrev k68_o1 : List AI := [⟨(some 5), none, false, .mv (.t 0), none⟩, ⟨(some 6), none, false, .nilchk (.t 5), none⟩, ⟨(some 7), none, false, .fieldA 0 (.t 6), none⟩, ⟨(some 8), none, false, .load 1 false (.t 7), none⟩, ⟨(some 9), none, false, .mv (.t 1), none⟩, ⟨(some 10), none, false, .nilchk (.t 9), none⟩, ⟨(some 11), none, false, .fieldA 0 (.t 10), none⟩, ⟨(some 12), none, false, .load 1 false (.t 11), none⟩, ⟨(some 13), none, false, .bin .neq (.t 8) (.t 12), (some [0, 1, 13])⟩]
abbrev k68_o2 : List AI := [⟨(some 14), none, false, .mv (.t 0), none⟩, ⟨(some 15), none, false, .nilchk (.t 14), none⟩, ⟨(some 16), none, false, .fieldA 0 (.t 15), none⟩, ⟨(some 17), none, false, .load 1 false (.t 16), none⟩, ⟨(some 18), none, false, .mv (.t 1), none⟩, ⟨(some 19), none, false, .nilchk (.t 18), none⟩, ⟨(some 20), none, false, .fieldA 0 (.t 19), none⟩, ⟨(some 21), none, false, .load 1 false (.t 20), none⟩, ⟨(some 22), none, false, .bin .lss (.t 17) (.t 21), none⟩, ⟨(some 4), none, false, .mv (.t 22), (some [4])⟩]
def k68_3 : ACode := .seq (.draw k68_o2 [] rfl) .ret
def k68_4 : ACode := .cond (.t 13) k68_3 .skip
def k68_5 : ACode := .seq (.draw k68_o1 [] rfl) k68_4
abbrev k68_o3 : List AI := [⟨(some 23), none, false, .mv (.t 0), none⟩, ⟨(some 24), none, false, .nilchk (.t 23), none⟩, ⟨(some 25), none, false, .fieldA 1 (.t 24), none⟩, ⟨(some 26), none, false, .load 1 false (.t 25), none⟩, ⟨(some 27), none, false, .mv (.t 1), none⟩, ⟨(some 28), none, false, .nilchk (.t 27), none⟩, ⟨(some 29), none, false, .fieldA 1 (.t 28), none⟩, ⟨(some 30), none, false, .load 1 false (.t 29), none⟩, ⟨(some 31), none, false, .bin .neq (.t 26) (.t 30), (some [0, 1, 31])⟩]
abbrev k68_o4 : List AI := [⟨(some 32), none, false, .mv (.t 0), none⟩, ⟨(some 33), none, false, .nilchk (.t 32), none⟩, ⟨(some 34), none, false, .fieldA 1 (.t 33), none⟩, ⟨(some 35), none, false, .load 1 false (.t 34), none⟩, ⟨(some 36), none, false, .mv (.t 1), none⟩, ⟨(some 37), none, false, .nilchk (.t 36), none⟩, ⟨(some 38), none, false, .fieldA 1 (.t 37), none⟩, ⟨(some 39), none, false, .load 1 false (.t 38), none⟩, ⟨(some 40), none, false, .bin .lss (.t 35) (.t 39), none⟩, ⟨(some 4), none, false, .mv (.t 40), (some [4])⟩]
def k68_8 : ACode := .seq (.draw k68_o4 [] rfl) .ret
def k68_9 : ACode := .cond (.t 31) k68_8 .skip
def k68_10 : ACode := .seq (.draw k68_o3 [] rfl) k68_9
abbrev k68_o5 : List AI := [⟨(some 41), none, false, .mv (.t 0), none⟩, ⟨(some 42), none, false, .nilchk (.t 41), none⟩, ⟨(some 43), none, false, .fieldA 2 (.t 42), none⟩, ⟨(some 44), none, false, .load 1 false (.t 43), none⟩, ⟨(some 45), none, false, .bin .neq (.t 44) (.c (.int .i64 (-1))), none⟩, ⟨(some 46), none, false, .mv (.t 45), none⟩, ⟨(some 47), (some (46, true)), false, .mv (.t 1), none⟩, ⟨(some 48), (some (46, true)), false, .nilchk (.t 47), none⟩, ⟨(some 49), (some (46, true)), false, .fieldA 2 (.t 48), none⟩, ⟨(some 50), (some (46, true)), false, .load 1 false (.t 49), (some [0, 1, 46, 50])⟩, ⟨(some 51), (some (46, true)), false, .bin .eql (.t 50) (.c (.int .i64 (-1))), none⟩, ⟨(some 52), (some (46, true)), false, .mv (.t 51), none⟩, ⟨(some 53), (some (52, false)), false, .mv (.t 0), none⟩, ⟨(some 54), (some (52, false)), false, .nilchk (.t 53), none⟩, ⟨(some 55), (some (52, false)), false, .fieldA 2 (.t 54), none⟩, ⟨(some 56), (some (52, false)), false, .load 1 false (.t 55), none⟩, ⟨(some 57), (some (52, false)), false, .mv (.t 1), (some [46, 52, 56, 57])⟩, ⟨(some 58), (some (52, false)), false, .nilchk (.t 57), none⟩, ⟨(some 59), (some (52, false)), false, .fieldA 2 (.t 58), none⟩, ⟨(some 60), (some (52, false)), false, .load 1 false (.t 59), none⟩, ⟨(some 61), (some (52, false)), false, .bin .lss (.t 56) (.t 60), none⟩, ⟨(some 62), (some (46, true)), false, .pick (.t 52) (.c (.bool true)) (.t 61), none⟩, ⟨(some 63), none, false, .pick (.t 46) (.t 62) (.c (.bool false)), none⟩, ⟨(some 4), none, false, .mv (.t 63), (some [4])⟩]
def k68_12 : ACode := .seq (.draw k68_o5 [] rfl) .ret
def k68_13 : ACode := .seq k68_10 k68_12
def k68_14 : ACode := .seq k68_5 k68_13
def k68_15 : ACode := .seq (.region k68_o0) k68_14
@[simp, simp ↓] theorem k68_3r : sD k68_3 k68_o2 [] .ret := yD rfl
@[simp, simp ↓] theorem k68_4r : rC k68_4 (.t 13) k68_3 .skip := zC rfl
@[simp, simp ↓] theorem k68_5r : sD k68_5 k68_o1 [] k68_4 := yD rfl
@[simp, simp ↓] theorem k68_8r : sD k68_8 k68_o4 [] .ret := yD rfl
@[simp, simp ↓] theorem k68_9r : rC k68_9 (.t 31) k68_8 .skip := zC rfl
@[simp, simp ↓] theorem k68_10r : sD k68_10 k68_o3 [] k68_9 := yD rfl
@[simp, simp ↓] theorem k68_12r : sD k68_12 k68_o5 [] .ret := yD rfl
@[simp, simp ↓] theorem k68_13r : rS k68_13 k68_10 k68_12 := zS rfl
@[simp, simp ↓] theorem k68_14r : rS k68_14 k68_5 k68_13 := zS rfl
@[simp, simp ↓] theorem k68_15r : sR k68_15 k68_o0 k68_14 := yR rfl
noncomputable abbrev k68_C : Orc → Cx := mkC Tryd.prog [] 68 64 [.tmp 4]
theorem k68_of0 : OfP0 Tryd.prog Tryd.f68 68 64 k68_C k68_15 := @ofP0 _ _ _ _ _ _ _ _ Tryd.func68 (by decide +kernel) rfl (by kernel_rfl) rfl (by kernel_rfl)
theorem l21Before_c (x y : T) (h : Heap) : ACalls Tryd.prog 68 [.ip [.int .i64 x.f, .int .i64 x.t, .int .i64 x.s], .ip [.int .i64 y.f, .int .i64 y.t, .int .i64 y.s]] h (fun v h' => v = .bool (decide (x.bef y)) ∧ h' = h) := by
  refine k68_of0 rfl noPure fun I => ?_
  refine Run2.of I 1000 ?_
  simp -implicitDefEqProofs [T.bef]
  grind
noncomputable def o_l21Before : List AV → Option (Prop × AV) := tab (fun (x : Int × Int × Int × Int × Int × Int) => match x with | (f, t, s, f', t', s') => [.ip [.int .i64 f, .int .i64 t, .int .i64 s], .ip [.int .i64 f', .int .i64 t', .int .i64 s']]) (fun x => match x with | (f, t, s, f', t', s') => True) (fun x => match x with | (f, t, s, f', t', s') => .bool (decide (T.bef ⟨f, t, s⟩ ⟨f', t', s'⟩)))
@[simp] theorem o_l21Before_e (f : Int) (t : Int) (s : Int) (f' : Int) (t' : Int) (s' : Int) : o_l21Before [.ip [.int .i64 f, .int .i64 t, .int .i64 s], .ip [.int .i64 f', .int .i64 t', .int .i64 s']] = some (True, .bool (decide (T.bef ⟨f, t, s⟩ ⟨f', t', s'⟩))) := tab_at (enc := fun (x : Int × Int × Int × Int × Int × Int) => match x with | (f, t, s, f', t', s') => [.ip [.int .i64 f, .int .i64 t, .int .i64 s], .ip [.int .i64 f', .int .i64 t', .int .i64 s']]) (fun x y h => by
  obtain ⟨f1, t1, s1, f'1, t'1, s'1⟩ := x; obtain ⟨f2, t2, s2, f'2, t'2, s'2⟩ := y; simp at h; simp [h] <;> omega) _ _ (f, t, s, f', t', s')
theorem o_l21Before_k : Knows Tryd.prog 68 o_l21Before := tab_knows fun x hx h => by
  obtain ⟨f, t, s, f', t', s'⟩ := x; exact l21Before_c ⟨f, t, s⟩ ⟨f', t', s'⟩ h
noncomputable def orc3 : List (Nat × (List AV → Option (Prop × AV))) := (73, o_compareBars) :: (68, o_l21Before) :: orc2
theorem orc3_p : Pure Tryd.prog (lk orc3) := (lk_pure o_compareBars_k (lk_pure o_l21Before_k orc2_p))
@[simp] theorem orc3_l (b : Bool) (g : FuncId) (l : List AV) : lk orc3 b g l = if g = 73 then o_compareBars l else if g = 68 then o_l21Before l else lk orc2 b g l := nr rfl
end Go.AG.B
