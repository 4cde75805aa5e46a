/- Small functions of the program and of the reference that have no effect, and what they give. No statement is made here. -/
import Derived.Test.YtdjamhallkijmaaPhA
namespace Go.AG
open Go.Proofs Go.Proofs.Ytdjamhallkijmaa
set_option linter.unusedSimpArgs false
set_option linter.unusedVariables false
set_option maxRecDepth 4000
abbrev k41_o0 : List AJ := [.o ⟨(some 6), none, false, .mv (.c (.bool false)), (some [0, 1, 2])⟩]
abbrev k41_o1 : List AJ := [.o ⟨(some 7), none, false, .mv (.t 0), none⟩, .o ⟨(some 8), none, false, .mv (.t 1), none⟩, .o ⟨(some 9), none, false, .bin .geq (.t 7) (.t 8), none⟩, .o ⟨(some 10), none, false, .mv (.t 9), none⟩, .o ⟨(some 11), (some (10, true)), false, .mv (.t 0), none⟩, .o ⟨(some 12), (some (10, true)), false, .mv (.t 2), none⟩, .o ⟨(some 13), (some (10, true)), false, .bin .leq (.t 11) (.t 12), none⟩, .o ⟨(some 14), none, false, .pick (.t 10) (.t 13) (.c (.bool false)), none⟩, .o ⟨(some 6), none, false, .mv (.t 14), (some [6])⟩]
def k41_2 : ACode := .seq (.region k41_o1) .ret
def k41_3 : ACode := .seq (.region k41_o0) k41_2
@[simp, simp ↓] theorem k41_2r : sR k41_2 k41_o1 .ret := yR rfl
@[simp, simp ↓] theorem k41_3r : sR k41_3 k41_o0 k41_2 := yR rfl
noncomputable abbrev k41_C : Orc → Cx := mkC Try.prog [] 41 15 [.tmp 6]
theorem k41_of0 : OfP0 Try.prog Try.f41 41 15 k41_C k41_3 := @ofP0 _ _ _ _ _ _ _ _ Try.func41 (by decide +kernel) rfl (by kernel_rfl) rfl (by kernel_rfl)
theorem l00In_c (a b c : Int) (h : Heap) : ACalls Try.prog 41 [.int .i64 a, .int .i64 b, .int .i64 c] h (fun v h' => v = .bool (decide (b ≤ a) && decide (a ≤ c)) ∧ h' = h) := by
  refine k41_of0 rfl noPure fun I => ?_
  refine Run2.of I 1000 ?_
  simp -implicitDefEqProofs
  grind
noncomputable def o_l00In : List AV → Option (Prop × AV) := tab (fun (x : Int × Int × Int) => match x with | (a, b, c) => [.int .i64 a, .int .i64 b, .int .i64 c]) (fun x => match x with | (a, b, c) => True) (fun x => match x with | (a, b, c) => .bool (decide (b ≤ a) && decide (a ≤ c)))
@[simp] theorem o_l00In_e (a : Int) (b : Int) (c : Int) : o_l00In [.int .i64 a, .int .i64 b, .int .i64 c] = some (True, .bool (decide (b ≤ a) && decide (a ≤ c))) := tab_at (enc := fun (x : Int × Int × Int) => match x with | (a, b, c) => [.int .i64 a, .int .i64 b, .int .i64 c]) (fun x y h => by
  obtain ⟨a1, b1, c1⟩ := x; obtain ⟨a2, b2, c2⟩ := y; simp at h; simp [h] <;> omega) _ _ (a, b, c)
theorem o_l00In_k : Knows Try.prog 41 o_l00In := tab_knows fun x hx h => by
  obtain ⟨a, b, c⟩ := x; exact l00In_c _ _ _ h
abbrev k59_o0 : List AJ := [.o ⟨(some 6), none, false, .mv (.c (.bool false)), (some [0, 1, 2])⟩]
abbrev k59_o1 : List AJ := [.o ⟨(some 7), none, false, .mv (.t 0), none⟩, .o ⟨(some 8), none, false, .mv (.t 1), none⟩, .o ⟨(some 9), none, false, .bin .geq (.t 7) (.t 8), none⟩, .o ⟨(some 10), none, false, .mv (.t 9), none⟩, .o ⟨(some 11), (some (10, true)), false, .mv (.t 0), none⟩, .o ⟨(some 12), (some (10, true)), false, .mv (.t 2), none⟩, .o ⟨(some 13), (some (10, true)), false, .bin .leq (.t 11) (.t 12), none⟩, .o ⟨(some 14), none, false, .pick (.t 10) (.t 13) (.c (.bool false)), none⟩, .o ⟨(some 6), none, false, .mv (.t 14), (some [6])⟩]
def k59_2 : ACode := .seq (.region k59_o1) .ret
def k59_3 : ACode := .seq (.region k59_o0) k59_2
@[simp, simp ↓] theorem k59_2r : sR k59_2 k59_o1 .ret := yR rfl
@[simp, simp ↓] theorem k59_3r : sR k59_3 k59_o0 k59_2 := yR rfl
noncomputable abbrev k59_C : Orc → Cx := mkC Try.prog [] 59 15 [.tmp 6]
theorem k59_of0 : OfP0 Try.prog Try.f59 59 15 k59_C k59_3 := @ofP0 _ _ _ _ _ _ _ _ Try.func59 (by decide +kernel) rfl (by kernel_rfl) rfl (by kernel_rfl)
theorem within_c (a b c : Int) (h : Heap) : ACalls Try.prog 59 [.int .i64 a, .int .i64 b, .int .i64 c] h (fun v h' => v = .bool (decide (b ≤ a) && decide (a ≤ c)) ∧ h' = h) := by
  refine k59_of0 rfl noPure fun I => ?_
  refine Run2.of I 1000 ?_
  simp -implicitDefEqProofs
  grind
noncomputable def o_within : List AV → Option (Prop × AV) := tab (fun (x : Int × Int × Int) => match x with | (a, b, c) => [.int .i64 a, .int .i64 b, .int .i64 c]) (fun x => match x with | (a, b, c) => True) (fun x => match x with | (a, b, c) => .bool (decide (b ≤ a) && decide (a ≤ c)))
@[simp] theorem o_within_e (a : Int) (b : Int) (c : Int) : o_within [.int .i64 a, .int .i64 b, .int .i64 c] = some (True, .bool (decide (b ≤ a) && decide (a ≤ c))) := tab_at (enc := fun (x : Int × Int × Int) => match x with | (a, b, c) => [.int .i64 a, .int .i64 b, .int .i64 c]) (fun x y h => by
  obtain ⟨a1, b1, c1⟩ := x; obtain ⟨a2, b2, c2⟩ := y; simp at h; simp [h] <;> omega) _ _ (a, b, c)
theorem o_within_k : Knows Try.prog 59 o_within := tab_knows fun x hx h => by
  obtain ⟨a, b, c⟩ := x; exact within_c _ _ _ h
abbrev k71_o0 : List AJ := [.o ⟨(some 2), none, false, .mv (.c (.bool false)), (some [0])⟩]
abbrev k71_o1 : List AJ := [.o ⟨(some 3), none, false, .mv (.t 0), none⟩, .o ⟨(some 4), none, false, .mv (.t 0), none⟩, .o ⟨(some 5), none, false, .bin .neq (.t 3) (.t 4), none⟩, .o ⟨(some 2), none, false, .mv (.t 5), (some [2])⟩]
def k71_2 : ACode := .seq (.region k71_o1) .ret
def k71_3 : ACode := .seq (.region k71_o0) k71_2
@[simp, simp ↓] theorem k71_2r : sR k71_2 k71_o1 .ret := yR rfl
@[simp, simp ↓] theorem k71_3r : sR k71_3 k71_o0 k71_2 := yR rfl
noncomputable abbrev k71_C : Orc → Cx := mkC Try.prog [] 71 6 [.tmp 2]
theorem k71_of0 : OfP0 Try.prog Try.f71 71 6 k71_C k71_3 := @ofP0 _ _ _ _ _ _ _ _ Try.func71 (by decide +kernel) rfl (by kernel_rfl) rfl (by kernel_rfl)
theorem isNaN_c (a : Int) (h : Heap) : ACalls Try.prog 71 [.int .i64 a] h (fun v h' => v = .bool false ∧ h' = h) := by
  refine k71_of0 rfl noPure fun I => ?_
  refine Run2.of I 1000 ?_
  simp -implicitDefEqProofs
noncomputable def o_isNaN : List AV → Option (Prop × AV) := tab (fun (x : Int) => match x with | a => [.int .i64 a]) (fun x => match x with | a => True) (fun x => match x with | a => .bool false)
@[simp] theorem o_isNaN_e (a : Int) : o_isNaN [.int .i64 a] = some (True, .bool false) := tab_at (enc := fun (x : Int) => match x with | a => [.int .i64 a]) (fun x y h => by
  simp at h; simp [h] <;> omega) _ _ a
theorem o_isNaN_k : Knows Try.prog 71 o_isNaN := tab_knows fun x hx h => by
  exact isNaN_c _ h
noncomputable def orc1 : List (Nat × (List AV → Option (Prop × AV))) := (41, o_l00In) :: (59, o_within) :: (71, o_isNaN) :: []
theorem orc1_p : Pure Try.prog (lk orc1) := (lk_pure o_l00In_k (lk_pure o_within_k (lk_pure o_isNaN_k lk_pure0)))
@[simp] theorem orc1_l (b : Bool) (g : FuncId) (l : List AV) : lk orc1 b g l = if g = 41 then o_l00In l else if g = 59 then o_within l else if g = 71 then o_isNaN l else none := nr rfl
abbrev k56_o0 : List AJ := [.o ⟨(some 4), none, false, .mv (.c (.bool false)), (some [0, 1])⟩]
abbrev k56_o1 : List AJ := [.o ⟨(some 5), none, false, .mv (.t 0), none⟩, .o ⟨(some 6), none, false, .mv (.t 1), none⟩, .o ⟨(some 7), none, false, .bin .sub (.t 6) (.c (.int .i64 1)), none⟩, .o ⟨(some 8), none, false, .call 59 [(.t 5), (.c (.int .i64 0)), (.t 7)], none⟩, .o ⟨(some 4), none, false, .mv (.t 8), (some [4])⟩]
def k56_2 : ACode := .seq (.region k56_o1) .ret
def k56_3 : ACode := .seq (.region k56_o0) k56_2
@[simp, simp ↓] theorem k56_2r : sR k56_2 k56_o1 .ret := yR rfl
@[simp, simp ↓] theorem k56_3r : sR k56_3 k56_o0 k56_2 := yR rfl
noncomputable abbrev k56_C : Orc → Cx := mkC Try.prog [] 56 9 [.tmp 4]
theorem k56_of0 : OfP0 Try.prog Try.f56 56 9 k56_C k56_3 := @ofP0 _ _ _ _ _ _ _ _ Try.func56 (by decide +kernel) rfl (by kernel_rfl) rfl (by kernel_rfl)
theorem isElement_c (a p : Int) (h : Heap) : ACalls Try.prog 56 [.int .i64 a, .int .i64 p] h (fun v h' => v = .bool (decide (0 ≤ a) && decide (a ≤ IntKind.i64.wrap (p - 1))) ∧ h' = h) := by
  refine k56_of0 rfl orc1_p fun I => ?_
  refine Run2.of I 1000 ?_
  simp -implicitDefEqProofs
noncomputable def o_isElement : List AV → Option (Prop × AV) := tab (fun (x : Int × Int) => match x with | (a, p) => [.int .i64 a, .int .i64 p]) (fun x => match x with | (a, p) => True) (fun x => match x with | (a, p) => .bool (decide (0 ≤ a) && decide (a ≤ IntKind.i64.wrap (p - 1))))
@[simp] theorem o_isElement_e (a : Int) (p : Int) : o_isElement [.int .i64 a, .int .i64 p] = some (True, .bool (decide (0 ≤ a) && decide (a ≤ IntKind.i64.wrap (p - 1)))) := tab_at (enc := fun (x : Int × Int) => match x with | (a, p) => [.int .i64 a, .int .i64 p]) (fun x y h => by
  obtain ⟨a1, p1⟩ := x; obtain ⟨a2, p2⟩ := y; simp at h; simp [h] <;> omega) _ _ (a, p)
theorem o_isElement_k : Knows Try.prog 56 o_isElement := tab_knows fun x hx h => by
  obtain ⟨a, p⟩ := x; exact isElement_c _ _ h
def cmpI (a b : Int) : Int := if a < b then -1 else if b < a then 1 else 0
abbrev k58_o0 : List AJ := [.o ⟨(some 4), none, false, .mv (.c (.int .i64 0)), (some [0, 1])⟩]
abbrev k58_o1 : List AJ := [.o ⟨(some 7), none, false, .mv (.t 0), none⟩, .o ⟨(some 8), none, false, .call 71 [(.t 7)], none⟩, .o ⟨(some 5), none, false, .mv (.t 8), (some [0, 1, 5])⟩]
abbrev k58_o2 : List AJ := [.o ⟨(some 9), none, false, .mv (.t 1), none⟩, .o ⟨(some 10), none, false, .call 71 [(.t 9)], none⟩, .o ⟨(some 6), none, false, .mv (.t 10), (some [0, 1, 5, 6])⟩]
abbrev k58_o3 : List AJ := [.o ⟨(some 11), none, false, .mv (.t 5), (some [0, 1, 6, 11])⟩]
abbrev k58_o4 : List AJ := [.o ⟨(some 12), none, false, .mv (.t 6), (some [12])⟩]
abbrev k58_o5 : List AJ := [.o ⟨(some 4), none, false, .mv (.c (.int .i64 0)), (some [4])⟩]
def k58_6 : ACode := .seq (.region k58_o5) .ret
def k58_7 : ACode := .cond (.t 12) k58_6 .skip
def k58_8 : ACode := .seq (.region k58_o4) k58_7
abbrev k58_o6 : List AJ := [.o ⟨(some 4), none, false, .mv (.c (.int .i64 (-1))), (some [4])⟩]
def k58_10 : ACode := .seq (.region k58_o6) .ret
def k58_11 : ACode := .seq k58_8 k58_10
def k58_12 : ACode := .cond (.t 11) k58_11 .skip
def k58_13 : ACode := .seq (.region k58_o3) k58_12
abbrev k58_o7 : List AJ := [.o ⟨(some 13), none, false, .mv (.t 6), (some [0, 1, 13])⟩]
abbrev k58_o8 : List AJ := [.o ⟨(some 4), none, false, .mv (.c (.int .i64 1)), (some [4])⟩]
def k58_16 : ACode := .seq (.region k58_o8) .ret
def k58_17 : ACode := .cond (.t 13) k58_16 .skip
def k58_18 : ACode := .seq (.region k58_o7) k58_17
abbrev k58_o9 : List AJ := [.o ⟨(some 14), none, false, .mv (.t 0), none⟩, .o ⟨(some 15), none, false, .mv (.t 1), none⟩, .o ⟨(some 16), none, false, .bin .lss (.t 14) (.t 15), (some [0, 1, 16])⟩]
abbrev k58_o10 : List AJ := [.o ⟨(some 4), none, false, .mv (.c (.int .i64 (-1))), (some [4])⟩]
def k58_21 : ACode := .seq (.region k58_o10) .ret
def k58_22 : ACode := .cond (.t 16) k58_21 .skip
def k58_23 : ACode := .seq (.region k58_o9) k58_22
abbrev k58_o11 : List AJ := [.o ⟨(some 17), none, false, .mv (.t 0), none⟩, .o ⟨(some 18), none, false, .mv (.t 1), none⟩, .o ⟨(some 19), none, false, .bin .gtr (.t 17) (.t 18), (some [19])⟩]
abbrev k58_o12 : List AJ := [.o ⟨(some 4), none, false, .mv (.c (.int .i64 1)), (some [4])⟩]
def k58_26 : ACode := .seq (.region k58_o12) .ret
def k58_27 : ACode := .cond (.t 19) k58_26 .skip
def k58_28 : ACode := .seq (.region k58_o11) k58_27
abbrev k58_o13 : List AJ := [.o ⟨(some 4), none, false, .mv (.c (.int .i64 0)), (some [4])⟩]
def k58_30 : ACode := .seq (.region k58_o13) .ret
def k58_31 : ACode := .seq k58_28 k58_30
def k58_32 : ACode := .seq k58_23 k58_31
def k58_33 : ACode := .seq k58_18 k58_32
def k58_34 : ACode := .seq k58_13 k58_33
def k58_35 : ACode := .seq (.region k58_o2) k58_34
def k58_36 : ACode := .seq (.region k58_o1) k58_35
def k58_37 : ACode := .seq (.region k58_o0) k58_36
@[simp, simp ↓] theorem k58_6r : sR k58_6 k58_o5 .ret := yR rfl
@[simp, simp ↓] theorem k58_7r : rC k58_7 (.t 12) k58_6 .skip := zC rfl
@[simp, simp ↓] theorem k58_8r : sR k58_8 k58_o4 k58_7 := yR rfl
@[simp, simp ↓] theorem k58_10r : sR k58_10 k58_o6 .ret := yR rfl
@[simp, simp ↓] theorem k58_11r : rS k58_11 k58_8 k58_10 := zS rfl
@[simp, simp ↓] theorem k58_12r : rC k58_12 (.t 11) k58_11 .skip := zC rfl
@[simp, simp ↓] theorem k58_13r : sR k58_13 k58_o3 k58_12 := yR rfl
@[simp, simp ↓] theorem k58_16r : sR k58_16 k58_o8 .ret := yR rfl
@[simp, simp ↓] theorem k58_17r : rC k58_17 (.t 13) k58_16 .skip := zC rfl
@[simp, simp ↓] theorem k58_18r : sR k58_18 k58_o7 k58_17 := yR rfl
@[simp, simp ↓] theorem k58_21r : sR k58_21 k58_o10 .ret := yR rfl
@[simp, simp ↓] theorem k58_22r : rC k58_22 (.t 16) k58_21 .skip := zC rfl
@[simp, simp ↓] theorem k58_23r : sR k58_23 k58_o9 k58_22 := yR rfl
@[simp, simp ↓] theorem k58_26r : sR k58_26 k58_o12 .ret := yR rfl
@[simp, simp ↓] theorem k58_27r : rC k58_27 (.t 19) k58_26 .skip := zC rfl
@[simp, simp ↓] theorem k58_28r : sR k58_28 k58_o11 k58_27 := yR rfl
@[simp, simp ↓] theorem k58_30r : sR k58_30 k58_o13 .ret := yR rfl
@[simp, simp ↓] theorem k58_31r : rS k58_31 k58_28 k58_30 := zS rfl
@[simp, simp ↓] theorem k58_32r : rS k58_32 k58_23 k58_31 := zS rfl
@[simp, simp ↓] theorem k58_33r : rS k58_33 k58_18 k58_32 := zS rfl
@[simp, simp ↓] theorem k58_34r : rS k58_34 k58_13 k58_33 := zS rfl
@[simp, simp ↓] theorem k58_35r : sR k58_35 k58_o2 k58_34 := yR rfl
@[simp, simp ↓] theorem k58_36r : sR k58_36 k58_o1 k58_35 := yR rfl
@[simp, simp ↓] theorem k58_37r : sR k58_37 k58_o0 k58_36 := yR rfl
noncomputable abbrev k58_C : Orc → Cx := mkC Try.prog [] 58 20 [.tmp 4]
theorem k58_of0 : OfP0 Try.prog Try.f58 58 20 k58_C k58_37 := @ofP0 _ _ _ _ _ _ _ _ Try.func58 (by decide +kernel) rfl (by kernel_rfl) rfl (by kernel_rfl)
theorem compare_c (a b : Int) (h : Heap) : ACalls Try.prog 58 [.int .i64 a, .int .i64 b] h (fun v h' => v = .int .i64 (cmpI a b) ∧ h' = h) := by
  refine k58_of0 rfl orc1_p fun I => ?_
  refine Run2.of I 1000 ?_
  simp -implicitDefEqProofs [cmpI]
  grind
noncomputable def o_compare : List AV → Option (Prop × AV) := tab (fun (x : Int × Int) => match x with | (a, b) => [.int .i64 a, .int .i64 b]) (fun x => match x with | (a, b) => True) (fun x => match x with | (a, b) => .int .i64 (cmpI a b))
@[simp] theorem o_compare_e (a : Int) (b : Int) : o_compare [.int .i64 a, .int .i64 b] = some (True, .int .i64 (cmpI a b)) := tab_at (enc := fun (x : Int × Int) => match x with | (a, b) => [.int .i64 a, .int .i64 b]) (fun x y h => by
  obtain ⟨a1, b1⟩ := x; obtain ⟨a2, b2⟩ := y; simp at h; simp [h] <;> omega) _ _ (a, b)
theorem o_compare_k : Knows Try.prog 58 o_compare := tab_knows fun x hx h => by
  obtain ⟨a, b⟩ := x; exact compare_c _ _ h
def orI : List Int → Int
  | [] => 0
  | x :: xs => if x = 0 then orI xs else x
abbrev k57_o0 : List AJ := [.o ⟨(some 2), none, false, .mv (.c (.int .i64 0)), (some [0])⟩]
abbrev k57_o1 : List AJ := [.o ⟨(some 3), none, false, .mv (.c (.int .i64 0)), (some [0, 3])⟩]
abbrev k57_o2 : List AJ := [.o ⟨(some 6), none, false, .mv (.t 0), none⟩, .o ⟨(some 7), none, false, .len (.t 6), none⟩, .o ⟨(some 8), none, false, .mv (.c (.int .i64 0)), (some [3, 6, 7, 8])⟩]
abbrev k57_o3 : List AJ := [.o ⟨(some 9), none, false, .bin .lss (.t 8) (.t 7), (some [3, 6, 7, 8, 9])⟩]
abbrev k57_o4 : List AJ := [.o ⟨(some 10), none, false, .idxA 1 (.t 6) (.t 8), none⟩, .o ⟨(some 11), none, false, .load 1 false (.t 10), none⟩, .o ⟨(some 5), none, false, .mv (.t 11), (some [3, 5, 6, 7, 8])⟩]
abbrev k57_o5 : List AJ := [.o ⟨(some 12), none, false, .mv (.t 5), none⟩, .o ⟨(some 13), none, false, .mv (.t 3), none⟩, .o ⟨(some 14), none, false, .bin .neq (.t 12) (.t 13), (some [3, 5, 6, 7, 8, 14])⟩]
abbrev k57_o6 : List AJ := [.o ⟨(some 15), none, false, .mv (.t 5), none⟩, .o ⟨(some 2), none, false, .mv (.t 15), (some [2])⟩]
def k57_8 : ACode := .seq (.region k57_o6) .ret
def k57_9 : ACode := .cond (.t 14) k57_8 .skip
def k57_10 : ACode := .seq (.region k57_o5) k57_9
def k57_11 : ACode := .seq (.region k57_o4) k57_10
abbrev k57_o7 : List AJ := [.o ⟨(some 16), none, true, .bin .add (.t 8) (.c (.int .i64 1)), none⟩, .o ⟨(some 8), none, false, .mv (.t 16), (some [3, 6, 7, 8])⟩]
def k57_13 : ACode := .region k57_o7
def k57_14 : ACode := .seq (.block 1 k57_11) k57_13
def k57_15 : ACode := .seq (.cond (.t 9) .skip (.exit 0)) k57_14
def k57_16 : ACode := .seq (.region k57_o3) k57_15
def k57_17 : ACode := .loop k57_16
def k57_18 : ACode := .block 0 k57_17
def k57_19 : ACode := .seq (.region k57_o2) k57_18
abbrev k57_o8 : List AJ := [.o ⟨(some 17), none, false, .mv (.t 3), none⟩, .o ⟨(some 2), none, false, .mv (.t 17), (some [2])⟩]
def k57_21 : ACode := .seq (.region k57_o8) .ret
def k57_22 : ACode := .seq k57_19 k57_21
def k57_23 : ACode := .seq (.region k57_o1) k57_22
def k57_24 : ACode := .seq (.region k57_o0) k57_23
@[simp, simp ↓] theorem k57_8r : sR k57_8 k57_o6 .ret := yR rfl
@[simp, simp ↓] theorem k57_9r : rC k57_9 (.t 14) k57_8 .skip := zC rfl
@[simp, simp ↓] theorem k57_10r : sR k57_10 k57_o5 k57_9 := yR rfl
@[simp, simp ↓] theorem k57_11r : sR k57_11 k57_o4 k57_10 := yR rfl
@[simp, simp ↓] theorem k57_13r : rR k57_13 k57_o7 := zR rfl
@[simp, simp ↓] theorem k57_14r : sB k57_14 1 k57_11 k57_13 := yB rfl
@[simp, simp ↓] theorem k57_15r : sC k57_15 (.t 9) .skip (.exit 0) k57_14 := yC rfl
@[simp, simp ↓] theorem k57_16r : sR k57_16 k57_o3 k57_15 := yR rfl
@[simp, simp ↓] theorem k57_17r : rL k57_17 k57_16 := zL rfl
@[simp, simp ↓] theorem k57_18r : rB k57_18 0 k57_17 := zB rfl
@[simp, simp ↓] theorem k57_19r : sR k57_19 k57_o2 k57_18 := yR rfl
@[simp, simp ↓] theorem k57_21r : sR k57_21 k57_o8 .ret := yR rfl
@[simp, simp ↓] theorem k57_22r : rS k57_22 k57_19 k57_21 := zS rfl
@[simp, simp ↓] theorem k57_23r : sR k57_23 k57_o1 k57_22 := yR rfl
@[simp, simp ↓] theorem k57_24r : sR k57_24 k57_o0 k57_23 := yR rfl
noncomputable abbrev k57_C : Orc → Cx := mkC Try.prog [] 57 18 [.tmp 2]
theorem k57_of0 : OfP0 Try.prog Try.f57 57 18 k57_C k57_24 := @ofP0 _ _ _ _ _ _ _ _ Try.func57 (by decide +kernel) rfl (by kernel_rfl) rfl (by kernel_rfl)
theorem or_c (l : List Int) (h : Heap) (hl : l.length ≤ 1048576) : ACalls Try.prog 57 [.snap 1 (l.map fun n => .int .i64 n)] h (fun v h' => v = .int .i64 (orI l) ∧ h' = h) := by
  refine k57_of0 rfl noPure fun I => ?_
  refine Run2.of I 1000 ?_
  simp -implicitDefEqProofs
  refine Run2.loop (fun i => [(3, .int .i64 0), (6, .snap 1 (l.map fun n => .int .i64 n)), (7, .int .i64 l.length), (8, .int .i64 (i : Nat))]) (fun i => h) (fun i => l.length - i) (fun i => i ≤ l.length ∧ orI (l.drop i) = orI l) 0 (by simp) fun i hi ih => ?_
  by_cases hlt : i < l.length
  · have hd : l.drop i = l[i] :: l.drop (i + 1) := List.drop_eq_getElem_cons hlt
    refine Run2.of I 1000 ?_
    simp -implicitDefEqProofs [hlt]
    constructor
    · intro hne
      rw [← hi.2, hd, orI, if_neg hne]
    · intro he
      refine ⟨by omega, ?_⟩
      have := ih (i + 1) ⟨by omega, by rw [← hi.2, hd, orI, if_pos he]⟩ (by omega)
      simpa using this
  · have : i = l.length := by omega
    have h2 := hi.2
    rw [List.drop_of_length_le (by omega)] at h2
    refine Run2.of I 1000 ?_
    simp -implicitDefEqProofs [hlt]
    exact h2
noncomputable def o_or2 : List AV → Option (Prop × AV) := tab (fun (x : Int × Int) => match x with | (a, b) => [.snap 1 [.int .i64 a, .int .i64 b]]) (fun x => match x with | (a, b) => True) (fun x => match x with | (a, b) => .int .i64 (orI [a, b]))
@[simp] theorem o_or2_e (a : Int) (b : Int) : o_or2 [.snap 1 [.int .i64 a, .int .i64 b]] = some (True, .int .i64 (orI [a, b])) := tab_at (enc := fun (x : Int × Int) => match x with | (a, b) => [.snap 1 [.int .i64 a, .int .i64 b]]) (fun x y h => by
  obtain ⟨a1, b1⟩ := x; obtain ⟨a2, b2⟩ := y; simp at h; simp [h] <;> omega) _ _ (a, b)
theorem o_or2_k : Knows Try.prog 57 o_or2 := tab_knows fun x hx h => by
  obtain ⟨a, b⟩ := x; exact or_c [a, b] h (by simp)
end Go.AG
