/- Small functions of the program and of the reference that have no effect, and what they give. No statement is made here. -/
import Derived.Test.YtiahlbbljmngnaaDoorPhA
namespace Go.AG.P
open Go.Proofs Go.Proofs.YtiahlbbljmngnaaDoor
set_option linter.unusedSimpArgs false
set_option linter.unusedVariables false
set_option maxRecDepth 4000
abbrev k33_o0 : List AJ := [.o ⟨(some 6), none, false, .mv (.c (.bool false)), (some [0, 1, 2])⟩]
abbrev k33_o1 : List AJ := [.o ⟨(some 7), none, false, .mv (.t 0), none⟩, .o ⟨(some 8), none, false, .mv (.t 1), none⟩, .o ⟨(some 9), none, false, .bin .geq (.t 7) (.t 8), none⟩, .o ⟨(some 10), none, false, .mv (.t 9), none⟩, .o ⟨(some 11), (some (10, true)), false, .mv (.t 0), none⟩, .o ⟨(some 12), (some (10, true)), false, .mv (.t 2), none⟩, .o ⟨(some 13), (some (10, true)), false, .bin .leq (.t 11) (.t 12), none⟩, .o ⟨(some 14), none, false, .pick (.t 10) (.t 13) (.c (.bool false)), none⟩, .o ⟨(some 6), none, false, .mv (.t 14), (some [6])⟩]
def k33_2 : ACode := .seq (.region k33_o1) .ret
def k33_3 : ACode := .seq (.region k33_o0) k33_2
@[simp, simp ↓] theorem k33_2r : sR k33_2 k33_o1 .ret := yR rfl
@[simp, simp ↓] theorem k33_3r : sR k33_3 k33_o0 k33_2 := yR rfl
noncomputable abbrev k33_C : Orc → Cx := mkC Tryd.prog [] 33 15 [.tmp 6]
theorem k33_of0 : OfP0 Tryd.prog Tryd.f33 33 15 k33_C k33_3 := @ofP0 _ _ _ _ _ _ _ _ Tryd.func33 (by decide +kernel) rfl (by kernel_rfl) rfl (by kernel_rfl)
theorem l00In_c (a b c : Int) (h : Heap) : ACalls Tryd.prog 33 [.int .i64 a, .int .i64 b, .int .i64 c] h (fun v h' => v = .bool (decide (b ≤ a) && decide (a ≤ c)) ∧ h' = h) := by
  refine k33_of0 rfl noPure fun I => ?_
  refine Run2.of I 1000 ?_
  simp -implicitDefEqProofs
  grind
noncomputable def o_l00In : List AV → Option (Prop × AV) := tab (fun (x : Int × Int × Int) => match x with | (a, b, c) => [.int .i64 a, .int .i64 b, .int .i64 c]) (fun x => match x with | (a, b, c) => True) (fun x => match x with | (a, b, c) => .bool (decide (b ≤ a) && decide (a ≤ c)))
@[simp] theorem o_l00In_e (a : Int) (b : Int) (c : Int) : o_l00In [.int .i64 a, .int .i64 b, .int .i64 c] = some (True, .bool (decide (b ≤ a) && decide (a ≤ c))) := tab_at (enc := fun (x : Int × Int × Int) => match x with | (a, b, c) => [.int .i64 a, .int .i64 b, .int .i64 c]) (fun x y h => by
  obtain ⟨a1, b1, c1⟩ := x; obtain ⟨a2, b2, c2⟩ := y; simp at h; simp [h] <;> omega) _ _ (a, b, c)
theorem o_l00In_k : Knows Tryd.prog 33 o_l00In := tab_knows fun x hx h => by
  obtain ⟨a, b, c⟩ := x; exact l00In_c _ _ _ h
abbrev k44_o0 : List AJ := [.o ⟨(some 6), none, false, .mv (.c (.bool false)), (some [0, 1, 2])⟩]
abbrev k44_o1 : List AJ := [.o ⟨(some 7), none, false, .mv (.t 0), none⟩, .o ⟨(some 8), none, false, .mv (.t 1), none⟩, .o ⟨(some 9), none, false, .bin .geq (.t 7) (.t 8), none⟩, .o ⟨(some 10), none, false, .mv (.t 9), none⟩, .o ⟨(some 11), (some (10, true)), false, .mv (.t 0), none⟩, .o ⟨(some 12), (some (10, true)), false, .mv (.t 2), none⟩, .o ⟨(some 13), (some (10, true)), false, .bin .leq (.t 11) (.t 12), none⟩, .o ⟨(some 14), none, false, .pick (.t 10) (.t 13) (.c (.bool false)), none⟩, .o ⟨(some 6), none, false, .mv (.t 14), (some [6])⟩]
def k44_2 : ACode := .seq (.region k44_o1) .ret
def k44_3 : ACode := .seq (.region k44_o0) k44_2
@[simp, simp ↓] theorem k44_2r : sR k44_2 k44_o1 .ret := yR rfl
@[simp, simp ↓] theorem k44_3r : sR k44_3 k44_o0 k44_2 := yR rfl
noncomputable abbrev k44_C : Orc → Cx := mkC Tryd.prog [] 44 15 [.tmp 6]
theorem k44_of0 : OfP0 Tryd.prog Tryd.f44 44 15 k44_C k44_3 := @ofP0 _ _ _ _ _ _ _ _ Tryd.func44 (by decide +kernel) rfl (by kernel_rfl) rfl (by kernel_rfl)
theorem within_c (a b c : Int) (h : Heap) : ACalls Tryd.prog 44 [.int .i64 a, .int .i64 b, .int .i64 c] h (fun v h' => v = .bool (decide (b ≤ a) && decide (a ≤ c)) ∧ h' = h) := by
  refine k44_of0 rfl noPure fun I => ?_
  refine Run2.of I 1000 ?_
  simp -implicitDefEqProofs
  grind
noncomputable def o_within : List AV → Option (Prop × AV) := tab (fun (x : Int × Int × Int) => match x with | (a, b, c) => [.int .i64 a, .int .i64 b, .int .i64 c]) (fun x => match x with | (a, b, c) => True) (fun x => match x with | (a, b, c) => .bool (decide (b ≤ a) && decide (a ≤ c)))
@[simp] theorem o_within_e (a : Int) (b : Int) (c : Int) : o_within [.int .i64 a, .int .i64 b, .int .i64 c] = some (True, .bool (decide (b ≤ a) && decide (a ≤ c))) := tab_at (enc := fun (x : Int × Int × Int) => match x with | (a, b, c) => [.int .i64 a, .int .i64 b, .int .i64 c]) (fun x y h => by
  obtain ⟨a1, b1, c1⟩ := x; obtain ⟨a2, b2, c2⟩ := y; simp at h; simp [h] <;> omega) _ _ (a, b, c)
theorem o_within_k : Knows Tryd.prog 44 o_within := tab_knows fun x hx h => by
  obtain ⟨a, b, c⟩ := x; exact within_c _ _ _ h
abbrev k69_o0 : List AJ := [.o ⟨(some 2), none, false, .mv (.c (.bool false)), (some [0])⟩]
abbrev k69_o1 : List AJ := [.o ⟨(some 3), none, false, .mv (.t 0), none⟩, .o ⟨(some 4), none, false, .mv (.t 0), none⟩, .o ⟨(some 5), none, false, .bin .neq (.t 3) (.t 4), none⟩, .o ⟨(some 2), none, false, .mv (.t 5), (some [2])⟩]
def k69_2 : ACode := .seq (.region k69_o1) .ret
def k69_3 : ACode := .seq (.region k69_o0) k69_2
@[simp, simp ↓] theorem k69_2r : sR k69_2 k69_o1 .ret := yR rfl
@[simp, simp ↓] theorem k69_3r : sR k69_3 k69_o0 k69_2 := yR rfl
noncomputable abbrev k69_C : Orc → Cx := mkC Tryd.prog [] 69 6 [.tmp 2]
theorem k69_of0 : OfP0 Tryd.prog Tryd.f69 69 6 k69_C k69_3 := @ofP0 _ _ _ _ _ _ _ _ Tryd.func69 (by decide +kernel) rfl (by kernel_rfl) rfl (by kernel_rfl)
theorem isNaN_c (a : Int) (h : Heap) : ACalls Tryd.prog 69 [.int .i64 a] h (fun v h' => v = .bool false ∧ h' = h) := by
  refine k69_of0 rfl noPure fun I => ?_
  refine Run2.of I 1000 ?_
  simp -implicitDefEqProofs
noncomputable def o_isNaN : List AV → Option (Prop × AV) := tab (fun (x : Int) => match x with | a => [.int .i64 a]) (fun x => match x with | a => True) (fun x => match x with | a => .bool false)
@[simp] theorem o_isNaN_e (a : Int) : o_isNaN [.int .i64 a] = some (True, .bool false) := tab_at (enc := fun (x : Int) => match x with | a => [.int .i64 a]) (fun x y h => by
  simp at h; simp [h] <;> omega) _ _ a
theorem o_isNaN_k : Knows Tryd.prog 69 o_isNaN := tab_knows fun x hx h => by
  exact isNaN_c _ h
noncomputable def orc1 : List (Nat × (List AV → Option (Prop × AV))) := (33, o_l00In) :: (44, o_within) :: (69, o_isNaN) :: []
theorem orc1_p : Pure Tryd.prog (lk orc1) := (lk_pure o_l00In_k (lk_pure o_within_k (lk_pure o_isNaN_k lk_pure0)))
@[simp] theorem orc1_l (b : Bool) (g : FuncId) (l : List AV) : lk orc1 b g l = if g = 33 then o_l00In l else if g = 44 then o_within l else if g = 69 then o_isNaN l else none := nr rfl
abbrev k50_o0 : List AJ := [.o ⟨(some 4), none, false, .mv (.c (.bool false)), (some [0, 1])⟩]
abbrev k50_o1 : List AJ := [.o ⟨(some 5), none, false, .mv (.t 0), none⟩, .o ⟨(some 6), none, false, .mv (.t 1), none⟩, .o ⟨(some 7), none, false, .bin .sub (.t 6) (.c (.int .i64 1)), none⟩, .o ⟨(some 8), none, false, .call 44 [(.t 5), (.c (.int .i64 0)), (.t 7)], none⟩, .o ⟨(some 4), none, false, .mv (.t 8), (some [4])⟩]
def k50_2 : ACode := .seq (.region k50_o1) .ret
def k50_3 : ACode := .seq (.region k50_o0) k50_2
@[simp, simp ↓] theorem k50_2r : sR k50_2 k50_o1 .ret := yR rfl
@[simp, simp ↓] theorem k50_3r : sR k50_3 k50_o0 k50_2 := yR rfl
noncomputable abbrev k50_C : Orc → Cx := mkC Tryd.prog [] 50 9 [.tmp 4]
theorem k50_of0 : OfP0 Tryd.prog Tryd.f50 50 9 k50_C k50_3 := @ofP0 _ _ _ _ _ _ _ _ Tryd.func50 (by decide +kernel) rfl (by kernel_rfl) rfl (by kernel_rfl)
theorem isElement_c (a p : Int) (h : Heap) : ACalls Tryd.prog 50 [.int .i64 a, .int .i64 p] h (fun v h' => v = .bool (decide (0 ≤ a) && decide (a ≤ IntKind.i64.wrap (p - 1))) ∧ h' = h) := by
  refine k50_of0 rfl orc1_p fun I => ?_
  refine Run2.of I 1000 ?_
  simp -implicitDefEqProofs
noncomputable def o_isElement : List AV → Option (Prop × AV) := tab (fun (x : Int × Int) => match x with | (a, p) => [.int .i64 a, .int .i64 p]) (fun x => match x with | (a, p) => True) (fun x => match x with | (a, p) => .bool (decide (0 ≤ a) && decide (a ≤ IntKind.i64.wrap (p - 1))))
@[simp] theorem o_isElement_e (a : Int) (p : Int) : o_isElement [.int .i64 a, .int .i64 p] = some (True, .bool (decide (0 ≤ a) && decide (a ≤ IntKind.i64.wrap (p - 1)))) := tab_at (enc := fun (x : Int × Int) => match x with | (a, p) => [.int .i64 a, .int .i64 p]) (fun x y h => by
  obtain ⟨a1, p1⟩ := x; obtain ⟨a2, p2⟩ := y; simp at h; simp [h] <;> omega) _ _ (a, p)
theorem o_isElement_k : Knows Tryd.prog 50 o_isElement := tab_knows fun x hx h => by
  obtain ⟨a, p⟩ := x; exact isElement_c _ _ h
def cmpI (a b : Int) : Int := if a < b then -1 else if b < a then 1 else 0
abbrev k52_o0 : List AJ := [.o ⟨(some 4), none, false, .mv (.c (.int .i64 0)), (some [0, 1])⟩]
abbrev k52_o1 : List AJ := [.o ⟨(some 7), none, false, .mv (.t 0), none⟩, .o ⟨(some 8), none, false, .call 69 [(.t 7)], none⟩, .o ⟨(some 5), none, false, .mv (.t 8), (some [0, 1, 5])⟩]
abbrev k52_o2 : List AJ := [.o ⟨(some 9), none, false, .mv (.t 1), none⟩, .o ⟨(some 10), none, false, .call 69 [(.t 9)], none⟩, .o ⟨(some 6), none, false, .mv (.t 10), (some [0, 1, 5, 6])⟩]
abbrev k52_o3 : List AJ := [.o ⟨(some 11), none, false, .mv (.t 5), (some [0, 1, 6, 11])⟩]
abbrev k52_o4 : List AJ := [.o ⟨(some 12), none, false, .mv (.t 6), (some [12])⟩]
abbrev k52_o5 : List AJ := [.o ⟨(some 4), none, false, .mv (.c (.int .i64 0)), (some [4])⟩]
def k52_6 : ACode := .seq (.region k52_o5) .ret
def k52_7 : ACode := .cond (.t 12) k52_6 .skip
def k52_8 : ACode := .seq (.region k52_o4) k52_7
abbrev k52_o6 : List AJ := [.o ⟨(some 4), none, false, .mv (.c (.int .i64 (-1))), (some [4])⟩]
def k52_10 : ACode := .seq (.region k52_o6) .ret
def k52_11 : ACode := .seq k52_8 k52_10
def k52_12 : ACode := .cond (.t 11) k52_11 .skip
def k52_13 : ACode := .seq (.region k52_o3) k52_12
abbrev k52_o7 : List AJ := [.o ⟨(some 13), none, false, .mv (.t 6), (some [0, 1, 13])⟩]
abbrev k52_o8 : List AJ := [.o ⟨(some 4), none, false, .mv (.c (.int .i64 1)), (some [4])⟩]
def k52_16 : ACode := .seq (.region k52_o8) .ret
def k52_17 : ACode := .cond (.t 13) k52_16 .skip
def k52_18 : ACode := .seq (.region k52_o7) k52_17
abbrev k52_o9 : List AJ := [.o ⟨(some 14), none, false, .mv (.t 0), none⟩, .o ⟨(some 15), none, false, .mv (.t 1), none⟩, .o ⟨(some 16), none, false, .bin .lss (.t 14) (.t 15), (some [0, 1, 16])⟩]
abbrev k52_o10 : List AJ := [.o ⟨(some 4), none, false, .mv (.c (.int .i64 (-1))), (some [4])⟩]
def k52_21 : ACode := .seq (.region k52_o10) .ret
def k52_22 : ACode := .cond (.t 16) k52_21 .skip
def k52_23 : ACode := .seq (.region k52_o9) k52_22
abbrev k52_o11 : List AJ := [.o ⟨(some 17), none, false, .mv (.t 0), none⟩, .o ⟨(some 18), none, false, .mv (.t 1), none⟩, .o ⟨(some 19), none, false, .bin .gtr (.t 17) (.t 18), (some [19])⟩]
abbrev k52_o12 : List AJ := [.o ⟨(some 4), none, false, .mv (.c (.int .i64 1)), (some [4])⟩]
def k52_26 : ACode := .seq (.region k52_o12) .ret
def k52_27 : ACode := .cond (.t 19) k52_26 .skip
def k52_28 : ACode := .seq (.region k52_o11) k52_27
abbrev k52_o13 : List AJ := [.o ⟨(some 4), none, false, .mv (.c (.int .i64 0)), (some [4])⟩]
def k52_30 : ACode := .seq (.region k52_o13) .ret
def k52_31 : ACode := .seq k52_28 k52_30
def k52_32 : ACode := .seq k52_23 k52_31
def k52_33 : ACode := .seq k52_18 k52_32
def k52_34 : ACode := .seq k52_13 k52_33
def k52_35 : ACode := .seq (.region k52_o2) k52_34
def k52_36 : ACode := .seq (.region k52_o1) k52_35
def k52_37 : ACode := .seq (.region k52_o0) k52_36
@[simp, simp ↓] theorem k52_6r : sR k52_6 k52_o5 .ret := yR rfl
@[simp, simp ↓] theorem k52_7r : rC k52_7 (.t 12) k52_6 .skip := zC rfl
@[simp, simp ↓] theorem k52_8r : sR k52_8 k52_o4 k52_7 := yR rfl
@[simp, simp ↓] theorem k52_10r : sR k52_10 k52_o6 .ret := yR rfl
@[simp, simp ↓] theorem k52_11r : rS k52_11 k52_8 k52_10 := zS rfl
@[simp, simp ↓] theorem k52_12r : rC k52_12 (.t 11) k52_11 .skip := zC rfl
@[simp, simp ↓] theorem k52_13r : sR k52_13 k52_o3 k52_12 := yR rfl
@[simp, simp ↓] theorem k52_16r : sR k52_16 k52_o8 .ret := yR rfl
@[simp, simp ↓] theorem k52_17r : rC k52_17 (.t 13) k52_16 .skip := zC rfl
@[simp, simp ↓] theorem k52_18r : sR k52_18 k52_o7 k52_17 := yR rfl
@[simp, simp ↓] theorem k52_21r : sR k52_21 k52_o10 .ret := yR rfl
@[simp, simp ↓] theorem k52_22r : rC k52_22 (.t 16) k52_21 .skip := zC rfl
@[simp, simp ↓] theorem k52_23r : sR k52_23 k52_o9 k52_22 := yR rfl
@[simp, simp ↓] theorem k52_26r : sR k52_26 k52_o12 .ret := yR rfl
@[simp, simp ↓] theorem k52_27r : rC k52_27 (.t 19) k52_26 .skip := zC rfl
@[simp, simp ↓] theorem k52_28r : sR k52_28 k52_o11 k52_27 := yR rfl
@[simp, simp ↓] theorem k52_30r : sR k52_30 k52_o13 .ret := yR rfl
@[simp, simp ↓] theorem k52_31r : rS k52_31 k52_28 k52_30 := zS rfl
@[simp, simp ↓] theorem k52_32r : rS k52_32 k52_23 k52_31 := zS rfl
@[simp, simp ↓] theorem k52_33r : rS k52_33 k52_18 k52_32 := zS rfl
@[simp, simp ↓] theorem k52_34r : rS k52_34 k52_13 k52_33 := zS rfl
@[simp, simp ↓] theorem k52_35r : sR k52_35 k52_o2 k52_34 := yR rfl
@[simp, simp ↓] theorem k52_36r : sR k52_36 k52_o1 k52_35 := yR rfl
@[simp, simp ↓] theorem k52_37r : sR k52_37 k52_o0 k52_36 := yR rfl
noncomputable abbrev k52_C : Orc → Cx := mkC Tryd.prog [] 52 20 [.tmp 4]
theorem k52_of0 : OfP0 Tryd.prog Tryd.f52 52 20 k52_C k52_37 := @ofP0 _ _ _ _ _ _ _ _ Tryd.func52 (by decide +kernel) rfl (by kernel_rfl) rfl (by kernel_rfl)
theorem compare_c (a b : Int) (h : Heap) : ACalls Tryd.prog 52 [.int .i64 a, .int .i64 b] h (fun v h' => v = .int .i64 (cmpI a b) ∧ h' = h) := by
  refine k52_of0 rfl orc1_p fun I => ?_
  refine Run2.of I 1000 ?_
  simp -implicitDefEqProofs [cmpI]
  grind
noncomputable def o_compare : List AV → Option (Prop × AV) := tab (fun (x : Int × Int) => match x with | (a, b) => [.int .i64 a, .int .i64 b]) (fun x => match x with | (a, b) => True) (fun x => match x with | (a, b) => .int .i64 (cmpI a b))
@[simp] theorem o_compare_e (a : Int) (b : Int) : o_compare [.int .i64 a, .int .i64 b] = some (True, .int .i64 (cmpI a b)) := tab_at (enc := fun (x : Int × Int) => match x with | (a, b) => [.int .i64 a, .int .i64 b]) (fun x y h => by
  obtain ⟨a1, b1⟩ := x; obtain ⟨a2, b2⟩ := y; simp at h; simp [h] <;> omega) _ _ (a, b)
theorem o_compare_k : Knows Tryd.prog 52 o_compare := tab_knows fun x hx h => by
  obtain ⟨a, b⟩ := x; exact compare_c _ _ h
def orI : List Int → Int
  | [] => 0
  | x :: xs => if x = 0 then orI xs else x
abbrev k51_o0 : List AJ := [.o ⟨(some 2), none, false, .mv (.c (.int .i64 0)), (some [0])⟩]
abbrev k51_o1 : List AJ := [.o ⟨(some 3), none, false, .mv (.c (.int .i64 0)), (some [0, 3])⟩]
abbrev k51_o2 : List AJ := [.o ⟨(some 6), none, false, .mv (.t 0), none⟩, .o ⟨(some 7), none, false, .len (.t 6), none⟩, .o ⟨(some 8), none, false, .mv (.c (.int .i64 0)), (some [3, 6, 7, 8])⟩]
abbrev k51_o3 : List AJ := [.o ⟨(some 9), none, false, .bin .lss (.t 8) (.t 7), (some [3, 6, 7, 8, 9])⟩]
abbrev k51_o4 : List AJ := [.o ⟨(some 10), none, false, .idxA 1 (.t 6) (.t 8), none⟩, .o ⟨(some 11), none, false, .load 1 false (.t 10), none⟩, .o ⟨(some 5), none, false, .mv (.t 11), (some [3, 5, 6, 7, 8])⟩]
abbrev k51_o5 : List AJ := [.o ⟨(some 12), none, false, .mv (.t 5), none⟩, .o ⟨(some 13), none, false, .mv (.t 3), none⟩, .o ⟨(some 14), none, false, .bin .neq (.t 12) (.t 13), (some [3, 5, 6, 7, 8, 14])⟩]
abbrev k51_o6 : List AJ := [.o ⟨(some 15), none, false, .mv (.t 5), none⟩, .o ⟨(some 2), none, false, .mv (.t 15), (some [2])⟩]
def k51_8 : ACode := .seq (.region k51_o6) .ret
def k51_9 : ACode := .cond (.t 14) k51_8 .skip
def k51_10 : ACode := .seq (.region k51_o5) k51_9
def k51_11 : ACode := .seq (.region k51_o4) k51_10
abbrev k51_o7 : List AJ := [.o ⟨(some 16), none, true, .bin .add (.t 8) (.c (.int .i64 1)), none⟩, .o ⟨(some 8), none, false, .mv (.t 16), (some [3, 6, 7, 8])⟩]
def k51_13 : ACode := .region k51_o7
def k51_14 : ACode := .seq (.block 1 k51_11) k51_13
def k51_15 : ACode := .seq (.cond (.t 9) .skip (.exit 0)) k51_14
def k51_16 : ACode := .seq (.region k51_o3) k51_15
def k51_17 : ACode := .loop k51_16
def k51_18 : ACode := .block 0 k51_17
def k51_19 : ACode := .seq (.region k51_o2) k51_18
abbrev k51_o8 : List AJ := [.o ⟨(some 17), none, false, .mv (.t 3), none⟩, .o ⟨(some 2), none, false, .mv (.t 17), (some [2])⟩]
def k51_21 : ACode := .seq (.region k51_o8) .ret
def k51_22 : ACode := .seq k51_19 k51_21
def k51_23 : ACode := .seq (.region k51_o1) k51_22
def k51_24 : ACode := .seq (.region k51_o0) k51_23
@[simp, simp ↓] theorem k51_8r : sR k51_8 k51_o6 .ret := yR rfl
@[simp, simp ↓] theorem k51_9r : rC k51_9 (.t 14) k51_8 .skip := zC rfl
@[simp, simp ↓] theorem k51_10r : sR k51_10 k51_o5 k51_9 := yR rfl
@[simp, simp ↓] theorem k51_11r : sR k51_11 k51_o4 k51_10 := yR rfl
@[simp, simp ↓] theorem k51_13r : rR k51_13 k51_o7 := zR rfl
@[simp, simp ↓] theorem k51_14r : sB k51_14 1 k51_11 k51_13 := yB rfl
@[simp, simp ↓] theorem k51_15r : sC k51_15 (.t 9) .skip (.exit 0) k51_14 := yC rfl
@[simp, simp ↓] theorem k51_16r : sR k51_16 k51_o3 k51_15 := yR rfl
@[simp, simp ↓] theorem k51_17r : rL k51_17 k51_16 := zL rfl
@[simp, simp ↓] theorem k51_18r : rB k51_18 0 k51_17 := zB rfl
@[simp, simp ↓] theorem k51_19r : sR k51_19 k51_o2 k51_18 := yR rfl
@[simp, simp ↓] theorem k51_21r : sR k51_21 k51_o8 .ret := yR rfl
@[simp, simp ↓] theorem k51_22r : rS k51_22 k51_19 k51_21 := zS rfl
@[simp, simp ↓] theorem k51_23r : sR k51_23 k51_o1 k51_22 := yR rfl
@[simp, simp ↓] theorem k51_24r : sR k51_24 k51_o0 k51_23 := yR rfl
noncomputable abbrev k51_C : Orc → Cx := mkC Tryd.prog [] 51 18 [.tmp 2]
theorem k51_of0 : OfP0 Tryd.prog Tryd.f51 51 18 k51_C k51_24 := @ofP0 _ _ _ _ _ _ _ _ Tryd.func51 (by decide +kernel) rfl (by kernel_rfl) rfl (by kernel_rfl)
theorem or_c (l : List Int) (h : Heap) (hl : l.length ≤ 1048576) : ACalls Tryd.prog 51 [.snap 1 (l.map fun n => .int .i64 n)] h (fun v h' => v = .int .i64 (orI l) ∧ h' = h) := by
  refine k51_of0 rfl noPure fun I => ?_
  refine Run2.of I 1000 ?_
  simp -implicitDefEqProofs
  refine Run2.loop (fun i => [(3, .int .i64 0), (6, .snap 1 (l.map fun n => .int .i64 n)), (7, .int .i64 l.length), (8, .int .i64 (i : Nat))]) (fun i => h) (fun i => l.length - i) (fun i => i ≤ l.length ∧ orI (l.drop i) = orI l) 0 (by simp) fun i hi ih => ?_
  by_cases hlt : i < l.length
  · have hd : l.drop i = l[i] :: l.drop (i + 1) := List.drop_eq_getElem_cons hlt
    refine Run2.of I 1000 ?_
    simp -implicitDefEqProofs [hlt]
    constructor
    · intro hne
      rw [← hi.2, hd, orI, if_neg hne]
    · intro he
      refine ⟨by omega, ?_⟩
      have := ih (i + 1) ⟨by omega, by rw [← hi.2, hd, orI, if_pos he]⟩ (by omega)
      simpa using this
  · have : i = l.length := by omega
    have h2 := hi.2
    rw [List.drop_of_length_le (by omega)] at h2
    refine Run2.of I 1000 ?_
    simp -implicitDefEqProofs [hlt]
    exact h2
noncomputable def o_or2 : List AV → Option (Prop × AV) := tab (fun (x : Int × Int) => match x with | (a, b) => [.snap 1 [.int .i64 a, .int .i64 b]]) (fun x => match x with | (a, b) => True) (fun x => match x with | (a, b) => .int .i64 (orI [a, b]))
@[simp] theorem o_or2_e (a : Int) (b : Int) : o_or2 [.snap 1 [.int .i64 a, .int .i64 b]] = some (True, .int .i64 (orI [a, b])) := tab_at (enc := fun (x : Int × Int) => match x with | (a, b) => [.snap 1 [.int .i64 a, .int .i64 b]]) (fun x y h => by
  obtain ⟨a1, b1⟩ := x; obtain ⟨a2, b2⟩ := y; simp at h; simp [h] <;> omega) _ _ (a, b)
theorem o_or2_k : Knows Tryd.prog 51 o_or2 := tab_knows fun x hx h => by
  obtain ⟨a, b⟩ := x; exact or_c [a, b] h (by simp)
end Go.AG.P
