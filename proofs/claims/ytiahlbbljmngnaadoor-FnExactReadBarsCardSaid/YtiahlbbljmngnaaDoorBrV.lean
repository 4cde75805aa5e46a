/- Small functions of bars that have no effect, and what they give. No statement is made here. -/
import Derived.Test.YtiahlbbljmngnaaDoorBrA
namespace Go.AG.B
open Go.Proofs Go.Proofs.YtiahlbbljmngnaaDoor
set_option linter.unusedSimpArgs false
set_option linter.unusedVariables false
set_option maxRecDepth 4000
abbrev k33_o0 : List AJ := [.o ⟨(some 6), none, false, .mv (.c (.bool false)), (some [0, 1, 2])⟩]
abbrev k33_o1 : List AJ := [.o ⟨(some 7), none, false, .mv (.t 0), none⟩, .o ⟨(some 8), none, false, .mv (.t 1), none⟩, .o ⟨(some 9), none, false, .bin .geq (.t 7) (.t 8), none⟩, .o ⟨(some 10), none, false, .mv (.t 9), none⟩, .o ⟨(some 11), (some (10, true)), false, .mv (.t 0), none⟩, .o ⟨(some 12), (some (10, true)), false, .mv (.t 2), none⟩, .o ⟨(some 13), (some (10, true)), false, .bin .leq (.t 11) (.t 12), none⟩, .o ⟨(some 14), none, false, .pick (.t 10) (.t 13) (.c (.bool false)), none⟩, .o ⟨(some 6), none, false, .mv (.t 14), (some [6])⟩]
def k33_2 : ACode := .seq (.region k33_o1) .ret
def k33_3 : ACode := .seq (.region k33_o0) k33_2
@[simp, simp ↓] theorem k33_2r : sR k33_2 k33_o1 .ret := yR rfl
@[simp, simp ↓] theorem k33_3r : sR k33_3 k33_o0 k33_2 := yR rfl
noncomputable abbrev k33_C : Orc → Cx := mkC Tryd.prog [] 33 15 [.tmp 6]
theorem k33_of0 : OfP0 Tryd.prog Tryd.f33 33 15 k33_C k33_3 := @ofP0 _ _ _ _ _ _ _ _ Tryd.func33 (by decide +kernel) rfl (by kernel_rfl) rfl (by kernel_rfl)
theorem l00In_c (a b c : Int) (h : Heap) : ACalls Tryd.prog 33 [.int .i64 a, .int .i64 b, .int .i64 c] h (fun v h' => v = .bool (decide (b ≤ a) && decide (a ≤ c)) ∧ h' = h) := by
  refine k33_of0 rfl noPure fun I => ?_
  refine Run2.of I 1000 ?_
  simp -implicitDefEqProofs
  grind
noncomputable def o_l00In : List AV → Option (Prop × AV) := tab (fun (x : Int × Int × Int) => match x with | (a, b, c) => [.int .i64 a, .int .i64 b, .int .i64 c]) (fun x => match x with | (a, b, c) => True) (fun x => match x with | (a, b, c) => .bool (decide (b ≤ a) && decide (a ≤ c)))
@[simp] theorem o_l00In_e (a : Int) (b : Int) (c : Int) : o_l00In [.int .i64 a, .int .i64 b, .int .i64 c] = some (True, .bool (decide (b ≤ a) && decide (a ≤ c))) := tab_at (enc := fun (x : Int × Int × Int) => match x with | (a, b, c) => [.int .i64 a, .int .i64 b, .int .i64 c]) (fun x y h => by
  obtain ⟨a1, b1, c1⟩ := x; obtain ⟨a2, b2, c2⟩ := y; simp at h; simp [h] <;> omega) _ _ (a, b, c)
theorem o_l00In_k : Knows Tryd.prog 33 o_l00In := tab_knows fun x hx h => by
  obtain ⟨a, b, c⟩ := x; exact l00In_c _ _ _ h
abbrev k44_o0 : List AJ := [.o ⟨(some 6), none, false, .mv (.c (.bool false)), (some [0, 1, 2])⟩]
abbrev k44_o1 : List AJ := [.o ⟨(some 7), none, false, .mv (.t 0), none⟩, .o ⟨(some 8), none, false, .mv (.t 1), none⟩, .o ⟨(some 9), none, false, .bin .geq (.t 7) (.t 8), none⟩, .o ⟨(some 10), none, false, .mv (.t 9), none⟩, .o ⟨(some 11), (some (10, true)), false, .mv (.t 0), none⟩, .o ⟨(some 12), (some (10, true)), false, .mv (.t 2), none⟩, .o ⟨(some 13), (some (10, true)), false, .bin .leq (.t 11) (.t 12), none⟩, .o ⟨(some 14), none, false, .pick (.t 10) (.t 13) (.c (.bool false)), none⟩, .o ⟨(some 6), none, false, .mv (.t 14), (some [6])⟩]
def k44_2 : ACode := .seq (.region k44_o1) .ret
def k44_3 : ACode := .seq (.region k44_o0) k44_2
@[simp, simp ↓] theorem k44_2r : sR k44_2 k44_o1 .ret := yR rfl
@[simp, simp ↓] theorem k44_3r : sR k44_3 k44_o0 k44_2 := yR rfl
noncomputable abbrev k44_C : Orc → Cx := mkC Tryd.prog [] 44 15 [.tmp 6]
theorem k44_of0 : OfP0 Tryd.prog Tryd.f44 44 15 k44_C k44_3 := @ofP0 _ _ _ _ _ _ _ _ Tryd.func44 (by decide +kernel) rfl (by kernel_rfl) rfl (by kernel_rfl)
theorem within_c (a b c : Int) (h : Heap) : ACalls Tryd.prog 44 [.int .i64 a, .int .i64 b, .int .i64 c] h (fun v h' => v = .bool (decide (b ≤ a) && decide (a ≤ c)) ∧ h' = h) := by
  refine k44_of0 rfl noPure fun I => ?_
  refine Run2.of I 1000 ?_
  simp -implicitDefEqProofs
  grind
noncomputable def o_within : List AV → Option (Prop × AV) := tab (fun (x : Int × Int × Int) => match x with | (a, b, c) => [.int .i64 a, .int .i64 b, .int .i64 c]) (fun x => match x with | (a, b, c) => True) (fun x => match x with | (a, b, c) => .bool (decide (b ≤ a) && decide (a ≤ c)))
@[simp] theorem o_within_e (a : Int) (b : Int) (c : Int) : o_within [.int .i64 a, .int .i64 b, .int .i64 c] = some (True, .bool (decide (b ≤ a) && decide (a ≤ c))) := tab_at (enc := fun (x : Int × Int × Int) => match x with | (a, b, c) => [.int .i64 a, .int .i64 b, .int .i64 c]) (fun x y h => by
  obtain ⟨a1, b1, c1⟩ := x; obtain ⟨a2, b2, c2⟩ := y; simp at h; simp [h] <;> omega) _ _ (a, b, c)
theorem o_within_k : Knows Tryd.prog 44 o_within := tab_knows fun x hx h => by
  obtain ⟨a, b, c⟩ := x; exact within_c _ _ _ h
abbrev k69_o0 : List AJ := [.o ⟨(some 2), none, false, .mv (.c (.bool false)), (some [0])⟩]
abbrev k69_o1 : List AJ := [.o ⟨(some 3), none, false, .mv (.t 0), none⟩, .o ⟨(some 4), none, false, .mv (.t 0), none⟩, .o ⟨(some 5), none, false, .bin .neq (.t 3) (.t 4), none⟩, .o ⟨(some 2), none, false, .mv (.t 5), (some [2])⟩]
def k69_2 : ACode := .seq (.region k69_o1) .ret
def k69_3 : ACode := .seq (.region k69_o0) k69_2
@[simp, simp ↓] theorem k69_2r : sR k69_2 k69_o1 .ret := yR rfl
@[simp, simp ↓] theorem k69_3r : sR k69_3 k69_o0 k69_2 := yR rfl
noncomputable abbrev k69_C : Orc → Cx := mkC Tryd.prog [] 69 6 [.tmp 2]
theorem k69_of0 : OfP0 Tryd.prog Tryd.f69 69 6 k69_C k69_3 := @ofP0 _ _ _ _ _ _ _ _ Tryd.func69 (by decide +kernel) rfl (by kernel_rfl) rfl (by kernel_rfl)
theorem isNaN_c (a : Int) (h : Heap) : ACalls Tryd.prog 69 [.int .i64 a] h (fun v h' => v = .bool false ∧ h' = h) := by
  refine k69_of0 rfl noPure fun I => ?_
  refine Run2.of I 1000 ?_
  simp -implicitDefEqProofs
noncomputable def o_isNaN : List AV → Option (Prop × AV) := tab (fun (x : Int) => match x with | a => [.int .i64 a]) (fun x => match x with | a => True) (fun x => match x with | a => .bool false)
@[simp] theorem o_isNaN_e (a : Int) : o_isNaN [.int .i64 a] = some (True, .bool false) := tab_at (enc := fun (x : Int) => match x with | a => [.int .i64 a]) (fun x y h => by
  simp at h; simp [h] <;> omega) _ _ a
theorem o_isNaN_k : Knows Tryd.prog 69 o_isNaN := tab_knows fun x hx h => by
  exact isNaN_c _ h
noncomputable def orc1 : List (Nat × (List AV → Option (Prop × AV))) := (33, o_l00In) :: (44, o_within) :: (69, o_isNaN) :: []
theorem orc1_p : Pure Tryd.prog (lk orc1) := (lk_pure o_l00In_k (lk_pure o_within_k (lk_pure o_isNaN_k lk_pure0)))
@[simp] theorem orc1_l (b : Bool) (g : FuncId) (l : List AV) : lk orc1 b g l = if g = 33 then o_l00In l else if g = 44 then o_within l else if g = 69 then o_isNaN l else none := nr rfl
def cmpI (a b : Int) : Int := if a < b then -1 else if b < a then 1 else 0
abbrev k52_o0 : List AJ := [.o ⟨(some 4), none, false, .mv (.c (.int .i64 0)), (some [0, 1])⟩]
abbrev k52_o1 : List AJ := [.o ⟨(some 7), none, false, .mv (.t 0), none⟩, .o ⟨(some 8), none, false, .call 69 [(.t 7)], none⟩, .o ⟨(some 5), none, false, .mv (.t 8), (some [0, 1, 5])⟩]
abbrev k52_o2 : List AJ := [.o ⟨(some 9), none, false, .mv (.t 1), none⟩, .o ⟨(some 10), none, false, .call 69 [(.t 9)], none⟩, .o ⟨(some 6), none, false, .mv (.t 10), (some [0, 1, 5, 6])⟩]
abbrev k52_o3 : List AJ := [.o ⟨(some 11), none, false, .mv (.t 5), (some [0, 1, 6, 11])⟩]
abbrev k52_o4 : List AJ := [.o ⟨(some 12), none, false, .mv (.t 6), (some [12])⟩]
abbrev k52_o5 : List AJ := [.o ⟨(some 4), none, false, .mv (.c (.int .i64 0)), (some [4])⟩]
def k52_6 : ACode := .seq (.region k52_o5) .ret
def k52_7 : ACode := .cond (.t 12) k52_6 .skip
def k52_8 : ACode := .seq (.region k52_o4) k52_7
abbrev k52_o6 : List AJ := [.o ⟨(some 4), none, false, .mv (.c (.int .i64 (-1))), (some [4])⟩]
def k52_10 : ACode := .seq (.region k52_o6) .ret
def k52_11 : ACode := .seq k52_8 k52_10
def k52_12 : ACode := .cond (.t 11) k52_11 .skip
def k52_13 : ACode := .seq (.region k52_o3) k52_12
abbrev k52_o7 : List AJ := [.o ⟨(some 13), none, false, .mv (.t 6), (some [0, 1, 13])⟩]
abbrev k52_o8 : List AJ := [.o ⟨(some 4), none, false, .mv (.c (.int .i64 1)), (some [4])⟩]
def k52_16 : ACode := .seq (.region k52_o8) .ret
def k52_17 : ACode := .cond (.t 13) k52_16 .skip
def k52_18 : ACode := .seq (.region k52_o7) k52_17
abbrev k52_o9 : List AJ := [.o ⟨(some 14), none, false, .mv (.t 0), none⟩, .o ⟨(some 15), none, false, .mv (.t 1), none⟩, .o ⟨(some 16), none, false, .bin .lss (.t 14) (.t 15), (some [0, 1, 16])⟩]
abbrev k52_o10 : List AJ := [.o ⟨(some 4), none, false, .mv (.c (.int .i64 (-1))), (some [4])⟩]
def k52_21 : ACode := .seq (.region k52_o10) .ret
def k52_22 : ACode := .cond (.t 16) k52_21 .skip
def k52_23 : ACode := .seq (.region k52_o9) k52_22
abbrev k52_o11 : List AJ := [.o ⟨(some 17), none, false, .mv (.t 0), none⟩, .o ⟨(some 18), none, false, .mv (.t 1), none⟩, .o ⟨(some 19), none, false, .bin .gtr (.t 17) (.t 18), (some [19])⟩]
abbrev k52_o12 : List AJ := [.o ⟨(some 4), none, false, .mv (.c (.int .i64 1)), (some [4])⟩]
def k52_26 : ACode := .seq (.region k52_o12) .ret
def k52_27 : ACode := .cond (.t 19) k52_26 .skip
def k52_28 : ACode := .seq (.region k52_o11) k52_27
abbrev k52_o13 : List AJ := [.o ⟨(some 4), none, false, .mv (.c (.int .i64 0)), (some [4])⟩]
def k52_30 : ACode := .seq (.region k52_o13) .ret
def k52_31 : ACode := .seq k52_28 k52_30
def k52_32 : ACode := .seq k52_23 k52_31
def k52_33 : ACode := .seq k52_18 k52_32
def k52_34 : ACode := .seq k52_13 k52_33
def k52_35 : ACode := .seq (.region k52_o2) k52_34
def k52_36 : ACode := .seq (.region k52_o1) k52_35
def k52_37 : ACode := .seq (.region k52_o0) k52_36
@[simp, simp ↓] theorem k52_6r : sR k52_6 k52_o5 .ret := yR rfl
@[simp, simp ↓] theorem k52_7r : rC k52_7 (.t 12) k52_6 .skip := zC rfl
@[simp, simp ↓] theorem k52_8r : sR k52_8 k52_o4 k52_7 := yR rfl
@[simp, simp ↓] theorem k52_10r : sR k52_10 k52_o6 .ret := yR rfl
@[simp, simp ↓] theorem k52_11r : rS k52_11 k52_8 k52_10 := zS rfl
@[simp, simp ↓] theorem k52_12r : rC k52_12 (.t 11) k52_11 .skip := zC rfl
@[simp, simp ↓] theorem k52_13r : sR k52_13 k52_o3 k52_12 := yR rfl
@[simp, simp ↓] theorem k52_16r : sR k52_16 k52_o8 .ret := yR rfl
@[simp, simp ↓] theorem k52_17r : rC k52_17 (.t 13) k52_16 .skip := zC rfl
@[simp, simp ↓] theorem k52_18r : sR k52_18 k52_o7 k52_17 := yR rfl
@[simp, simp ↓] theorem k52_21r : sR k52_21 k52_o10 .ret := yR rfl
@[simp, simp ↓] theorem k52_22r : rC k52_22 (.t 16) k52_21 .skip := zC rfl
@[simp, simp ↓] theorem k52_23r : sR k52_23 k52_o9 k52_22 := yR rfl
@[simp, simp ↓] theorem k52_26r : sR k52_26 k52_o12 .ret := yR rfl
@[simp, simp ↓] theorem k52_27r : rC k52_27 (.t 19) k52_26 .skip := zC rfl
@[simp, simp ↓] theorem k52_28r : sR k52_28 k52_o11 k52_27 := yR rfl
@[simp, simp ↓] theorem k52_30r : sR k52_30 k52_o13 .ret := yR rfl
@[simp, simp ↓] theorem k52_31r : rS k52_31 k52_28 k52_30 := zS rfl
@[simp, simp ↓] theorem k52_32r : rS k52_32 k52_23 k52_31 := zS rfl
@[simp, simp ↓] theorem k52_33r : rS k52_33 k52_18 k52_32 := zS rfl
@[simp, simp ↓] theorem k52_34r : rS k52_34 k52_13 k52_33 := zS rfl
@[simp, simp ↓] theorem k52_35r : sR k52_35 k52_o2 k52_34 := yR rfl
@[simp, simp ↓] theorem k52_36r : sR k52_36 k52_o1 k52_35 := yR rfl
@[simp, simp ↓] theorem k52_37r : sR k52_37 k52_o0 k52_36 := yR rfl
noncomputable abbrev k52_C : Orc → Cx := mkC Tryd.prog [] 52 20 [.tmp 4]
theorem k52_of0 : OfP0 Tryd.prog Tryd.f52 52 20 k52_C k52_37 := @ofP0 _ _ _ _ _ _ _ _ Tryd.func52 (by decide +kernel) rfl (by kernel_rfl) rfl (by kernel_rfl)
theorem compare_c (a b : Int) (h : Heap) : ACalls Tryd.prog 52 [.int .i64 a, .int .i64 b] h (fun v h' => v = .int .i64 (cmpI a b) ∧ h' = h) := by
  refine k52_of0 rfl orc1_p fun I => ?_
  refine Run2.of I 1000 ?_
  simp -implicitDefEqProofs [cmpI]
  grind
noncomputable def o_compare : List AV → Option (Prop × AV) := tab (fun (x : Int × Int) => match x with | (a, b) => [.int .i64 a, .int .i64 b]) (fun x => match x with | (a, b) => True) (fun x => match x with | (a, b) => .int .i64 (cmpI a b))
@[simp] theorem o_compare_e (a : Int) (b : Int) : o_compare [.int .i64 a, .int .i64 b] = some (True, .int .i64 (cmpI a b)) := tab_at (enc := fun (x : Int × Int) => match x with | (a, b) => [.int .i64 a, .int .i64 b]) (fun x y h => by
  obtain ⟨a1, b1⟩ := x; obtain ⟨a2, b2⟩ := y; simp at h; simp [h] <;> omega) _ _ (a, b)
theorem o_compare_k : Knows Tryd.prog 52 o_compare := tab_knows fun x hx h => by
  obtain ⟨a, b⟩ := x; exact compare_c _ _ h
def orI : List Int → Int
  | [] => 0
  | x :: xs => if x = 0 then orI xs else x
abbrev k51_o0 : List AJ := [.o ⟨(some 2), none, false, .mv (.c (.int .i64 0)), (some [0])⟩]
abbrev k51_o1 : List AJ := [.o ⟨(some 3), none, false, .mv (.c (.int .i64 0)), (some [0, 3])⟩]
abbrev k51_o2 : List AJ := [.o ⟨(some 6), none, false, .mv (.t 0), none⟩, .o ⟨(some 7), none, false, .len (.t 6), none⟩, .o ⟨(some 8), none, false, .mv (.c (.int .i64 0)), (some [3, 6, 7, 8])⟩]
abbrev k51_o3 : List AJ := [.o ⟨(some 9), none, false, .bin .lss (.t 8) (.t 7), (some [3, 6, 7, 8, 9])⟩]
abbrev k51_o4 : List AJ := [.o ⟨(some 10), none, false, .idxA 1 (.t 6) (.t 8), none⟩, .o ⟨(some 11), none, false, .load 1 false (.t 10), none⟩, .o ⟨(some 5), none, false, .mv (.t 11), (some [3, 5, 6, 7, 8])⟩]
abbrev k51_o5 : List AJ := [.o ⟨(some 12), none, false, .mv (.t 5), none⟩, .o ⟨(some 13), none, false, .mv (.t 3), none⟩, .o ⟨(some 14), none, false, .bin .neq (.t 12) (.t 13), (some [3, 5, 6, 7, 8, 14])⟩]
abbrev k51_o6 : List AJ := [.o ⟨(some 15), none, false, .mv (.t 5), none⟩, .o ⟨(some 2), none, false, .mv (.t 15), (some [2])⟩]
def k51_8 : ACode := .seq (.region k51_o6) .ret
def k51_9 : ACode := .cond (.t 14) k51_8 .skip
def k51_10 : ACode := .seq (.region k51_o5) k51_9
def k51_11 : ACode := .seq (.region k51_o4) k51_10
abbrev k51_o7 : List AJ := [.o ⟨(some 16), none, true, .bin .add (.t 8) (.c (.int .i64 1)), none⟩, .o ⟨(some 8), none, false, .mv (.t 16), (some [3, 6, 7, 8])⟩]
def k51_13 : ACode := .region k51_o7
def k51_14 : ACode := .seq (.block 1 k51_11) k51_13
def k51_15 : ACode := .seq (.cond (.t 9) .skip (.exit 0)) k51_14
def k51_16 : ACode := .seq (.region k51_o3) k51_15
def k51_17 : ACode := .loop k51_16
def k51_18 : ACode := .block 0 k51_17
def k51_19 : ACode := .seq (.region k51_o2) k51_18
abbrev k51_o8 : List AJ := [.o ⟨(some 17), none, false, .mv (.t 3), none⟩, .o ⟨(some 2), none, false, .mv (.t 17), (some [2])⟩]
def k51_21 : ACode := .seq (.region k51_o8) .ret
def k51_22 : ACode := .seq k51_19 k51_21
def k51_23 : ACode := .seq (.region k51_o1) k51_22
def k51_24 : ACode := .seq (.region k51_o0) k51_23
@[simp, simp ↓] theorem k51_8r : sR k51_8 k51_o6 .ret := yR rfl
@[simp, simp ↓] theorem k51_9r : rC k51_9 (.t 14) k51_8 .skip := zC rfl
@[simp, simp ↓] theorem k51_10r : sR k51_10 k51_o5 k51_9 := yR rfl
@[simp, simp ↓] theorem k51_11r : sR k51_11 k51_o4 k51_10 := yR rfl
@[simp, simp ↓] theorem k51_13r : rR k51_13 k51_o7 := zR rfl
@[simp, simp ↓] theorem k51_14r : sB k51_14 1 k51_11 k51_13 := yB rfl
@[simp, simp ↓] theorem k51_15r : sC k51_15 (.t 9) .skip (.exit 0) k51_14 := yC rfl
@[simp, simp ↓] theorem k51_16r : sR k51_16 k51_o3 k51_15 := yR rfl
@[simp, simp ↓] theorem k51_17r : rL k51_17 k51_16 := zL rfl
@[simp, simp ↓] theorem k51_18r : rB k51_18 0 k51_17 := zB rfl
@[simp, simp ↓] theorem k51_19r : sR k51_19 k51_o2 k51_18 := yR rfl
@[simp, simp ↓] theorem k51_21r : sR k51_21 k51_o8 .ret := yR rfl
@[simp, simp ↓] theorem k51_22r : rS k51_22 k51_19 k51_21 := zS rfl
@[simp, simp ↓] theorem k51_23r : sR k51_23 k51_o1 k51_22 := yR rfl
@[simp, simp ↓] theorem k51_24r : sR k51_24 k51_o0 k51_23 := yR rfl
noncomputable abbrev k51_C : Orc → Cx := mkC Tryd.prog [] 51 18 [.tmp 2]
theorem k51_of0 : OfP0 Tryd.prog Tryd.f51 51 18 k51_C k51_24 := @ofP0 _ _ _ _ _ _ _ _ Tryd.func51 (by decide +kernel) rfl (by kernel_rfl) rfl (by kernel_rfl)
theorem or_c (l : List Int) (h : Heap) (hl : l.length ≤ 1048576) : ACalls Tryd.prog 51 [.snap 1 (l.map fun n => .int .i64 n)] h (fun v h' => v = .int .i64 (orI l) ∧ h' = h) := by
  refine k51_of0 rfl noPure fun I => ?_
  refine Run2.of I 1000 ?_
  simp -implicitDefEqProofs
  refine Run2.loop (fun i => [(3, .int .i64 0), (6, .snap 1 (l.map fun n => .int .i64 n)), (7, .int .i64 l.length), (8, .int .i64 (i : Nat))]) (fun i => h) (fun i => l.length - i) (fun i => i ≤ l.length ∧ orI (l.drop i) = orI l) 0 (by simp) fun i hi ih => ?_
  by_cases hlt : i < l.length
  · have hd : l.drop i = l[i] :: l.drop (i + 1) := List.drop_eq_getElem_cons hlt
    refine Run2.of I 1000 ?_
    simp -implicitDefEqProofs [hlt]
    constructor
    · intro hne
      rw [← hi.2, hd, orI, if_neg hne]
    · intro he
      refine ⟨by omega, ?_⟩
      have := ih (i + 1) ⟨by omega, by rw [← hi.2, hd, orI, if_pos he]⟩ (by omega)
      simpa using this
  · have : i = l.length := by omega
    have h2 := hi.2
    rw [List.drop_of_length_le (by omega)] at h2
    refine Run2.of I 1000 ?_
    simp -implicitDefEqProofs [hlt]
    exact h2
noncomputable def o_or3 : List AV → Option (Prop × AV) := tab (fun (x : Int × Int × Int) => match x with | (a, b, c) => [.snap 1 [.int .i64 a, .int .i64 b, .int .i64 c]]) (fun x => match x with | (a, b, c) => True) (fun x => match x with | (a, b, c) => .int .i64 (orI [a, b, c]))
@[simp] theorem o_or3_e (a : Int) (b : Int) (c : Int) : o_or3 [.snap 1 [.int .i64 a, .int .i64 b, .int .i64 c]] = some (True, .int .i64 (orI [a, b, c])) := tab_at (enc := fun (x : Int × Int × Int) => match x with | (a, b, c) => [.snap 1 [.int .i64 a, .int .i64 b, .int .i64 c]]) (fun x y h => by
  obtain ⟨a1, b1, c1⟩ := x; obtain ⟨a2, b2, c2⟩ := y; simp at h; simp [h] <;> omega) _ _ (a, b, c)
theorem o_or3_k : Knows Tryd.prog 51 o_or3 := tab_knows fun x hx h => by
  obtain ⟨a, b, c⟩ := x; exact or_c [a, b, c] h (by simp)
abbrev k42_o0 : List AJ := [.o ⟨(some 2), none, false, .mv (.c (.bool false)), (some [0])⟩]
abbrev k42_o1 : List AJ := [.o ⟨(some 3), none, false, .mv (.t 0), none⟩, .o ⟨(some 4), none, false, .call 44 [(.t 3), (.c (.int .i64 0)), (.c (.int .i64 3))], none⟩, .o ⟨(some 2), none, false, .mv (.t 4), (some [2])⟩]
def k42_2 : ACode := .seq (.region k42_o1) .ret
def k42_3 : ACode := .seq (.region k42_o0) k42_2
@[simp, simp ↓] theorem k42_2r : sR k42_2 k42_o1 .ret := yR rfl
@[simp, simp ↓] theorem k42_3r : sR k42_3 k42_o0 k42_2 := yR rfl
noncomputable abbrev k42_C : Orc → Cx := mkC Tryd.prog [] 42 5 [.tmp 2]
theorem k42_of0 : OfP0 Tryd.prog Tryd.f42 42 5 k42_C k42_3 := @ofP0 _ _ _ _ _ _ _ _ Tryd.func42 (by decide +kernel) rfl (by kernel_rfl) rfl (by kernel_rfl)
theorem isDimension_c (a : Int) (h : Heap) : ACalls Tryd.prog 42 [.int .i64 a] h (fun v h' => v = .bool (decide (0 ≤ a) && decide (a ≤ 3)) ∧ h' = h) := by
  refine k42_of0 rfl orc1_p fun I => ?_
  refine Run2.of I 1000 ?_
  simp -implicitDefEqProofs
noncomputable def o_isDimension : List AV → Option (Prop × AV) := tab (fun (x : Int) => match x with | a => [.int .i64 a]) (fun x => match x with | a => True) (fun x => match x with | a => .bool (decide (0 ≤ a) && decide (a ≤ 3)))
@[simp] theorem o_isDimension_e (a : Int) : o_isDimension [.int .i64 a] = some (True, .bool (decide (0 ≤ a) && decide (a ≤ 3))) := tab_at (enc := fun (x : Int) => match x with | a => [.int .i64 a]) (fun x y h => by
  simp at h; simp [h] <;> omega) _ _ a
theorem o_isDimension_k : Knows Tryd.prog 42 o_isDimension := tab_knows fun x hx h => by
  exact isDimension_c _ h
abbrev k43_o0 : List AJ := [.o ⟨(some 2), none, false, .mv (.c (.bool false)), (some [0])⟩]
abbrev k43_o1 : List AJ := [.o ⟨(some 3), none, false, .mv (.t 0), none⟩, .o ⟨(some 4), none, false, .call 44 [(.t 3), (.c (.int .i64 0)), (.c (.int .i64 1000))], none⟩, .o ⟨(some 2), none, false, .mv (.t 4), (some [2])⟩]
def k43_2 : ACode := .seq (.region k43_o1) .ret
def k43_3 : ACode := .seq (.region k43_o0) k43_2
@[simp, simp ↓] theorem k43_2r : sR k43_2 k43_o1 .ret := yR rfl
@[simp, simp ↓] theorem k43_3r : sR k43_3 k43_o0 k43_2 := yR rfl
noncomputable abbrev k43_C : Orc → Cx := mkC Tryd.prog [] 43 5 [.tmp 2]
theorem k43_of0 : OfP0 Tryd.prog Tryd.f43 43 5 k43_C k43_3 := @ofP0 _ _ _ _ _ _ _ _ Tryd.func43 (by decide +kernel) rfl (by kernel_rfl) rfl (by kernel_rfl)
theorem isTime_c (a : Int) (h : Heap) : ACalls Tryd.prog 43 [.int .i64 a] h (fun v h' => v = .bool (decide (0 ≤ a) && decide (a ≤ 1000)) ∧ h' = h) := by
  refine k43_of0 rfl orc1_p fun I => ?_
  refine Run2.of I 1000 ?_
  simp -implicitDefEqProofs
noncomputable def o_isTime : List AV → Option (Prop × AV) := tab (fun (x : Int) => match x with | a => [.int .i64 a]) (fun x => match x with | a => True) (fun x => match x with | a => .bool (decide (0 ≤ a) && decide (a ≤ 1000)))
@[simp] theorem o_isTime_e (a : Int) : o_isTime [.int .i64 a] = some (True, .bool (decide (0 ≤ a) && decide (a ≤ 1000))) := tab_at (enc := fun (x : Int) => match x with | a => [.int .i64 a]) (fun x y h => by
  simp at h; simp [h] <;> omega) _ _ a
theorem o_isTime_k : Knows Tryd.prog 43 o_isTime := tab_knows fun x hx h => by
  exact isTime_c _ h
abbrev k34_o0 : List AJ := [.o ⟨(some 2), none, false, .mv (.c (.bool false)), (some [0])⟩]
abbrev k34_o1 : List AJ := [.o ⟨(some 3), none, false, .mv (.t 0), none⟩, .o ⟨(some 4), none, false, .call 33 [(.t 3), (.c (.int .i64 0)), (.c (.int .i64 3))], none⟩, .o ⟨(some 2), none, false, .mv (.t 4), (some [2])⟩]
def k34_2 : ACode := .seq (.region k34_o1) .ret
def k34_3 : ACode := .seq (.region k34_o0) k34_2
@[simp, simp ↓] theorem k34_2r : sR k34_2 k34_o1 .ret := yR rfl
@[simp, simp ↓] theorem k34_3r : sR k34_3 k34_o0 k34_2 := yR rfl
noncomputable abbrev k34_C : Orc → Cx := mkC Tryd.prog [] 34 5 [.tmp 2]
theorem k34_of0 : OfP0 Tryd.prog Tryd.f34 34 5 k34_C k34_3 := @ofP0 _ _ _ _ _ _ _ _ Tryd.func34 (by decide +kernel) rfl (by kernel_rfl) rfl (by kernel_rfl)
theorem l05Dimension_c (a : Int) (h : Heap) : ACalls Tryd.prog 34 [.int .i64 a] h (fun v h' => v = .bool (decide (0 ≤ a) && decide (a ≤ 3)) ∧ h' = h) := by
  refine k34_of0 rfl orc1_p fun I => ?_
  refine Run2.of I 1000 ?_
  simp -implicitDefEqProofs
noncomputable def o_l05Dimension : List AV → Option (Prop × AV) := tab (fun (x : Int) => match x with | a => [.int .i64 a]) (fun x => match x with | a => True) (fun x => match x with | a => .bool (decide (0 ≤ a) && decide (a ≤ 3)))
@[simp] theorem o_l05Dimension_e (a : Int) : o_l05Dimension [.int .i64 a] = some (True, .bool (decide (0 ≤ a) && decide (a ≤ 3))) := tab_at (enc := fun (x : Int) => match x with | a => [.int .i64 a]) (fun x y h => by
  simp at h; simp [h] <;> omega) _ _ a
theorem o_l05Dimension_k : Knows Tryd.prog 34 o_l05Dimension := tab_knows fun x hx h => by
  exact l05Dimension_c _ h
abbrev k35_o0 : List AJ := [.o ⟨(some 2), none, false, .mv (.c (.bool false)), (some [0])⟩]
abbrev k35_o1 : List AJ := [.o ⟨(some 3), none, false, .mv (.t 0), none⟩, .o ⟨(some 4), none, false, .call 33 [(.t 3), (.c (.int .i64 0)), (.c (.int .i64 1000))], none⟩, .o ⟨(some 2), none, false, .mv (.t 4), (some [2])⟩]
def k35_2 : ACode := .seq (.region k35_o1) .ret
def k35_3 : ACode := .seq (.region k35_o0) k35_2
@[simp, simp ↓] theorem k35_2r : sR k35_2 k35_o1 .ret := yR rfl
@[simp, simp ↓] theorem k35_3r : sR k35_3 k35_o0 k35_2 := yR rfl
noncomputable abbrev k35_C : Orc → Cx := mkC Tryd.prog [] 35 5 [.tmp 2]
theorem k35_of0 : OfP0 Tryd.prog Tryd.f35 35 5 k35_C k35_3 := @ofP0 _ _ _ _ _ _ _ _ Tryd.func35 (by decide +kernel) rfl (by kernel_rfl) rfl (by kernel_rfl)
theorem l21Time_c (a : Int) (h : Heap) : ACalls Tryd.prog 35 [.int .i64 a] h (fun v h' => v = .bool (decide (0 ≤ a) && decide (a ≤ 1000)) ∧ h' = h) := by
  refine k35_of0 rfl orc1_p fun I => ?_
  refine Run2.of I 1000 ?_
  simp -implicitDefEqProofs
noncomputable def o_l21Time : List AV → Option (Prop × AV) := tab (fun (x : Int) => match x with | a => [.int .i64 a]) (fun x => match x with | a => True) (fun x => match x with | a => .bool (decide (0 ≤ a) && decide (a ≤ 1000)))
@[simp] theorem o_l21Time_e (a : Int) : o_l21Time [.int .i64 a] = some (True, .bool (decide (0 ≤ a) && decide (a ≤ 1000))) := tab_at (enc := fun (x : Int) => match x with | a => [.int .i64 a]) (fun x y h => by
  simp at h; simp [h] <;> omega) _ _ a
theorem o_l21Time_k : Knows Tryd.prog 35 o_l21Time := tab_knows fun x hx h => by
  exact l21Time_c _ h
def T.en (x : T) : Int := if x.s = -1 then 1001 else x.s
abbrev k62_o0 : List AJ := [.o ⟨(some 1), none, false, .box false 3 (.t 0), none⟩, .o ⟨(some 2), none, false, .mv (.c (.int .i64 0)), (some [1])⟩]
abbrev k62_o1 : List AJ := [.o ⟨(some 3), none, false, .fieldA 2 (.t 1), none⟩, .o ⟨(some 4), none, false, .load 1 false (.t 3), none⟩, .o ⟨(some 5), none, false, .bin .eql (.t 4) (.c (.int .i64 (-1))), (some [1, 5])⟩]
abbrev k62_o2 : List AJ := [.o ⟨(some 2), none, false, .mv (.c (.int .i64 1001)), (some [2])⟩]
def k62_3 : ACode := .seq (.region k62_o2) .ret
def k62_4 : ACode := .cond (.t 5) k62_3 .skip
def k62_5 : ACode := .seq (.region k62_o1) k62_4
abbrev k62_o3 : List AJ := [.o ⟨(some 6), none, false, .fieldA 2 (.t 1), none⟩, .o ⟨(some 7), none, false, .load 1 false (.t 6), none⟩, .o ⟨(some 2), none, false, .mv (.t 7), (some [2])⟩]
def k62_7 : ACode := .seq (.region k62_o3) .ret
def k62_8 : ACode := .seq k62_5 k62_7
def k62_9 : ACode := .seq (.region k62_o0) k62_8
@[simp, simp ↓] theorem k62_3r : sR k62_3 k62_o2 .ret := yR rfl
@[simp, simp ↓] theorem k62_4r : rC k62_4 (.t 5) k62_3 .skip := zC rfl
@[simp, simp ↓] theorem k62_5r : sR k62_5 k62_o1 k62_4 := yR rfl
@[simp, simp ↓] theorem k62_7r : sR k62_7 k62_o3 .ret := yR rfl
@[simp, simp ↓] theorem k62_8r : rS k62_8 k62_5 k62_7 := zS rfl
@[simp, simp ↓] theorem k62_9r : sR k62_9 k62_o0 k62_8 := yR rfl
noncomputable abbrev k62_C : Orc → Cx := mkC Tryd.prog [] 62 8 [.tmp 2]
theorem k62_of0 : OfP0 Tryd.prog Tryd.f62 62 8 k62_C k62_9 := @ofP0 _ _ _ _ _ _ _ _ Tryd.func62 (by decide +kernel) rfl (by kernel_rfl) rfl (by kernel_rfl)
theorem end_c (x : T) (h : Heap) : ACalls Tryd.prog 62 [x.av] h (fun v h' => v = .int .i64 x.en ∧ h' = h) := by
  refine k62_of0 rfl noPure fun I => ?_
  refine Run2.of I 1000 ?_
  simp -implicitDefEqProofs [T.en]
  grind
noncomputable def o_end : List AV → Option (Prop × AV) := tab (fun (x : Int × Int × Int) => match x with | (f, t, s) => [.agg [.int .i64 f, .int .i64 t, .int .i64 s]]) (fun x => match x with | (f, t, s) => True) (fun x => match x with | (f, t, s) => .int .i64 (T.en ⟨f, t, s⟩))
@[simp] theorem o_end_e (f : Int) (t : Int) (s : Int) : o_end [.agg [.int .i64 f, .int .i64 t, .int .i64 s]] = some (True, .int .i64 (T.en ⟨f, t, s⟩)) := tab_at (enc := fun (x : Int × Int × Int) => match x with | (f, t, s) => [.agg [.int .i64 f, .int .i64 t, .int .i64 s]]) (fun x y h => by
  obtain ⟨f1, t1, s1⟩ := x; obtain ⟨f2, t2, s2⟩ := y; simp at h; simp [h] <;> omega) _ _ (f, t, s)
theorem o_end_k : Knows Tryd.prog 62 o_end := tab_knows fun x hx h => by
  obtain ⟨f, t, s⟩ := x; exact end_c ⟨f, t, s⟩ h
noncomputable def orc2 : List (Nat × (List AV → Option (Prop × AV))) := (42, o_isDimension) :: (43, o_isTime) :: (34, o_l05Dimension) :: (35, o_l21Time) :: (62, o_end) :: (52, o_compare) :: (51, o_or3) :: orc1
theorem orc2_p : Pure Tryd.prog (lk orc2) := (lk_pure o_isDimension_k (lk_pure o_isTime_k (lk_pure o_l05Dimension_k (lk_pure o_l21Time_k (lk_pure o_end_k (lk_pure o_compare_k (lk_pure o_or3_k orc1_p)))))))
@[simp] theorem orc2_l (b : Bool) (g : FuncId) (l : List AV) : lk orc2 b g l = if g = 42 then o_isDimension l else if g = 43 then o_isTime l else if g = 34 then o_l05Dimension l else if g = 35 then o_l21Time l else if g = 62 then o_end l else if g = 52 then o_compare l else if g = 51 then o_or3 l else lk orc1 b g l := nr rfl
/-- What the program's comparison of two bars gives. -/
def cmpB (x y : T) : Int := orI [cmpI x.f y.f, cmpI x.t y.t, cmpI x.en y.en]
def T.lt (a b : T) : Prop := a.f < b.f ∨ a.f = b.f ∧ (a.t < b.t ∨ a.t = b.t ∧ a.en < b.en)
instance (a b : T) : Decidable (a.lt b) := by unfold T.lt; infer_instance
theorem cmpB_pos (x y : T) : 0 < cmpB x y ↔ y.lt x := by
  simp only [cmpB, orI, cmpI, T.lt]
  grind
theorem cmpB_neg (x y : T) : cmpB x y < 0 ↔ x.lt y := by
  simp only [cmpB, orI, cmpI, T.lt]
  grind
abbrev k45_o0 : List AJ := [.o ⟨(some 2), none, false, .box false 3 (.t 0), none⟩, .o ⟨(some 3), none, false, .box false 3 (.t 1), none⟩, .o ⟨(some 4), none, false, .mv (.c (.int .i64 0)), (some [2, 3])⟩]
abbrev k45_o1 : List AI := [⟨(some 5), none, false, .fieldA 0 (.t 2), none⟩, ⟨(some 6), none, false, .load 1 false (.t 5), none⟩, ⟨(some 7), none, false, .fieldA 0 (.t 3), none⟩, ⟨(some 8), none, false, .load 1 false (.t 7), none⟩, ⟨(some 9), none, false, .call 52 [(.t 6), (.t 8)], none⟩, ⟨(some 10), none, false, .fieldA 1 (.t 2), none⟩, ⟨(some 11), none, false, .load 1 false (.t 10), none⟩, ⟨(some 12), none, false, .fieldA 1 (.t 3), none⟩, ⟨(some 13), none, false, .load 1 false (.t 12), none⟩, ⟨(some 14), none, false, .call 52 [(.t 11), (.t 13)], none⟩, ⟨(some 15), none, false, .load 3 true (.t 2), none⟩, ⟨(some 16), none, false, .call 62 [(.t 15)], none⟩, ⟨(some 17), none, false, .load 3 true (.t 3), none⟩, ⟨(some 18), none, false, .call 62 [(.t 17)], (some [9, 14, 16, 18])⟩, ⟨(some 19), none, false, .call 52 [(.t 16), (.t 18)], none⟩, ⟨(some 20), none, false, .bsl false 1 [(.t 9), (.t 14), (.t 19)], none⟩, ⟨(some 21), none, false, .call 51 [(.t 20)], none⟩, ⟨(some 4), none, false, .mv (.t 21), (some [4])⟩]
def k45_2 : ACode := .seq (.draw k45_o1 [] rfl) .ret
def k45_3 : ACode := .seq (.region k45_o0) k45_2
@[simp, simp ↓] theorem k45_2r : sD k45_2 k45_o1 [] .ret := yD rfl
@[simp, simp ↓] theorem k45_3r : sR k45_3 k45_o0 k45_2 := yR rfl
noncomputable abbrev k45_C : Orc → Cx := mkC Tryd.prog [] 45 22 [.tmp 4]
theorem k45_of0 : OfP0 Tryd.prog Tryd.f45 45 22 k45_C k45_3 := @ofP0 _ _ _ _ _ _ _ _ Tryd.func45 (by decide +kernel) rfl (by kernel_rfl) rfl (by kernel_rfl)
theorem compareBars_c (x y : T) (h : Heap) : ACalls Tryd.prog 45 [x.av, y.av] h (fun v h' => v = .int .i64 (cmpB x y) ∧ h' = h) := by
  refine k45_of0 rfl orc2_p fun I => ?_
  refine Run2.of I 1000 ?_
  simp -implicitDefEqProofs [cmpB]
noncomputable def o_compareBars : List AV → Option (Prop × AV) := tab (fun (x : Int × Int × Int × Int × Int × Int) => match x with | (f, t, s, f', t', s') => [.agg [.int .i64 f, .int .i64 t, .int .i64 s], .agg [.int .i64 f', .int .i64 t', .int .i64 s']]) (fun x => match x with | (f, t, s, f', t', s') => True) (fun x => match x with | (f, t, s, f', t', s') => .int .i64 (cmpB ⟨f, t, s⟩ ⟨f', t', s'⟩))
@[simp] theorem o_compareBars_e (f : Int) (t : Int) (s : Int) (f' : Int) (t' : Int) (s' : Int) : o_compareBars [.agg [.int .i64 f, .int .i64 t, .int .i64 s], .agg [.int .i64 f', .int .i64 t', .int .i64 s']] = some (True, .int .i64 (cmpB ⟨f, t, s⟩ ⟨f', t', s'⟩)) := tab_at (enc := fun (x : Int × Int × Int × Int × Int × Int) => match x with | (f, t, s, f', t', s') => [.agg [.int .i64 f, .int .i64 t, .int .i64 s], .agg [.int .i64 f', .int .i64 t', .int .i64 s']]) (fun x y h => by
  obtain ⟨f1, t1, s1, f'1, t'1, s'1⟩ := x; obtain ⟨f2, t2, s2, f'2, t'2, s'2⟩ := y; simp at h; simp [h] <;> omega) _ _ (f, t, s, f', t', s')
theorem o_compareBars_k : Knows Tryd.prog 45 o_compareBars := tab_knows fun x hx h => by
  obtain ⟨f, t, s, f', t', s'⟩ := x; exact compareBars_c ⟨f, t, s⟩ ⟨f', t', s'⟩ h
/-- What the reference asks of two bars. -/
def T.bef (a b : T) : Prop := a.f < b.f ∨ a.f = b.f ∧ (a.t < b.t ∨ a.t = b.t ∧ ¬ a.s = -1 ∧ (b.s = -1 ∨ a.s < b.s))
instance (a b : T) : Decidable (a.bef b) := by unfold T.bef; infer_instance
abbrev k36_o0 : List AJ := [.o ⟨(some 4), none, false, .mv (.c (.bool false)), (some [0, 1])⟩]
abbrev k36_o1 : List AI := [⟨(some 5), none, false, .mv (.t 0), none⟩, ⟨(some 6), none, false, .nilchk (.t 5), none⟩, ⟨(some 7), none, false, .fieldA 0 (.t 6), none⟩, ⟨(some 8), none, false, .load 1 false (.t 7), none⟩, ⟨(some 9), none, false, .mv (.t 1), none⟩, ⟨(some 10), none, false, .nilchk (.t 9), none⟩, ⟨(some 11), none, false, .fieldA 0 (.t 10), none⟩, ⟨(some 12), none, false, .load 1 false (.t 11), none⟩, ⟨(some 13), none, false, .bin .neq (.t 8) (.t 12), (some [0, 1, 13])⟩]
abbrev k36_o2 : List AI := [⟨(some 14), none, false, .mv (.t 0), none⟩, ⟨(some 15), none, false, .nilchk (.t 14), none⟩, ⟨(some 16), none, false, .fieldA 0 (.t 15), none⟩, ⟨(some 17), none, false, .load 1 false (.t 16), none⟩, ⟨(some 18), none, false, .mv (.t 1), none⟩, ⟨(some 19), none, false, .nilchk (.t 18), none⟩, ⟨(some 20), none, false, .fieldA 0 (.t 19), none⟩, ⟨(some 21), none, false, .load 1 false (.t 20), none⟩, ⟨(some 22), none, false, .bin .lss (.t 17) (.t 21), none⟩, ⟨(some 4), none, false, .mv (.t 22), (some [4])⟩]
def k36_3 : ACode := .seq (.draw k36_o2 [] rfl) .ret
def k36_4 : ACode := .cond (.t 13) k36_3 .skip
def k36_5 : ACode := .seq (.draw k36_o1 [] rfl) k36_4
abbrev k36_o3 : List AI := [⟨(some 23), none, false, .mv (.t 0), none⟩, ⟨(some 24), none, false, .nilchk (.t 23), none⟩, ⟨(some 25), none, false, .fieldA 1 (.t 24), none⟩, ⟨(some 26), none, false, .load 1 false (.t 25), none⟩, ⟨(some 27), none, false, .mv (.t 1), none⟩, ⟨(some 28), none, false, .nilchk (.t 27), none⟩, ⟨(some 29), none, false, .fieldA 1 (.t 28), none⟩, ⟨(some 30), none, false, .load 1 false (.t 29), none⟩, ⟨(some 31), none, false, .bin .neq (.t 26) (.t 30), (some [0, 1, 31])⟩]
abbrev k36_o4 : List AI := [⟨(some 32), none, false, .mv (.t 0), none⟩, ⟨(some 33), none, false, .nilchk (.t 32), none⟩, ⟨(some 34), none, false, .fieldA 1 (.t 33), none⟩, ⟨(some 35), none, false, .load 1 false (.t 34), none⟩, ⟨(some 36), none, false, .mv (.t 1), none⟩, ⟨(some 37), none, false, .nilchk (.t 36), none⟩, ⟨(some 38), none, false, .fieldA 1 (.t 37), none⟩, ⟨(some 39), none, false, .load 1 false (.t 38), none⟩, ⟨(some 40), none, false, .bin .lss (.t 35) (.t 39), none⟩, ⟨(some 4), none, false, .mv (.t 40), (some [4])⟩]
def k36_8 : ACode := .seq (.draw k36_o4 [] rfl) .ret
def k36_9 : ACode := .cond (.t 31) k36_8 .skip
def k36_10 : ACode := .seq (.draw k36_o3 [] rfl) k36_9
abbrev k36_o5 : List AI := [⟨(some 41), none, false, .mv (.t 0), none⟩, ⟨(some 42), none, false, .nilchk (.t 41), none⟩, ⟨(some 43), none, false, .fieldA 2 (.t 42), none⟩, ⟨(some 44), none, false, .load 1 false (.t 43), none⟩, ⟨(some 45), none, false, .bin .neq (.t 44) (.c (.int .i64 (-1))), none⟩, ⟨(some 46), none, false, .mv (.t 45), none⟩, ⟨(some 47), (some (46, true)), false, .mv (.t 1), none⟩, ⟨(some 48), (some (46, true)), false, .nilchk (.t 47), none⟩, ⟨(some 49), (some (46, true)), false, .fieldA 2 (.t 48), none⟩, ⟨(some 50), (some (46, true)), false, .load 1 false (.t 49), (some [0, 1, 46, 50])⟩, ⟨(some 51), (some (46, true)), false, .bin .eql (.t 50) (.c (.int .i64 (-1))), none⟩, ⟨(some 52), (some (46, true)), false, .mv (.t 51), none⟩, ⟨(some 53), (some (52, false)), false, .mv (.t 0), none⟩, ⟨(some 54), (some (52, false)), false, .nilchk (.t 53), none⟩, ⟨(some 55), (some (52, false)), false, .fieldA 2 (.t 54), none⟩, ⟨(some 56), (some (52, false)), false, .load 1 false (.t 55), none⟩, ⟨(some 57), (some (52, false)), false, .mv (.t 1), (some [46, 52, 56, 57])⟩, ⟨(some 58), (some (52, false)), false, .nilchk (.t 57), none⟩, ⟨(some 59), (some (52, false)), false, .fieldA 2 (.t 58), none⟩, ⟨(some 60), (some (52, false)), false, .load 1 false (.t 59), none⟩, ⟨(some 61), (some (52, false)), false, .bin .lss (.t 56) (.t 60), none⟩, ⟨(some 62), (some (46, true)), false, .pick (.t 52) (.c (.bool true)) (.t 61), none⟩, ⟨(some 63), none, false, .pick (.t 46) (.t 62) (.c (.bool false)), none⟩, ⟨(some 4), none, false, .mv (.t 63), (some [4])⟩]
def k36_12 : ACode := .seq (.draw k36_o5 [] rfl) .ret
def k36_13 : ACode := .seq k36_10 k36_12
def k36_14 : ACode := .seq k36_5 k36_13
def k36_15 : ACode := .seq (.region k36_o0) k36_14
@[simp, simp ↓] theorem k36_3r : sD k36_3 k36_o2 [] .ret := yD rfl
@[simp, simp ↓] theorem k36_4r : rC k36_4 (.t 13) k36_3 .skip := zC rfl
@[simp, simp ↓] theorem k36_5r : sD k36_5 k36_o1 [] k36_4 := yD rfl
@[simp, simp ↓] theorem k36_8r : sD k36_8 k36_o4 [] .ret := yD rfl
@[simp, simp ↓] theorem k36_9r : rC k36_9 (.t 31) k36_8 .skip := zC rfl
@[simp, simp ↓] theorem k36_10r : sD k36_10 k36_o3 [] k36_9 := yD rfl
@[simp, simp ↓] theorem k36_12r : sD k36_12 k36_o5 [] .ret := yD rfl
@[simp, simp ↓] theorem k36_13r : rS k36_13 k36_10 k36_12 := zS rfl
@[simp, simp ↓] theorem k36_14r : rS k36_14 k36_5 k36_13 := zS rfl
@[simp, simp ↓] theorem k36_15r : sR k36_15 k36_o0 k36_14 := yR rfl
noncomputable abbrev k36_C : Orc → Cx := mkC Tryd.prog [] 36 64 [.tmp 4]
theorem k36_of0 : OfP0 Tryd.prog Tryd.f36 36 64 k36_C k36_15 := @ofP0 _ _ _ _ _ _ _ _ Tryd.func36 (by decide +kernel) rfl (by kernel_rfl) rfl (by kernel_rfl)
theorem l21Before_c (x y : T) (h : Heap) : ACalls Tryd.prog 36 [.ip [.int .i64 x.f, .int .i64 x.t, .int .i64 x.s], .ip [.int .i64 y.f, .int .i64 y.t, .int .i64 y.s]] h (fun v h' => v = .bool (decide (x.bef y)) ∧ h' = h) := by
  refine k36_of0 rfl noPure fun I => ?_
  refine Run2.of I 1000 ?_
  simp -implicitDefEqProofs [T.bef]
  grind
noncomputable def o_l21Before : List AV → Option (Prop × AV) := tab (fun (x : Int × Int × Int × Int × Int × Int) => match x with | (f, t, s, f', t', s') => [.ip [.int .i64 f, .int .i64 t, .int .i64 s], .ip [.int .i64 f', .int .i64 t', .int .i64 s']]) (fun x => match x with | (f, t, s, f', t', s') => True) (fun x => match x with | (f, t, s, f', t', s') => .bool (decide (T.bef ⟨f, t, s⟩ ⟨f', t', s'⟩)))
@[simp] theorem o_l21Before_e (f : Int) (t : Int) (s : Int) (f' : Int) (t' : Int) (s' : Int) : o_l21Before [.ip [.int .i64 f, .int .i64 t, .int .i64 s], .ip [.int .i64 f', .int .i64 t', .int .i64 s']] = some (True, .bool (decide (T.bef ⟨f, t, s⟩ ⟨f', t', s'⟩))) := tab_at (enc := fun (x : Int × Int × Int × Int × Int × Int) => match x with | (f, t, s, f', t', s') => [.ip [.int .i64 f, .int .i64 t, .int .i64 s], .ip [.int .i64 f', .int .i64 t', .int .i64 s']]) (fun x y h => by
  obtain ⟨f1, t1, s1, f'1, t'1, s'1⟩ := x; obtain ⟨f2, t2, s2, f'2, t'2, s'2⟩ := y; simp at h; simp [h] <;> omega) _ _ (f, t, s, f', t', s')
theorem o_l21Before_k : Knows Tryd.prog 36 o_l21Before := tab_knows fun x hx h => by
  obtain ⟨f, t, s, f', t', s'⟩ := x; exact l21Before_c ⟨f, t, s⟩ ⟨f', t', s'⟩ h
noncomputable def orc3 : List (Nat × (List AV → Option (Prop × AV))) := (45, o_compareBars) :: (36, o_l21Before) :: orc2
theorem orc3_p : Pure Tryd.prog (lk orc3) := (lk_pure o_compareBars_k (lk_pure o_l21Before_k orc2_p))
@[simp] theorem orc3_l (b : Bool) (g : FuncId) (l : List AV) : lk orc3 b g l = if g = 45 then o_compareBars l else if g = 36 then o_l21Before l else lk orc2 b g l := nr rfl
end Go.AG.B
