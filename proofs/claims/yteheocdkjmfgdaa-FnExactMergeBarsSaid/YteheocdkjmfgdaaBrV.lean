/- Small functions of bars that have no effect, and what they give. No statement is made here. -/
import Derived.Test.YteheocdkjmfgdaaBrA
namespace Go.AG
open Go.Proofs Go.Proofs.Yteheocdkjmfgdaa
set_option linter.unusedSimpArgs false
set_option linter.unusedVariables false
set_option maxRecDepth 4000
abbrev k31_o0 : List AJ := [.o ⟨(some 6), none, false, .mv (.c (.bool false)), (some [0, 1, 2])⟩]
abbrev k31_o1 : List AJ := [.o ⟨(some 7), none, false, .mv (.t 0), none⟩, .o ⟨(some 8), none, false, .mv (.t 1), none⟩, .o ⟨(some 9), none, false, .bin .geq (.t 7) (.t 8), none⟩, .o ⟨(some 10), none, false, .mv (.t 9), none⟩, .o ⟨(some 11), (some (10, true)), false, .mv (.t 0), none⟩, .o ⟨(some 12), (some (10, true)), false, .mv (.t 2), none⟩, .o ⟨(some 13), (some (10, true)), false, .bin .leq (.t 11) (.t 12), none⟩, .o ⟨(some 14), none, false, .pick (.t 10) (.t 13) (.c (.bool false)), none⟩, .o ⟨(some 6), none, false, .mv (.t 14), (some [6])⟩]
def k31_2 : ACode := .seq (.region k31_o1) .ret
def k31_3 : ACode := .seq (.region k31_o0) k31_2
@[simp, simp ↓] theorem k31_2r : sR k31_2 k31_o1 .ret := yR rfl
@[simp, simp ↓] theorem k31_3r : sR k31_3 k31_o0 k31_2 := yR rfl
noncomputable abbrev k31_C : Orc → Cx := mkC Try.prog [] 31 15 [.tmp 6]
theorem k31_of0 : OfP0 Try.prog Try.f31 31 15 k31_C k31_3 := @ofP0 _ _ _ _ _ _ _ _ Try.func31 (by decide +kernel) rfl (by kernel_rfl) rfl (by kernel_rfl)
theorem l00In_c (a b c : Int) (h : Heap) : ACalls Try.prog 31 [.int .i64 a, .int .i64 b, .int .i64 c] h (fun v h' => v = .bool (decide (b ≤ a) && decide (a ≤ c)) ∧ h' = h) := by
  refine k31_of0 rfl noPure fun I => ?_
  refine Run2.of I 1000 ?_
  simp -implicitDefEqProofs
  grind
noncomputable def o_l00In : List AV → Option (Prop × AV) := tab (fun (x : Int × Int × Int) => match x with | (a, b, c) => [.int .i64 a, .int .i64 b, .int .i64 c]) (fun x => match x with | (a, b, c) => True) (fun x => match x with | (a, b, c) => .bool (decide (b ≤ a) && decide (a ≤ c)))
@[simp] theorem o_l00In_e (a : Int) (b : Int) (c : Int) : o_l00In [.int .i64 a, .int .i64 b, .int .i64 c] = some (True, .bool (decide (b ≤ a) && decide (a ≤ c))) := tab_at (enc := fun (x : Int × Int × Int) => match x with | (a, b, c) => [.int .i64 a, .int .i64 b, .int .i64 c]) (fun x y h => by
  obtain ⟨a1, b1, c1⟩ := x; obtain ⟨a2, b2, c2⟩ := y; simp at h; simp [h] <;> omega) _ _ (a, b, c)
theorem o_l00In_k : Knows Try.prog 31 o_l00In := tab_knows fun x hx h => by
  obtain ⟨a, b, c⟩ := x; exact l00In_c _ _ _ h
abbrev k24_o0 : List AJ := [.o ⟨(some 6), none, false, .mv (.c (.bool false)), (some [0, 1, 2])⟩]
abbrev k24_o1 : List AJ := [.o ⟨(some 7), none, false, .mv (.t 0), none⟩, .o ⟨(some 8), none, false, .mv (.t 1), none⟩, .o ⟨(some 9), none, false, .bin .geq (.t 7) (.t 8), none⟩, .o ⟨(some 10), none, false, .mv (.t 9), none⟩, .o ⟨(some 11), (some (10, true)), false, .mv (.t 0), none⟩, .o ⟨(some 12), (some (10, true)), false, .mv (.t 2), none⟩, .o ⟨(some 13), (some (10, true)), false, .bin .leq (.t 11) (.t 12), none⟩, .o ⟨(some 14), none, false, .pick (.t 10) (.t 13) (.c (.bool false)), none⟩, .o ⟨(some 6), none, false, .mv (.t 14), (some [6])⟩]
def k24_2 : ACode := .seq (.region k24_o1) .ret
def k24_3 : ACode := .seq (.region k24_o0) k24_2
@[simp, simp ↓] theorem k24_2r : sR k24_2 k24_o1 .ret := yR rfl
@[simp, simp ↓] theorem k24_3r : sR k24_3 k24_o0 k24_2 := yR rfl
noncomputable abbrev k24_C : Orc → Cx := mkC Try.prog [] 24 15 [.tmp 6]
theorem k24_of0 : OfP0 Try.prog Try.f24 24 15 k24_C k24_3 := @ofP0 _ _ _ _ _ _ _ _ Try.func24 (by decide +kernel) rfl (by kernel_rfl) rfl (by kernel_rfl)
theorem within_c (a b c : Int) (h : Heap) : ACalls Try.prog 24 [.int .i64 a, .int .i64 b, .int .i64 c] h (fun v h' => v = .bool (decide (b ≤ a) && decide (a ≤ c)) ∧ h' = h) := by
  refine k24_of0 rfl noPure fun I => ?_
  refine Run2.of I 1000 ?_
  simp -implicitDefEqProofs
  grind
noncomputable def o_within : List AV → Option (Prop × AV) := tab (fun (x : Int × Int × Int) => match x with | (a, b, c) => [.int .i64 a, .int .i64 b, .int .i64 c]) (fun x => match x with | (a, b, c) => True) (fun x => match x with | (a, b, c) => .bool (decide (b ≤ a) && decide (a ≤ c)))
@[simp] theorem o_within_e (a : Int) (b : Int) (c : Int) : o_within [.int .i64 a, .int .i64 b, .int .i64 c] = some (True, .bool (decide (b ≤ a) && decide (a ≤ c))) := tab_at (enc := fun (x : Int × Int × Int) => match x with | (a, b, c) => [.int .i64 a, .int .i64 b, .int .i64 c]) (fun x y h => by
  obtain ⟨a1, b1, c1⟩ := x; obtain ⟨a2, b2, c2⟩ := y; simp at h; simp [h] <;> omega) _ _ (a, b, c)
theorem o_within_k : Knows Try.prog 24 o_within := tab_knows fun x hx h => by
  obtain ⟨a, b, c⟩ := x; exact within_c _ _ _ h
abbrev k42_o0 : List AJ := [.o ⟨(some 2), none, false, .mv (.c (.bool false)), (some [0])⟩]
abbrev k42_o1 : List AJ := [.o ⟨(some 3), none, false, .mv (.t 0), none⟩, .o ⟨(some 4), none, false, .mv (.t 0), none⟩, .o ⟨(some 5), none, false, .bin .neq (.t 3) (.t 4), none⟩, .o ⟨(some 2), none, false, .mv (.t 5), (some [2])⟩]
def k42_2 : ACode := .seq (.region k42_o1) .ret
def k42_3 : ACode := .seq (.region k42_o0) k42_2
@[simp, simp ↓] theorem k42_2r : sR k42_2 k42_o1 .ret := yR rfl
@[simp, simp ↓] theorem k42_3r : sR k42_3 k42_o0 k42_2 := yR rfl
noncomputable abbrev k42_C : Orc → Cx := mkC Try.prog [] 42 6 [.tmp 2]
theorem k42_of0 : OfP0 Try.prog Try.f42 42 6 k42_C k42_3 := @ofP0 _ _ _ _ _ _ _ _ Try.func42 (by decide +kernel) rfl (by kernel_rfl) rfl (by kernel_rfl)
theorem isNaN_c (a : Int) (h : Heap) : ACalls Try.prog 42 [.int .i64 a] h (fun v h' => v = .bool false ∧ h' = h) := by
  refine k42_of0 rfl noPure fun I => ?_
  refine Run2.of I 1000 ?_
  simp -implicitDefEqProofs
noncomputable def o_isNaN : List AV → Option (Prop × AV) := tab (fun (x : Int) => match x with | a => [.int .i64 a]) (fun x => match x with | a => True) (fun x => match x with | a => .bool false)
@[simp] theorem o_isNaN_e (a : Int) : o_isNaN [.int .i64 a] = some (True, .bool false) := tab_at (enc := fun (x : Int) => match x with | a => [.int .i64 a]) (fun x y h => by
  simp at h; simp [h] <;> omega) _ _ a
theorem o_isNaN_k : Knows Try.prog 42 o_isNaN := tab_knows fun x hx h => by
  exact isNaN_c _ h
noncomputable def orc1 : List (Nat × (List AV → Option (Prop × AV))) := (31, o_l00In) :: (24, o_within) :: (42, o_isNaN) :: []
theorem orc1_p : Pure Try.prog (lk orc1) := (lk_pure o_l00In_k (lk_pure o_within_k (lk_pure o_isNaN_k lk_pure0)))
@[simp] theorem orc1_l (b : Bool) (g : FuncId) (l : List AV) : lk orc1 b g l = if g = 31 then o_l00In l else if g = 24 then o_within l else if g = 42 then o_isNaN l else none := nr rfl
def cmpI (a b : Int) : Int := if a < b then -1 else if b < a then 1 else 0
abbrev k29_o0 : List AJ := [.o ⟨(some 4), none, false, .mv (.c (.int .i64 0)), (some [0, 1])⟩]
abbrev k29_o1 : List AJ := [.o ⟨(some 7), none, false, .mv (.t 0), none⟩, .o ⟨(some 8), none, false, .call 42 [(.t 7)], none⟩, .o ⟨(some 5), none, false, .mv (.t 8), (some [0, 1, 5])⟩]
abbrev k29_o2 : List AJ := [.o ⟨(some 9), none, false, .mv (.t 1), none⟩, .o ⟨(some 10), none, false, .call 42 [(.t 9)], none⟩, .o ⟨(some 6), none, false, .mv (.t 10), (some [0, 1, 5, 6])⟩]
abbrev k29_o3 : List AJ := [.o ⟨(some 11), none, false, .mv (.t 5), (some [0, 1, 6, 11])⟩]
abbrev k29_o4 : List AJ := [.o ⟨(some 12), none, false, .mv (.t 6), (some [12])⟩]
abbrev k29_o5 : List AJ := [.o ⟨(some 4), none, false, .mv (.c (.int .i64 0)), (some [4])⟩]
def k29_6 : ACode := .seq (.region k29_o5) .ret
def k29_7 : ACode := .cond (.t 12) k29_6 .skip
def k29_8 : ACode := .seq (.region k29_o4) k29_7
abbrev k29_o6 : List AJ := [.o ⟨(some 4), none, false, .mv (.c (.int .i64 (-1))), (some [4])⟩]
def k29_10 : ACode := .seq (.region k29_o6) .ret
def k29_11 : ACode := .seq k29_8 k29_10
def k29_12 : ACode := .cond (.t 11) k29_11 .skip
def k29_13 : ACode := .seq (.region k29_o3) k29_12
abbrev k29_o7 : List AJ := [.o ⟨(some 13), none, false, .mv (.t 6), (some [0, 1, 13])⟩]
abbrev k29_o8 : List AJ := [.o ⟨(some 4), none, false, .mv (.c (.int .i64 1)), (some [4])⟩]
def k29_16 : ACode := .seq (.region k29_o8) .ret
def k29_17 : ACode := .cond (.t 13) k29_16 .skip
def k29_18 : ACode := .seq (.region k29_o7) k29_17
abbrev k29_o9 : List AJ := [.o ⟨(some 14), none, false, .mv (.t 0), none⟩, .o ⟨(some 15), none, false, .mv (.t 1), none⟩, .o ⟨(some 16), none, false, .bin .lss (.t 14) (.t 15), (some [0, 1, 16])⟩]
abbrev k29_o10 : List AJ := [.o ⟨(some 4), none, false, .mv (.c (.int .i64 (-1))), (some [4])⟩]
def k29_21 : ACode := .seq (.region k29_o10) .ret
def k29_22 : ACode := .cond (.t 16) k29_21 .skip
def k29_23 : ACode := .seq (.region k29_o9) k29_22
abbrev k29_o11 : List AJ := [.o ⟨(some 17), none, false, .mv (.t 0), none⟩, .o ⟨(some 18), none, false, .mv (.t 1), none⟩, .o ⟨(some 19), none, false, .bin .gtr (.t 17) (.t 18), (some [19])⟩]
abbrev k29_o12 : List AJ := [.o ⟨(some 4), none, false, .mv (.c (.int .i64 1)), (some [4])⟩]
def k29_26 : ACode := .seq (.region k29_o12) .ret
def k29_27 : ACode := .cond (.t 19) k29_26 .skip
def k29_28 : ACode := .seq (.region k29_o11) k29_27
abbrev k29_o13 : List AJ := [.o ⟨(some 4), none, false, .mv (.c (.int .i64 0)), (some [4])⟩]
def k29_30 : ACode := .seq (.region k29_o13) .ret
def k29_31 : ACode := .seq k29_28 k29_30
def k29_32 : ACode := .seq k29_23 k29_31
def k29_33 : ACode := .seq k29_18 k29_32
def k29_34 : ACode := .seq k29_13 k29_33
def k29_35 : ACode := .seq (.region k29_o2) k29_34
def k29_36 : ACode := .seq (.region k29_o1) k29_35
def k29_37 : ACode := .seq (.region k29_o0) k29_36
@[simp, simp ↓] theorem k29_6r : sR k29_6 k29_o5 .ret := yR rfl
@[simp, simp ↓] theorem k29_7r : rC k29_7 (.t 12) k29_6 .skip := zC rfl
@[simp, simp ↓] theorem k29_8r : sR k29_8 k29_o4 k29_7 := yR rfl
@[simp, simp ↓] theorem k29_10r : sR k29_10 k29_o6 .ret := yR rfl
@[simp, simp ↓] theorem k29_11r : rS k29_11 k29_8 k29_10 := zS rfl
@[simp, simp ↓] theorem k29_12r : rC k29_12 (.t 11) k29_11 .skip := zC rfl
@[simp, simp ↓] theorem k29_13r : sR k29_13 k29_o3 k29_12 := yR rfl
@[simp, simp ↓] theorem k29_16r : sR k29_16 k29_o8 .ret := yR rfl
@[simp, simp ↓] theorem k29_17r : rC k29_17 (.t 13) k29_16 .skip := zC rfl
@[simp, simp ↓] theorem k29_18r : sR k29_18 k29_o7 k29_17 := yR rfl
@[simp, simp ↓] theorem k29_21r : sR k29_21 k29_o10 .ret := yR rfl
@[simp, simp ↓] theorem k29_22r : rC k29_22 (.t 16) k29_21 .skip := zC rfl
@[simp, simp ↓] theorem k29_23r : sR k29_23 k29_o9 k29_22 := yR rfl
@[simp, simp ↓] theorem k29_26r : sR k29_26 k29_o12 .ret := yR rfl
@[simp, simp ↓] theorem k29_27r : rC k29_27 (.t 19) k29_26 .skip := zC rfl
@[simp, simp ↓] theorem k29_28r : sR k29_28 k29_o11 k29_27 := yR rfl
@[simp, simp ↓] theorem k29_30r : sR k29_30 k29_o13 .ret := yR rfl
@[simp, simp ↓] theorem k29_31r : rS k29_31 k29_28 k29_30 := zS rfl
@[simp, simp ↓] theorem k29_32r : rS k29_32 k29_23 k29_31 := zS rfl
@[simp, simp ↓] theorem k29_33r : rS k29_33 k29_18 k29_32 := zS rfl
@[simp, simp ↓] theorem k29_34r : rS k29_34 k29_13 k29_33 := zS rfl
@[simp, simp ↓] theorem k29_35r : sR k29_35 k29_o2 k29_34 := yR rfl
@[simp, simp ↓] theorem k29_36r : sR k29_36 k29_o1 k29_35 := yR rfl
@[simp, simp ↓] theorem k29_37r : sR k29_37 k29_o0 k29_36 := yR rfl
noncomputable abbrev k29_C : Orc → Cx := mkC Try.prog [] 29 20 [.tmp 4]
theorem k29_of0 : OfP0 Try.prog Try.f29 29 20 k29_C k29_37 := @ofP0 _ _ _ _ _ _ _ _ Try.func29 (by decide +kernel) rfl (by kernel_rfl) rfl (by kernel_rfl)
theorem compare_c (a b : Int) (h : Heap) : ACalls Try.prog 29 [.int .i64 a, .int .i64 b] h (fun v h' => v = .int .i64 (cmpI a b) ∧ h' = h) := by
  refine k29_of0 rfl orc1_p fun I => ?_
  refine Run2.of I 1000 ?_
  simp -implicitDefEqProofs [cmpI]
  grind
noncomputable def o_compare : List AV → Option (Prop × AV) := tab (fun (x : Int × Int) => match x with | (a, b) => [.int .i64 a, .int .i64 b]) (fun x => match x with | (a, b) => True) (fun x => match x with | (a, b) => .int .i64 (cmpI a b))
@[simp] theorem o_compare_e (a : Int) (b : Int) : o_compare [.int .i64 a, .int .i64 b] = some (True, .int .i64 (cmpI a b)) := tab_at (enc := fun (x : Int × Int) => match x with | (a, b) => [.int .i64 a, .int .i64 b]) (fun x y h => by
  obtain ⟨a1, b1⟩ := x; obtain ⟨a2, b2⟩ := y; simp at h; simp [h] <;> omega) _ _ (a, b)
theorem o_compare_k : Knows Try.prog 29 o_compare := tab_knows fun x hx h => by
  obtain ⟨a, b⟩ := x; exact compare_c _ _ h
def orI : List Int → Int
  | [] => 0
  | x :: xs => if x = 0 then orI xs else x
abbrev k28_o0 : List AJ := [.o ⟨(some 2), none, false, .mv (.c (.int .i64 0)), (some [0])⟩]
abbrev k28_o1 : List AJ := [.o ⟨(some 3), none, false, .mv (.c (.int .i64 0)), (some [0, 3])⟩]
abbrev k28_o2 : List AJ := [.o ⟨(some 6), none, false, .mv (.t 0), none⟩, .o ⟨(some 7), none, false, .len (.t 6), none⟩, .o ⟨(some 8), none, false, .mv (.c (.int .i64 0)), (some [3, 6, 7, 8])⟩]
abbrev k28_o3 : List AJ := [.o ⟨(some 9), none, false, .bin .lss (.t 8) (.t 7), (some [3, 6, 7, 8, 9])⟩]
abbrev k28_o4 : List AJ := [.o ⟨(some 10), none, false, .idxA 1 (.t 6) (.t 8), none⟩, .o ⟨(some 11), none, false, .load 1 false (.t 10), none⟩, .o ⟨(some 5), none, false, .mv (.t 11), (some [3, 5, 6, 7, 8])⟩]
abbrev k28_o5 : List AJ := [.o ⟨(some 12), none, false, .mv (.t 5), none⟩, .o ⟨(some 13), none, false, .mv (.t 3), none⟩, .o ⟨(some 14), none, false, .bin .neq (.t 12) (.t 13), (some [3, 5, 6, 7, 8, 14])⟩]
abbrev k28_o6 : List AJ := [.o ⟨(some 15), none, false, .mv (.t 5), none⟩, .o ⟨(some 2), none, false, .mv (.t 15), (some [2])⟩]
def k28_8 : ACode := .seq (.region k28_o6) .ret
def k28_9 : ACode := .cond (.t 14) k28_8 .skip
def k28_10 : ACode := .seq (.region k28_o5) k28_9
def k28_11 : ACode := .seq (.region k28_o4) k28_10
abbrev k28_o7 : List AJ := [.o ⟨(some 16), none, true, .bin .add (.t 8) (.c (.int .i64 1)), none⟩, .o ⟨(some 8), none, false, .mv (.t 16), (some [3, 6, 7, 8])⟩]
def k28_13 : ACode := .region k28_o7
def k28_14 : ACode := .seq (.block 1 k28_11) k28_13
def k28_15 : ACode := .seq (.cond (.t 9) .skip (.exit 0)) k28_14
def k28_16 : ACode := .seq (.region k28_o3) k28_15
def k28_17 : ACode := .loop k28_16
def k28_18 : ACode := .block 0 k28_17
def k28_19 : ACode := .seq (.region k28_o2) k28_18
abbrev k28_o8 : List AJ := [.o ⟨(some 17), none, false, .mv (.t 3), none⟩, .o ⟨(some 2), none, false, .mv (.t 17), (some [2])⟩]
def k28_21 : ACode := .seq (.region k28_o8) .ret
def k28_22 : ACode := .seq k28_19 k28_21
def k28_23 : ACode := .seq (.region k28_o1) k28_22
def k28_24 : ACode := .seq (.region k28_o0) k28_23
@[simp, simp ↓] theorem k28_8r : sR k28_8 k28_o6 .ret := yR rfl
@[simp, simp ↓] theorem k28_9r : rC k28_9 (.t 14) k28_8 .skip := zC rfl
@[simp, simp ↓] theorem k28_10r : sR k28_10 k28_o5 k28_9 := yR rfl
@[simp, simp ↓] theorem k28_11r : sR k28_11 k28_o4 k28_10 := yR rfl
@[simp, simp ↓] theorem k28_13r : rR k28_13 k28_o7 := zR rfl
@[simp, simp ↓] theorem k28_14r : sB k28_14 1 k28_11 k28_13 := yB rfl
@[simp, simp ↓] theorem k28_15r : sC k28_15 (.t 9) .skip (.exit 0) k28_14 := yC rfl
@[simp, simp ↓] theorem k28_16r : sR k28_16 k28_o3 k28_15 := yR rfl
@[simp, simp ↓] theorem k28_17r : rL k28_17 k28_16 := zL rfl
@[simp, simp ↓] theorem k28_18r : rB k28_18 0 k28_17 := zB rfl
@[simp, simp ↓] theorem k28_19r : sR k28_19 k28_o2 k28_18 := yR rfl
@[simp, simp ↓] theorem k28_21r : sR k28_21 k28_o8 .ret := yR rfl
@[simp, simp ↓] theorem k28_22r : rS k28_22 k28_19 k28_21 := zS rfl
@[simp, simp ↓] theorem k28_23r : sR k28_23 k28_o1 k28_22 := yR rfl
@[simp, simp ↓] theorem k28_24r : sR k28_24 k28_o0 k28_23 := yR rfl
noncomputable abbrev k28_C : Orc → Cx := mkC Try.prog [] 28 18 [.tmp 2]
theorem k28_of0 : OfP0 Try.prog Try.f28 28 18 k28_C k28_24 := @ofP0 _ _ _ _ _ _ _ _ Try.func28 (by decide +kernel) rfl (by kernel_rfl) rfl (by kernel_rfl)
theorem or_c (l : List Int) (h : Heap) (hl : l.length ≤ 1048576) : ACalls Try.prog 28 [.snap 1 (l.map fun n => .int .i64 n)] h (fun v h' => v = .int .i64 (orI l) ∧ h' = h) := by
  refine k28_of0 rfl noPure fun I => ?_
  refine Run2.of I 1000 ?_
  simp -implicitDefEqProofs
  refine Run2.loop (fun i => [(3, .int .i64 0), (6, .snap 1 (l.map fun n => .int .i64 n)), (7, .int .i64 l.length), (8, .int .i64 (i : Nat))]) (fun i => h) (fun i => l.length - i) (fun i => i ≤ l.length ∧ orI (l.drop i) = orI l) 0 (by simp) fun i hi ih => ?_
  by_cases hlt : i < l.length
  · have hd : l.drop i = l[i] :: l.drop (i + 1) := List.drop_eq_getElem_cons hlt
    refine Run2.of I 1000 ?_
    simp -implicitDefEqProofs [hlt]
    constructor
    · intro hne
      rw [← hi.2, hd, orI, if_neg hne]
    · intro he
      refine ⟨by omega, ?_⟩
      have := ih (i + 1) ⟨by omega, by rw [← hi.2, hd, orI, if_pos he]⟩ (by omega)
      simpa using this
  · have : i = l.length := by omega
    have h2 := hi.2
    rw [List.drop_of_length_le (by omega)] at h2
    refine Run2.of I 1000 ?_
    simp -implicitDefEqProofs [hlt]
    exact h2
noncomputable def o_or3 : List AV → Option (Prop × AV) := tab (fun (x : Int × Int × Int) => match x with | (a, b, c) => [.snap 1 [.int .i64 a, .int .i64 b, .int .i64 c]]) (fun x => match x with | (a, b, c) => True) (fun x => match x with | (a, b, c) => .int .i64 (orI [a, b, c]))
@[simp] theorem o_or3_e (a : Int) (b : Int) (c : Int) : o_or3 [.snap 1 [.int .i64 a, .int .i64 b, .int .i64 c]] = some (True, .int .i64 (orI [a, b, c])) := tab_at (enc := fun (x : Int × Int × Int) => match x with | (a, b, c) => [.snap 1 [.int .i64 a, .int .i64 b, .int .i64 c]]) (fun x y h => by
  obtain ⟨a1, b1, c1⟩ := x; obtain ⟨a2, b2, c2⟩ := y; simp at h; simp [h] <;> omega) _ _ (a, b, c)
theorem o_or3_k : Knows Try.prog 28 o_or3 := tab_knows fun x hx h => by
  obtain ⟨a, b, c⟩ := x; exact or_c [a, b, c] h (by simp)
abbrev k22_o0 : List AJ := [.o ⟨(some 2), none, false, .mv (.c (.bool false)), (some [0])⟩]
abbrev k22_o1 : List AJ := [.o ⟨(some 3), none, false, .mv (.t 0), none⟩, .o ⟨(some 4), none, false, .call 24 [(.t 3), (.c (.int .i64 0)), (.c (.int .i64 3))], none⟩, .o ⟨(some 2), none, false, .mv (.t 4), (some [2])⟩]
def k22_2 : ACode := .seq (.region k22_o1) .ret
def k22_3 : ACode := .seq (.region k22_o0) k22_2
@[simp, simp ↓] theorem k22_2r : sR k22_2 k22_o1 .ret := yR rfl
@[simp, simp ↓] theorem k22_3r : sR k22_3 k22_o0 k22_2 := yR rfl
noncomputable abbrev k22_C : Orc → Cx := mkC Try.prog [] 22 5 [.tmp 2]
theorem k22_of0 : OfP0 Try.prog Try.f22 22 5 k22_C k22_3 := @ofP0 _ _ _ _ _ _ _ _ Try.func22 (by decide +kernel) rfl (by kernel_rfl) rfl (by kernel_rfl)
theorem isDimension_c (a : Int) (h : Heap) : ACalls Try.prog 22 [.int .i64 a] h (fun v h' => v = .bool (decide (0 ≤ a) && decide (a ≤ 3)) ∧ h' = h) := by
  refine k22_of0 rfl orc1_p fun I => ?_
  refine Run2.of I 1000 ?_
  simp -implicitDefEqProofs
noncomputable def o_isDimension : List AV → Option (Prop × AV) := tab (fun (x : Int) => match x with | a => [.int .i64 a]) (fun x => match x with | a => True) (fun x => match x with | a => .bool (decide (0 ≤ a) && decide (a ≤ 3)))
@[simp] theorem o_isDimension_e (a : Int) : o_isDimension [.int .i64 a] = some (True, .bool (decide (0 ≤ a) && decide (a ≤ 3))) := tab_at (enc := fun (x : Int) => match x with | a => [.int .i64 a]) (fun x y h => by
  simp at h; simp [h] <;> omega) _ _ a
theorem o_isDimension_k : Knows Try.prog 22 o_isDimension := tab_knows fun x hx h => by
  exact isDimension_c _ h
abbrev k23_o0 : List AJ := [.o ⟨(some 2), none, false, .mv (.c (.bool false)), (some [0])⟩]
abbrev k23_o1 : List AJ := [.o ⟨(some 3), none, false, .mv (.t 0), none⟩, .o ⟨(some 4), none, false, .call 24 [(.t 3), (.c (.int .i64 0)), (.c (.int .i64 1000))], none⟩, .o ⟨(some 2), none, false, .mv (.t 4), (some [2])⟩]
def k23_2 : ACode := .seq (.region k23_o1) .ret
def k23_3 : ACode := .seq (.region k23_o0) k23_2
@[simp, simp ↓] theorem k23_2r : sR k23_2 k23_o1 .ret := yR rfl
@[simp, simp ↓] theorem k23_3r : sR k23_3 k23_o0 k23_2 := yR rfl
noncomputable abbrev k23_C : Orc → Cx := mkC Try.prog [] 23 5 [.tmp 2]
theorem k23_of0 : OfP0 Try.prog Try.f23 23 5 k23_C k23_3 := @ofP0 _ _ _ _ _ _ _ _ Try.func23 (by decide +kernel) rfl (by kernel_rfl) rfl (by kernel_rfl)
theorem isTime_c (a : Int) (h : Heap) : ACalls Try.prog 23 [.int .i64 a] h (fun v h' => v = .bool (decide (0 ≤ a) && decide (a ≤ 1000)) ∧ h' = h) := by
  refine k23_of0 rfl orc1_p fun I => ?_
  refine Run2.of I 1000 ?_
  simp -implicitDefEqProofs
noncomputable def o_isTime : List AV → Option (Prop × AV) := tab (fun (x : Int) => match x with | a => [.int .i64 a]) (fun x => match x with | a => True) (fun x => match x with | a => .bool (decide (0 ≤ a) && decide (a ≤ 1000)))
@[simp] theorem o_isTime_e (a : Int) : o_isTime [.int .i64 a] = some (True, .bool (decide (0 ≤ a) && decide (a ≤ 1000))) := tab_at (enc := fun (x : Int) => match x with | a => [.int .i64 a]) (fun x y h => by
  simp at h; simp [h] <;> omega) _ _ a
theorem o_isTime_k : Knows Try.prog 23 o_isTime := tab_knows fun x hx h => by
  exact isTime_c _ h
abbrev k19_o0 : List AJ := [.o ⟨(some 2), none, false, .mv (.c (.bool false)), (some [0])⟩]
abbrev k19_o1 : List AJ := [.o ⟨(some 3), none, false, .mv (.t 0), none⟩, .o ⟨(some 4), none, false, .call 31 [(.t 3), (.c (.int .i64 0)), (.c (.int .i64 3))], none⟩, .o ⟨(some 2), none, false, .mv (.t 4), (some [2])⟩]
def k19_2 : ACode := .seq (.region k19_o1) .ret
def k19_3 : ACode := .seq (.region k19_o0) k19_2
@[simp, simp ↓] theorem k19_2r : sR k19_2 k19_o1 .ret := yR rfl
@[simp, simp ↓] theorem k19_3r : sR k19_3 k19_o0 k19_2 := yR rfl
noncomputable abbrev k19_C : Orc → Cx := mkC Try.prog [] 19 5 [.tmp 2]
theorem k19_of0 : OfP0 Try.prog Try.f19 19 5 k19_C k19_3 := @ofP0 _ _ _ _ _ _ _ _ Try.func19 (by decide +kernel) rfl (by kernel_rfl) rfl (by kernel_rfl)
theorem l05Dimension_c (a : Int) (h : Heap) : ACalls Try.prog 19 [.int .i64 a] h (fun v h' => v = .bool (decide (0 ≤ a) && decide (a ≤ 3)) ∧ h' = h) := by
  refine k19_of0 rfl orc1_p fun I => ?_
  refine Run2.of I 1000 ?_
  simp -implicitDefEqProofs
noncomputable def o_l05Dimension : List AV → Option (Prop × AV) := tab (fun (x : Int) => match x with | a => [.int .i64 a]) (fun x => match x with | a => True) (fun x => match x with | a => .bool (decide (0 ≤ a) && decide (a ≤ 3)))
@[simp] theorem o_l05Dimension_e (a : Int) : o_l05Dimension [.int .i64 a] = some (True, .bool (decide (0 ≤ a) && decide (a ≤ 3))) := tab_at (enc := fun (x : Int) => match x with | a => [.int .i64 a]) (fun x y h => by
  simp at h; simp [h] <;> omega) _ _ a
theorem o_l05Dimension_k : Knows Try.prog 19 o_l05Dimension := tab_knows fun x hx h => by
  exact l05Dimension_c _ h
abbrev k20_o0 : List AJ := [.o ⟨(some 2), none, false, .mv (.c (.bool false)), (some [0])⟩]
abbrev k20_o1 : List AJ := [.o ⟨(some 3), none, false, .mv (.t 0), none⟩, .o ⟨(some 4), none, false, .call 31 [(.t 3), (.c (.int .i64 0)), (.c (.int .i64 1000))], none⟩, .o ⟨(some 2), none, false, .mv (.t 4), (some [2])⟩]
def k20_2 : ACode := .seq (.region k20_o1) .ret
def k20_3 : ACode := .seq (.region k20_o0) k20_2
@[simp, simp ↓] theorem k20_2r : sR k20_2 k20_o1 .ret := yR rfl
@[simp, simp ↓] theorem k20_3r : sR k20_3 k20_o0 k20_2 := yR rfl
noncomputable abbrev k20_C : Orc → Cx := mkC Try.prog [] 20 5 [.tmp 2]
theorem k20_of0 : OfP0 Try.prog Try.f20 20 5 k20_C k20_3 := @ofP0 _ _ _ _ _ _ _ _ Try.func20 (by decide +kernel) rfl (by kernel_rfl) rfl (by kernel_rfl)
theorem l21Time_c (a : Int) (h : Heap) : ACalls Try.prog 20 [.int .i64 a] h (fun v h' => v = .bool (decide (0 ≤ a) && decide (a ≤ 1000)) ∧ h' = h) := by
  refine k20_of0 rfl orc1_p fun I => ?_
  refine Run2.of I 1000 ?_
  simp -implicitDefEqProofs
noncomputable def o_l21Time : List AV → Option (Prop × AV) := tab (fun (x : Int) => match x with | a => [.int .i64 a]) (fun x => match x with | a => True) (fun x => match x with | a => .bool (decide (0 ≤ a) && decide (a ≤ 1000)))
@[simp] theorem o_l21Time_e (a : Int) : o_l21Time [.int .i64 a] = some (True, .bool (decide (0 ≤ a) && decide (a ≤ 1000))) := tab_at (enc := fun (x : Int) => match x with | a => [.int .i64 a]) (fun x y h => by
  simp at h; simp [h] <;> omega) _ _ a
theorem o_l21Time_k : Knows Try.prog 20 o_l21Time := tab_knows fun x hx h => by
  exact l21Time_c _ h
def T.en (x : T) : Int := if x.s = -1 then 1001 else x.s
abbrev k30_o0 : List AJ := [.o ⟨(some 1), none, false, .box false 3 (.t 0), none⟩, .o ⟨(some 2), none, false, .mv (.c (.int .i64 0)), (some [1])⟩]
abbrev k30_o1 : List AJ := [.o ⟨(some 3), none, false, .fieldA 2 (.t 1), none⟩, .o ⟨(some 4), none, false, .load 1 false (.t 3), none⟩, .o ⟨(some 5), none, false, .bin .eql (.t 4) (.c (.int .i64 (-1))), (some [1, 5])⟩]
abbrev k30_o2 : List AJ := [.o ⟨(some 2), none, false, .mv (.c (.int .i64 1001)), (some [2])⟩]
def k30_3 : ACode := .seq (.region k30_o2) .ret
def k30_4 : ACode := .cond (.t 5) k30_3 .skip
def k30_5 : ACode := .seq (.region k30_o1) k30_4
abbrev k30_o3 : List AJ := [.o ⟨(some 6), none, false, .fieldA 2 (.t 1), none⟩, .o ⟨(some 7), none, false, .load 1 false (.t 6), none⟩, .o ⟨(some 2), none, false, .mv (.t 7), (some [2])⟩]
def k30_7 : ACode := .seq (.region k30_o3) .ret
def k30_8 : ACode := .seq k30_5 k30_7
def k30_9 : ACode := .seq (.region k30_o0) k30_8
@[simp, simp ↓] theorem k30_3r : sR k30_3 k30_o2 .ret := yR rfl
@[simp, simp ↓] theorem k30_4r : rC k30_4 (.t 5) k30_3 .skip := zC rfl
@[simp, simp ↓] theorem k30_5r : sR k30_5 k30_o1 k30_4 := yR rfl
@[simp, simp ↓] theorem k30_7r : sR k30_7 k30_o3 .ret := yR rfl
@[simp, simp ↓] theorem k30_8r : rS k30_8 k30_5 k30_7 := zS rfl
@[simp, simp ↓] theorem k30_9r : sR k30_9 k30_o0 k30_8 := yR rfl
noncomputable abbrev k30_C : Orc → Cx := mkC Try.prog [] 30 8 [.tmp 2]
theorem k30_of0 : OfP0 Try.prog Try.f30 30 8 k30_C k30_9 := @ofP0 _ _ _ _ _ _ _ _ Try.func30 (by decide +kernel) rfl (by kernel_rfl) rfl (by kernel_rfl)
theorem end_c (x : T) (h : Heap) : ACalls Try.prog 30 [x.av] h (fun v h' => v = .int .i64 x.en ∧ h' = h) := by
  refine k30_of0 rfl noPure fun I => ?_
  refine Run2.of I 1000 ?_
  simp -implicitDefEqProofs [T.en]
  grind
noncomputable def o_end : List AV → Option (Prop × AV) := tab (fun (x : Int × Int × Int) => match x with | (f, t, s) => [.agg [.int .i64 f, .int .i64 t, .int .i64 s]]) (fun x => match x with | (f, t, s) => True) (fun x => match x with | (f, t, s) => .int .i64 (T.en ⟨f, t, s⟩))
@[simp] theorem o_end_e (f : Int) (t : Int) (s : Int) : o_end [.agg [.int .i64 f, .int .i64 t, .int .i64 s]] = some (True, .int .i64 (T.en ⟨f, t, s⟩)) := tab_at (enc := fun (x : Int × Int × Int) => match x with | (f, t, s) => [.agg [.int .i64 f, .int .i64 t, .int .i64 s]]) (fun x y h => by
  obtain ⟨f1, t1, s1⟩ := x; obtain ⟨f2, t2, s2⟩ := y; simp at h; simp [h] <;> omega) _ _ (f, t, s)
theorem o_end_k : Knows Try.prog 30 o_end := tab_knows fun x hx h => by
  obtain ⟨f, t, s⟩ := x; exact end_c ⟨f, t, s⟩ h
noncomputable def orc2 : List (Nat × (List AV → Option (Prop × AV))) := (22, o_isDimension) :: (23, o_isTime) :: (19, o_l05Dimension) :: (20, o_l21Time) :: (30, o_end) :: (29, o_compare) :: (28, o_or3) :: orc1
theorem orc2_p : Pure Try.prog (lk orc2) := (lk_pure o_isDimension_k (lk_pure o_isTime_k (lk_pure o_l05Dimension_k (lk_pure o_l21Time_k (lk_pure o_end_k (lk_pure o_compare_k (lk_pure o_or3_k orc1_p)))))))
@[simp] theorem orc2_l (b : Bool) (g : FuncId) (l : List AV) : lk orc2 b g l = if g = 22 then o_isDimension l else if g = 23 then o_isTime l else if g = 19 then o_l05Dimension l else if g = 20 then o_l21Time l else if g = 30 then o_end l else if g = 29 then o_compare l else if g = 28 then o_or3 l else lk orc1 b g l := nr rfl
/-- What the program's comparison of two bars gives. -/
def cmpB (x y : T) : Int := orI [cmpI x.f y.f, cmpI x.t y.t, cmpI x.en y.en]
def T.lt (a b : T) : Prop := a.f < b.f ∨ a.f = b.f ∧ (a.t < b.t ∨ a.t = b.t ∧ a.en < b.en)
instance (a b : T) : Decidable (a.lt b) := by unfold T.lt; infer_instance
theorem cmpB_pos (x y : T) : 0 < cmpB x y ↔ y.lt x := by
  simp only [cmpB, orI, cmpI, T.lt]
  grind
theorem cmpB_neg (x y : T) : cmpB x y < 0 ↔ x.lt y := by
  simp only [cmpB, orI, cmpI, T.lt]
  grind
abbrev k17_o0 : List AJ := [.o ⟨(some 2), none, false, .box false 3 (.t 0), none⟩, .o ⟨(some 3), none, false, .box false 3 (.t 1), none⟩, .o ⟨(some 4), none, false, .mv (.c (.int .i64 0)), (some [2, 3])⟩]
abbrev k17_o1 : List AI := [⟨(some 5), none, false, .fieldA 0 (.t 2), none⟩, ⟨(some 6), none, false, .load 1 false (.t 5), none⟩, ⟨(some 7), none, false, .fieldA 0 (.t 3), none⟩, ⟨(some 8), none, false, .load 1 false (.t 7), none⟩, ⟨(some 9), none, false, .call 29 [(.t 6), (.t 8)], none⟩, ⟨(some 10), none, false, .fieldA 1 (.t 2), none⟩, ⟨(some 11), none, false, .load 1 false (.t 10), none⟩, ⟨(some 12), none, false, .fieldA 1 (.t 3), none⟩, ⟨(some 13), none, false, .load 1 false (.t 12), none⟩, ⟨(some 14), none, false, .call 29 [(.t 11), (.t 13)], none⟩, ⟨(some 15), none, false, .load 3 true (.t 2), none⟩, ⟨(some 16), none, false, .call 30 [(.t 15)], none⟩, ⟨(some 17), none, false, .load 3 true (.t 3), none⟩, ⟨(some 18), none, false, .call 30 [(.t 17)], (some [9, 14, 16, 18])⟩, ⟨(some 19), none, false, .call 29 [(.t 16), (.t 18)], none⟩, ⟨(some 20), none, false, .bsl false 1 [(.t 9), (.t 14), (.t 19)], none⟩, ⟨(some 21), none, false, .call 28 [(.t 20)], none⟩, ⟨(some 4), none, false, .mv (.t 21), (some [4])⟩]
def k17_2 : ACode := .seq (.draw k17_o1 [] rfl) .ret
def k17_3 : ACode := .seq (.region k17_o0) k17_2
@[simp, simp ↓] theorem k17_2r : sD k17_2 k17_o1 [] .ret := yD rfl
@[simp, simp ↓] theorem k17_3r : sR k17_3 k17_o0 k17_2 := yR rfl
noncomputable abbrev k17_C : Orc → Cx := mkC Try.prog [] 17 22 [.tmp 4]
theorem k17_of0 : OfP0 Try.prog Try.f17 17 22 k17_C k17_3 := @ofP0 _ _ _ _ _ _ _ _ Try.func17 (by decide +kernel) rfl (by kernel_rfl) rfl (by kernel_rfl)
theorem compareBars_c (x y : T) (h : Heap) : ACalls Try.prog 17 [x.av, y.av] h (fun v h' => v = .int .i64 (cmpB x y) ∧ h' = h) := by
  refine k17_of0 rfl orc2_p fun I => ?_
  refine Run2.of I 1000 ?_
  simp -implicitDefEqProofs [cmpB]
noncomputable def o_compareBars : List AV → Option (Prop × AV) := tab (fun (x : Int × Int × Int × Int × Int × Int) => match x with | (f, t, s, f', t', s') => [.agg [.int .i64 f, .int .i64 t, .int .i64 s], .agg [.int .i64 f', .int .i64 t', .int .i64 s']]) (fun x => match x with | (f, t, s, f', t', s') => True) (fun x => match x with | (f, t, s, f', t', s') => .int .i64 (cmpB ⟨f, t, s⟩ ⟨f', t', s'⟩))
@[simp] theorem o_compareBars_e (f : Int) (t : Int) (s : Int) (f' : Int) (t' : Int) (s' : Int) : o_compareBars [.agg [.int .i64 f, .int .i64 t, .int .i64 s], .agg [.int .i64 f', .int .i64 t', .int .i64 s']] = some (True, .int .i64 (cmpB ⟨f, t, s⟩ ⟨f', t', s'⟩)) := tab_at (enc := fun (x : Int × Int × Int × Int × Int × Int) => match x with | (f, t, s, f', t', s') => [.agg [.int .i64 f, .int .i64 t, .int .i64 s], .agg [.int .i64 f', .int .i64 t', .int .i64 s']]) (fun x y h => by
  obtain ⟨f1, t1, s1, f'1, t'1, s'1⟩ := x; obtain ⟨f2, t2, s2, f'2, t'2, s'2⟩ := y; simp at h; simp [h] <;> omega) _ _ (f, t, s, f', t', s')
theorem o_compareBars_k : Knows Try.prog 17 o_compareBars := tab_knows fun x hx h => by
  obtain ⟨f, t, s, f', t', s'⟩ := x; exact compareBars_c ⟨f, t, s⟩ ⟨f', t', s'⟩ h
/-- What the reference asks of two bars. -/
def T.bef (a b : T) : Prop := a.f < b.f ∨ a.f = b.f ∧ (a.t < b.t ∨ a.t = b.t ∧ ¬ a.s = -1 ∧ (b.s = -1 ∨ a.s < b.s))
instance (a b : T) : Decidable (a.bef b) := by unfold T.bef; infer_instance
abbrev k21_o0 : List AJ := [.o ⟨(some 4), none, false, .mv (.c (.bool false)), (some [0, 1])⟩]
abbrev k21_o1 : List AI := [⟨(some 5), none, false, .mv (.t 0), none⟩, ⟨(some 6), none, false, .nilchk (.t 5), none⟩, ⟨(some 7), none, false, .fieldA 0 (.t 6), none⟩, ⟨(some 8), none, false, .load 1 false (.t 7), none⟩, ⟨(some 9), none, false, .mv (.t 1), none⟩, ⟨(some 10), none, false, .nilchk (.t 9), none⟩, ⟨(some 11), none, false, .fieldA 0 (.t 10), none⟩, ⟨(some 12), none, false, .load 1 false (.t 11), none⟩, ⟨(some 13), none, false, .bin .neq (.t 8) (.t 12), (some [0, 1, 13])⟩]
abbrev k21_o2 : List AI := [⟨(some 14), none, false, .mv (.t 0), none⟩, ⟨(some 15), none, false, .nilchk (.t 14), none⟩, ⟨(some 16), none, false, .fieldA 0 (.t 15), none⟩, ⟨(some 17), none, false, .load 1 false (.t 16), none⟩, ⟨(some 18), none, false, .mv (.t 1), none⟩, ⟨(some 19), none, false, .nilchk (.t 18), none⟩, ⟨(some 20), none, false, .fieldA 0 (.t 19), none⟩, ⟨(some 21), none, false, .load 1 false (.t 20), none⟩, ⟨(some 22), none, false, .bin .lss (.t 17) (.t 21), none⟩, ⟨(some 4), none, false, .mv (.t 22), (some [4])⟩]
def k21_3 : ACode := .seq (.draw k21_o2 [] rfl) .ret
def k21_4 : ACode := .cond (.t 13) k21_3 .skip
def k21_5 : ACode := .seq (.draw k21_o1 [] rfl) k21_4
abbrev k21_o3 : List AI := [⟨(some 23), none, false, .mv (.t 0), none⟩, ⟨(some 24), none, false, .nilchk (.t 23), none⟩, ⟨(some 25), none, false, .fieldA 1 (.t 24), none⟩, ⟨(some 26), none, false, .load 1 false (.t 25), none⟩, ⟨(some 27), none, false, .mv (.t 1), none⟩, ⟨(some 28), none, false, .nilchk (.t 27), none⟩, ⟨(some 29), none, false, .fieldA 1 (.t 28), none⟩, ⟨(some 30), none, false, .load 1 false (.t 29), none⟩, ⟨(some 31), none, false, .bin .neq (.t 26) (.t 30), (some [0, 1, 31])⟩]
abbrev k21_o4 : List AI := [⟨(some 32), none, false, .mv (.t 0), none⟩, ⟨(some 33), none, false, .nilchk (.t 32), none⟩, ⟨(some 34), none, false, .fieldA 1 (.t 33), none⟩, ⟨(some 35), none, false, .load 1 false (.t 34), none⟩, ⟨(some 36), none, false, .mv (.t 1), none⟩, ⟨(some 37), none, false, .nilchk (.t 36), none⟩, ⟨(some 38), none, false, .fieldA 1 (.t 37), none⟩, ⟨(some 39), none, false, .load 1 false (.t 38), none⟩, ⟨(some 40), none, false, .bin .lss (.t 35) (.t 39), none⟩, ⟨(some 4), none, false, .mv (.t 40), (some [4])⟩]
def k21_8 : ACode := .seq (.draw k21_o4 [] rfl) .ret
def k21_9 : ACode := .cond (.t 31) k21_8 .skip
def k21_10 : ACode := .seq (.draw k21_o3 [] rfl) k21_9
abbrev k21_o5 : List AI := [⟨(some 41), none, false, .mv (.t 0), none⟩, ⟨(some 42), none, false, .nilchk (.t 41), none⟩, ⟨(some 43), none, false, .fieldA 2 (.t 42), none⟩, ⟨(some 44), none, false, .load 1 false (.t 43), none⟩, ⟨(some 45), none, false, .bin .neq (.t 44) (.c (.int .i64 (-1))), none⟩, ⟨(some 46), none, false, .mv (.t 45), none⟩, ⟨(some 47), (some (46, true)), false, .mv (.t 1), none⟩, ⟨(some 48), (some (46, true)), false, .nilchk (.t 47), none⟩, ⟨(some 49), (some (46, true)), false, .fieldA 2 (.t 48), none⟩, ⟨(some 50), (some (46, true)), false, .load 1 false (.t 49), (some [0, 1, 46, 50])⟩, ⟨(some 51), (some (46, true)), false, .bin .eql (.t 50) (.c (.int .i64 (-1))), none⟩, ⟨(some 52), (some (46, true)), false, .mv (.t 51), none⟩, ⟨(some 53), (some (52, false)), false, .mv (.t 0), none⟩, ⟨(some 54), (some (52, false)), false, .nilchk (.t 53), none⟩, ⟨(some 55), (some (52, false)), false, .fieldA 2 (.t 54), none⟩, ⟨(some 56), (some (52, false)), false, .load 1 false (.t 55), none⟩, ⟨(some 57), (some (52, false)), false, .mv (.t 1), (some [46, 52, 56, 57])⟩, ⟨(some 58), (some (52, false)), false, .nilchk (.t 57), none⟩, ⟨(some 59), (some (52, false)), false, .fieldA 2 (.t 58), none⟩, ⟨(some 60), (some (52, false)), false, .load 1 false (.t 59), none⟩, ⟨(some 61), (some (52, false)), false, .bin .lss (.t 56) (.t 60), none⟩, ⟨(some 62), (some (46, true)), false, .pick (.t 52) (.c (.bool true)) (.t 61), none⟩, ⟨(some 63), none, false, .pick (.t 46) (.t 62) (.c (.bool false)), none⟩, ⟨(some 4), none, false, .mv (.t 63), (some [4])⟩]
def k21_12 : ACode := .seq (.draw k21_o5 [] rfl) .ret
def k21_13 : ACode := .seq k21_10 k21_12
def k21_14 : ACode := .seq k21_5 k21_13
def k21_15 : ACode := .seq (.region k21_o0) k21_14
@[simp, simp ↓] theorem k21_3r : sD k21_3 k21_o2 [] .ret := yD rfl
@[simp, simp ↓] theorem k21_4r : rC k21_4 (.t 13) k21_3 .skip := zC rfl
@[simp, simp ↓] theorem k21_5r : sD k21_5 k21_o1 [] k21_4 := yD rfl
@[simp, simp ↓] theorem k21_8r : sD k21_8 k21_o4 [] .ret := yD rfl
@[simp, simp ↓] theorem k21_9r : rC k21_9 (.t 31) k21_8 .skip := zC rfl
@[simp, simp ↓] theorem k21_10r : sD k21_10 k21_o3 [] k21_9 := yD rfl
@[simp, simp ↓] theorem k21_12r : sD k21_12 k21_o5 [] .ret := yD rfl
@[simp, simp ↓] theorem k21_13r : rS k21_13 k21_10 k21_12 := zS rfl
@[simp, simp ↓] theorem k21_14r : rS k21_14 k21_5 k21_13 := zS rfl
@[simp, simp ↓] theorem k21_15r : sR k21_15 k21_o0 k21_14 := yR rfl
noncomputable abbrev k21_C : Orc → Cx := mkC Try.prog [] 21 64 [.tmp 4]
theorem k21_of0 : OfP0 Try.prog Try.f21 21 64 k21_C k21_15 := @ofP0 _ _ _ _ _ _ _ _ Try.func21 (by decide +kernel) rfl (by kernel_rfl) rfl (by kernel_rfl)
theorem l21Before_c (x y : T) (h : Heap) : ACalls Try.prog 21 [.ip [.int .i64 x.f, .int .i64 x.t, .int .i64 x.s], .ip [.int .i64 y.f, .int .i64 y.t, .int .i64 y.s]] h (fun v h' => v = .bool (decide (x.bef y)) ∧ h' = h) := by
  refine k21_of0 rfl noPure fun I => ?_
  refine Run2.of I 1000 ?_
  simp -implicitDefEqProofs [T.bef]
  grind
noncomputable def o_l21Before : List AV → Option (Prop × AV) := tab (fun (x : Int × Int × Int × Int × Int × Int) => match x with | (f, t, s, f', t', s') => [.ip [.int .i64 f, .int .i64 t, .int .i64 s], .ip [.int .i64 f', .int .i64 t', .int .i64 s']]) (fun x => match x with | (f, t, s, f', t', s') => True) (fun x => match x with | (f, t, s, f', t', s') => .bool (decide (T.bef ⟨f, t, s⟩ ⟨f', t', s'⟩)))
@[simp] theorem o_l21Before_e (f : Int) (t : Int) (s : Int) (f' : Int) (t' : Int) (s' : Int) : o_l21Before [.ip [.int .i64 f, .int .i64 t, .int .i64 s], .ip [.int .i64 f', .int .i64 t', .int .i64 s']] = some (True, .bool (decide (T.bef ⟨f, t, s⟩ ⟨f', t', s'⟩))) := tab_at (enc := fun (x : Int × Int × Int × Int × Int × Int) => match x with | (f, t, s, f', t', s') => [.ip [.int .i64 f, .int .i64 t, .int .i64 s], .ip [.int .i64 f', .int .i64 t', .int .i64 s']]) (fun x y h => by
  obtain ⟨f1, t1, s1, f'1, t'1, s'1⟩ := x; obtain ⟨f2, t2, s2, f'2, t'2, s'2⟩ := y; simp at h; simp [h] <;> omega) _ _ (f, t, s, f', t', s')
theorem o_l21Before_k : Knows Try.prog 21 o_l21Before := tab_knows fun x hx h => by
  obtain ⟨f, t, s, f', t', s'⟩ := x; exact l21Before_c ⟨f, t, s⟩ ⟨f', t', s'⟩ h
noncomputable def orc3 : List (Nat × (List AV → Option (Prop × AV))) := (17, o_compareBars) :: (21, o_l21Before) :: orc2
theorem orc3_p : Pure Try.prog (lk orc3) := (lk_pure o_compareBars_k (lk_pure o_l21Before_k orc2_p))
@[simp] theorem orc3_l (b : Bool) (g : FuncId) (l : List AV) : lk orc3 b g l = if g = 17 then o_compareBars l else if g = 21 then o_l21Before l else lk orc2 b g l := nr rfl
end Go.AG
