/- What ValidPhases and its counterpart of the reference ask of phases. No statement is made here. -/
import Derived.Test.YtgofekmoimjcmaaGreatDoorPhA
namespace Go.AG.P
open Go.Proofs Go.Proofs.YtgofekmoimjcmaaGreatDoor
set_option linter.unusedSimpArgs false
set_option linter.unusedVariables false
set_option maxRecDepth 4000
abbrev k64_o0 : List AJ := [.o ⟨(some 6), none, false, .mv (.c (.bool false)), (some [0, 1, 2])⟩]
abbrev k64_o1 : List AJ := [.o ⟨(some 7), none, false, .mv (.t 0), none⟩, .o ⟨(some 8), none, false, .mv (.t 1), none⟩, .o ⟨(some 9), none, false, .bin .geq (.t 7) (.t 8), none⟩, .o ⟨(some 10), none, false, .mv (.t 9), none⟩, .o ⟨(some 11), (some (10, true)), false, .mv (.t 0), none⟩, .o ⟨(some 12), (some (10, true)), false, .mv (.t 2), none⟩, .o ⟨(some 13), (some (10, true)), false, .bin .leq (.t 11) (.t 12), none⟩, .o ⟨(some 14), none, false, .pick (.t 10) (.t 13) (.c (.bool false)), none⟩, .o ⟨(some 6), none, false, .mv (.t 14), (some [6])⟩]
def k64_2 : ACode := .seq (.region k64_o1) .ret
def k64_3 : ACode := .seq (.region k64_o0) k64_2
@[simp, simp ↓] theorem k64_2r : sR k64_2 k64_o1 .ret := yR rfl
@[simp, simp ↓] theorem k64_3r : sR k64_3 k64_o0 k64_2 := yR rfl
noncomputable abbrev k64_C : Orc → Cx := mkC Tryz.prog [] 64 15 [.tmp 6]
theorem k64_of0 : OfP0 Tryz.prog Tryz.f64 64 15 k64_C k64_3 := @ofP0 _ _ _ _ _ _ _ _ Tryz.func64 (by decide +kernel) rfl (by kernel_rfl) rfl (by kernel_rfl)
theorem l00In_c (a b c : Int) (h : Heap) : ACalls Tryz.prog 64 [.int .i64 a, .int .i64 b, .int .i64 c] h (fun v h' => v = .bool (decide (b ≤ a) && decide (a ≤ c)) ∧ h' = h) := by
  refine k64_of0 rfl noPure fun I => ?_
  refine Run2.of I 1000 ?_
  simp -implicitDefEqProofs
  grind
noncomputable def o_l00In : List AV → Option (Prop × AV) := tab (fun (x : Int × Int × Int) => match x with | (a, b, c) => [.int .i64 a, .int .i64 b, .int .i64 c]) (fun x => match x with | (a, b, c) => True) (fun x => match x with | (a, b, c) => .bool (decide (b ≤ a) && decide (a ≤ c)))
@[simp] theorem o_l00In_e (a : Int) (b : Int) (c : Int) : o_l00In [.int .i64 a, .int .i64 b, .int .i64 c] = some (True, .bool (decide (b ≤ a) && decide (a ≤ c))) := tab_at (enc := fun (x : Int × Int × Int) => match x with | (a, b, c) => [.int .i64 a, .int .i64 b, .int .i64 c]) (fun x y h => by
  obtain ⟨a1, b1, c1⟩ := x; obtain ⟨a2, b2, c2⟩ := y; simp at h; simp [h] <;> omega) _ _ (a, b, c)
theorem o_l00In_k : Knows Tryz.prog 64 o_l00In := tab_knows fun x hx h => by
  obtain ⟨a, b, c⟩ := x; exact l00In_c _ _ _ h
abbrev k45_o0 : List AJ := [.o ⟨(some 6), none, false, .mv (.c (.bool false)), (some [0, 1, 2])⟩]
abbrev k45_o1 : List AJ := [.o ⟨(some 7), none, false, .mv (.t 0), none⟩, .o ⟨(some 8), none, false, .mv (.t 1), none⟩, .o ⟨(some 9), none, false, .bin .geq (.t 7) (.t 8), none⟩, .o ⟨(some 10), none, false, .mv (.t 9), none⟩, .o ⟨(some 11), (some (10, true)), false, .mv (.t 0), none⟩, .o ⟨(some 12), (some (10, true)), false, .mv (.t 2), none⟩, .o ⟨(some 13), (some (10, true)), false, .bin .leq (.t 11) (.t 12), none⟩, .o ⟨(some 14), none, false, .pick (.t 10) (.t 13) (.c (.bool false)), none⟩, .o ⟨(some 6), none, false, .mv (.t 14), (some [6])⟩]
def k45_2 : ACode := .seq (.region k45_o1) .ret
def k45_3 : ACode := .seq (.region k45_o0) k45_2
@[simp, simp ↓] theorem k45_2r : sR k45_2 k45_o1 .ret := yR rfl
@[simp, simp ↓] theorem k45_3r : sR k45_3 k45_o0 k45_2 := yR rfl
noncomputable abbrev k45_C : Orc → Cx := mkC Tryz.prog [] 45 15 [.tmp 6]
theorem k45_of0 : OfP0 Tryz.prog Tryz.f45 45 15 k45_C k45_3 := @ofP0 _ _ _ _ _ _ _ _ Tryz.func45 (by decide +kernel) rfl (by kernel_rfl) rfl (by kernel_rfl)
theorem within_c (a b c : Int) (h : Heap) : ACalls Tryz.prog 45 [.int .i64 a, .int .i64 b, .int .i64 c] h (fun v h' => v = .bool (decide (b ≤ a) && decide (a ≤ c)) ∧ h' = h) := by
  refine k45_of0 rfl noPure fun I => ?_
  refine Run2.of I 1000 ?_
  simp -implicitDefEqProofs
  grind
noncomputable def o_within : List AV → Option (Prop × AV) := tab (fun (x : Int × Int × Int) => match x with | (a, b, c) => [.int .i64 a, .int .i64 b, .int .i64 c]) (fun x => match x with | (a, b, c) => True) (fun x => match x with | (a, b, c) => .bool (decide (b ≤ a) && decide (a ≤ c)))
@[simp] theorem o_within_e (a : Int) (b : Int) (c : Int) : o_within [.int .i64 a, .int .i64 b, .int .i64 c] = some (True, .bool (decide (b ≤ a) && decide (a ≤ c))) := tab_at (enc := fun (x : Int × Int × Int) => match x with | (a, b, c) => [.int .i64 a, .int .i64 b, .int .i64 c]) (fun x y h => by
  obtain ⟨a1, b1, c1⟩ := x; obtain ⟨a2, b2, c2⟩ := y; simp at h; simp [h] <;> omega) _ _ (a, b, c)
theorem o_within_k : Knows Tryz.prog 45 o_within := tab_knows fun x hx h => by
  obtain ⟨a, b, c⟩ := x; exact within_c _ _ _ h
abbrev k67_o0 : List AJ := [.o ⟨(some 2), none, false, .mv (.c (.bool false)), (some [0])⟩]
abbrev k67_o1 : List AJ := [.o ⟨(some 3), none, false, .mv (.t 0), none⟩, .o ⟨(some 4), none, false, .mv (.t 0), none⟩, .o ⟨(some 5), none, false, .bin .neq (.t 3) (.t 4), none⟩, .o ⟨(some 2), none, false, .mv (.t 5), (some [2])⟩]
def k67_2 : ACode := .seq (.region k67_o1) .ret
def k67_3 : ACode := .seq (.region k67_o0) k67_2
@[simp, simp ↓] theorem k67_2r : sR k67_2 k67_o1 .ret := yR rfl
@[simp, simp ↓] theorem k67_3r : sR k67_3 k67_o0 k67_2 := yR rfl
noncomputable abbrev k67_C : Orc → Cx := mkC Tryz.prog [] 67 6 [.tmp 2]
theorem k67_of0 : OfP0 Tryz.prog Tryz.f67 67 6 k67_C k67_3 := @ofP0 _ _ _ _ _ _ _ _ Tryz.func67 (by decide +kernel) rfl (by kernel_rfl) rfl (by kernel_rfl)
theorem isNaN_c (a : Int) (h : Heap) : ACalls Tryz.prog 67 [.int .i64 a] h (fun v h' => v = .bool false ∧ h' = h) := by
  refine k67_of0 rfl noPure fun I => ?_
  refine Run2.of I 1000 ?_
  simp -implicitDefEqProofs
noncomputable def o_isNaN : List AV → Option (Prop × AV) := tab (fun (x : Int) => match x with | a => [.int .i64 a]) (fun x => match x with | a => True) (fun x => match x with | a => .bool false)
@[simp] theorem o_isNaN_e (a : Int) : o_isNaN [.int .i64 a] = some (True, .bool false) := tab_at (enc := fun (x : Int) => match x with | a => [.int .i64 a]) (fun x y h => by
  simp at h; simp [h] <;> omega) _ _ a
theorem o_isNaN_k : Knows Tryz.prog 67 o_isNaN := tab_knows fun x hx h => by
  exact isNaN_c _ h
noncomputable def orc1 : List (Nat × (List AV → Option (Prop × AV))) := (64, o_l00In) :: (45, o_within) :: (67, o_isNaN) :: []
theorem orc1_p : Pure Tryz.prog (lk orc1) := (lk_pure o_l00In_k (lk_pure o_within_k (lk_pure o_isNaN_k lk_pure0)))
@[simp] theorem orc1_l (b : Bool) (g : FuncId) (l : List AV) : lk orc1 b g l = if g = 64 then o_l00In l else if g = 45 then o_within l else if g = 67 then o_isNaN l else none := nr rfl
abbrev k42_o0 : List AJ := [.o ⟨(some 4), none, false, .mv (.c (.bool false)), (some [0, 1])⟩]
abbrev k42_o1 : List AJ := [.o ⟨(some 5), none, false, .mv (.t 0), none⟩, .o ⟨(some 6), none, false, .mv (.t 1), none⟩, .o ⟨(some 7), none, false, .bin .sub (.t 6) (.c (.int .i64 1)), none⟩, .o ⟨(some 8), none, false, .call 45 [(.t 5), (.c (.int .i64 0)), (.t 7)], none⟩, .o ⟨(some 4), none, false, .mv (.t 8), (some [4])⟩]
def k42_2 : ACode := .seq (.region k42_o1) .ret
def k42_3 : ACode := .seq (.region k42_o0) k42_2
@[simp, simp ↓] theorem k42_2r : sR k42_2 k42_o1 .ret := yR rfl
@[simp, simp ↓] theorem k42_3r : sR k42_3 k42_o0 k42_2 := yR rfl
noncomputable abbrev k42_C : Orc → Cx := mkC Tryz.prog [] 42 9 [.tmp 4]
theorem k42_of0 : OfP0 Tryz.prog Tryz.f42 42 9 k42_C k42_3 := @ofP0 _ _ _ _ _ _ _ _ Tryz.func42 (by decide +kernel) rfl (by kernel_rfl) rfl (by kernel_rfl)
theorem isElement_c (a p : Int) (h : Heap) : ACalls Tryz.prog 42 [.int .i64 a, .int .i64 p] h (fun v h' => v = .bool (decide (0 ≤ a) && decide (a ≤ IntKind.i64.wrap (p - 1))) ∧ h' = h) := by
  refine k42_of0 rfl orc1_p fun I => ?_
  refine Run2.of I 1000 ?_
  simp -implicitDefEqProofs
noncomputable def o_isElement : List AV → Option (Prop × AV) := tab (fun (x : Int × Int) => match x with | (a, p) => [.int .i64 a, .int .i64 p]) (fun x => match x with | (a, p) => True) (fun x => match x with | (a, p) => .bool (decide (0 ≤ a) && decide (a ≤ IntKind.i64.wrap (p - 1))))
@[simp] theorem o_isElement_e (a : Int) (p : Int) : o_isElement [.int .i64 a, .int .i64 p] = some (True, .bool (decide (0 ≤ a) && decide (a ≤ IntKind.i64.wrap (p - 1)))) := tab_at (enc := fun (x : Int × Int) => match x with | (a, p) => [.int .i64 a, .int .i64 p]) (fun x y h => by
  obtain ⟨a1, p1⟩ := x; obtain ⟨a2, p2⟩ := y; simp at h; simp [h] <;> omega) _ _ (a, p)
theorem o_isElement_k : Knows Tryz.prog 42 o_isElement := tab_knows fun x hx h => by
  obtain ⟨a, p⟩ := x; exact isElement_c _ _ h
def cmpI (a b : Int) : Int := if a < b then -1 else if b < a then 1 else 0
abbrev k44_o0 : List AJ := [.o ⟨(some 4), none, false, .mv (.c (.int .i64 0)), (some [0, 1])⟩]
abbrev k44_o1 : List AJ := [.o ⟨(some 7), none, false, .mv (.t 0), none⟩, .o ⟨(some 8), none, false, .call 67 [(.t 7)], none⟩, .o ⟨(some 5), none, false, .mv (.t 8), (some [0, 1, 5])⟩]
abbrev k44_o2 : List AJ := [.o ⟨(some 9), none, false, .mv (.t 1), none⟩, .o ⟨(some 10), none, false, .call 67 [(.t 9)], none⟩, .o ⟨(some 6), none, false, .mv (.t 10), (some [0, 1, 5, 6])⟩]
abbrev k44_o3 : List AJ := [.o ⟨(some 11), none, false, .mv (.t 5), (some [0, 1, 6, 11])⟩]
abbrev k44_o4 : List AJ := [.o ⟨(some 12), none, false, .mv (.t 6), (some [12])⟩]
abbrev k44_o5 : List AJ := [.o ⟨(some 4), none, false, .mv (.c (.int .i64 0)), (some [4])⟩]
def k44_6 : ACode := .seq (.region k44_o5) .ret
def k44_7 : ACode := .cond (.t 12) k44_6 .skip
def k44_8 : ACode := .seq (.region k44_o4) k44_7
abbrev k44_o6 : List AJ := [.o ⟨(some 4), none, false, .mv (.c (.int .i64 (-1))), (some [4])⟩]
def k44_10 : ACode := .seq (.region k44_o6) .ret
def k44_11 : ACode := .seq k44_8 k44_10
def k44_12 : ACode := .cond (.t 11) k44_11 .skip
def k44_13 : ACode := .seq (.region k44_o3) k44_12
abbrev k44_o7 : List AJ := [.o ⟨(some 13), none, false, .mv (.t 6), (some [0, 1, 13])⟩]
abbrev k44_o8 : List AJ := [.o ⟨(some 4), none, false, .mv (.c (.int .i64 1)), (some [4])⟩]
def k44_16 : ACode := .seq (.region k44_o8) .ret
def k44_17 : ACode := .cond (.t 13) k44_16 .skip
def k44_18 : ACode := .seq (.region k44_o7) k44_17
abbrev k44_o9 : List AJ := [.o ⟨(some 14), none, false, .mv (.t 0), none⟩, .o ⟨(some 15), none, false, .mv (.t 1), none⟩, .o ⟨(some 16), none, false, .bin .lss (.t 14) (.t 15), (some [0, 1, 16])⟩]
abbrev k44_o10 : List AJ := [.o ⟨(some 4), none, false, .mv (.c (.int .i64 (-1))), (some [4])⟩]
def k44_21 : ACode := .seq (.region k44_o10) .ret
def k44_22 : ACode := .cond (.t 16) k44_21 .skip
def k44_23 : ACode := .seq (.region k44_o9) k44_22
abbrev k44_o11 : List AJ := [.o ⟨(some 17), none, false, .mv (.t 0), none⟩, .o ⟨(some 18), none, false, .mv (.t 1), none⟩, .o ⟨(some 19), none, false, .bin .gtr (.t 17) (.t 18), (some [19])⟩]
abbrev k44_o12 : List AJ := [.o ⟨(some 4), none, false, .mv (.c (.int .i64 1)), (some [4])⟩]
def k44_26 : ACode := .seq (.region k44_o12) .ret
def k44_27 : ACode := .cond (.t 19) k44_26 .skip
def k44_28 : ACode := .seq (.region k44_o11) k44_27
abbrev k44_o13 : List AJ := [.o ⟨(some 4), none, false, .mv (.c (.int .i64 0)), (some [4])⟩]
def k44_30 : ACode := .seq (.region k44_o13) .ret
def k44_31 : ACode := .seq k44_28 k44_30
def k44_32 : ACode := .seq k44_23 k44_31
def k44_33 : ACode := .seq k44_18 k44_32
def k44_34 : ACode := .seq k44_13 k44_33
def k44_35 : ACode := .seq (.region k44_o2) k44_34
def k44_36 : ACode := .seq (.region k44_o1) k44_35
def k44_37 : ACode := .seq (.region k44_o0) k44_36
@[simp, simp ↓] theorem k44_6r : sR k44_6 k44_o5 .ret := yR rfl
@[simp, simp ↓] theorem k44_7r : rC k44_7 (.t 12) k44_6 .skip := zC rfl
@[simp, simp ↓] theorem k44_8r : sR k44_8 k44_o4 k44_7 := yR rfl
@[simp, simp ↓] theorem k44_10r : sR k44_10 k44_o6 .ret := yR rfl
@[simp, simp ↓] theorem k44_11r : rS k44_11 k44_8 k44_10 := zS rfl
@[simp, simp ↓] theorem k44_12r : rC k44_12 (.t 11) k44_11 .skip := zC rfl
@[simp, simp ↓] theorem k44_13r : sR k44_13 k44_o3 k44_12 := yR rfl
@[simp, simp ↓] theorem k44_16r : sR k44_16 k44_o8 .ret := yR rfl
@[simp, simp ↓] theorem k44_17r : rC k44_17 (.t 13) k44_16 .skip := zC rfl
@[simp, simp ↓] theorem k44_18r : sR k44_18 k44_o7 k44_17 := yR rfl
@[simp, simp ↓] theorem k44_21r : sR k44_21 k44_o10 .ret := yR rfl
@[simp, simp ↓] theorem k44_22r : rC k44_22 (.t 16) k44_21 .skip := zC rfl
@[simp, simp ↓] theorem k44_23r : sR k44_23 k44_o9 k44_22 := yR rfl
@[simp, simp ↓] theorem k44_26r : sR k44_26 k44_o12 .ret := yR rfl
@[simp, simp ↓] theorem k44_27r : rC k44_27 (.t 19) k44_26 .skip := zC rfl
@[simp, simp ↓] theorem k44_28r : sR k44_28 k44_o11 k44_27 := yR rfl
@[simp, simp ↓] theorem k44_30r : sR k44_30 k44_o13 .ret := yR rfl
@[simp, simp ↓] theorem k44_31r : rS k44_31 k44_28 k44_30 := zS rfl
@[simp, simp ↓] theorem k44_32r : rS k44_32 k44_23 k44_31 := zS rfl
@[simp, simp ↓] theorem k44_33r : rS k44_33 k44_18 k44_32 := zS rfl
@[simp, simp ↓] theorem k44_34r : rS k44_34 k44_13 k44_33 := zS rfl
@[simp, simp ↓] theorem k44_35r : sR k44_35 k44_o2 k44_34 := yR rfl
@[simp, simp ↓] theorem k44_36r : sR k44_36 k44_o1 k44_35 := yR rfl
@[simp, simp ↓] theorem k44_37r : sR k44_37 k44_o0 k44_36 := yR rfl
noncomputable abbrev k44_C : Orc → Cx := mkC Tryz.prog [] 44 20 [.tmp 4]
theorem k44_of0 : OfP0 Tryz.prog Tryz.f44 44 20 k44_C k44_37 := @ofP0 _ _ _ _ _ _ _ _ Tryz.func44 (by decide +kernel) rfl (by kernel_rfl) rfl (by kernel_rfl)
theorem compare_c (a b : Int) (h : Heap) : ACalls Tryz.prog 44 [.int .i64 a, .int .i64 b] h (fun v h' => v = .int .i64 (cmpI a b) ∧ h' = h) := by
  refine k44_of0 rfl orc1_p fun I => ?_
  refine Run2.of I 1000 ?_
  simp -implicitDefEqProofs [cmpI]
  grind
noncomputable def o_compare : List AV → Option (Prop × AV) := tab (fun (x : Int × Int) => match x with | (a, b) => [.int .i64 a, .int .i64 b]) (fun x => match x with | (a, b) => True) (fun x => match x with | (a, b) => .int .i64 (cmpI a b))
@[simp] theorem o_compare_e (a : Int) (b : Int) : o_compare [.int .i64 a, .int .i64 b] = some (True, .int .i64 (cmpI a b)) := tab_at (enc := fun (x : Int × Int) => match x with | (a, b) => [.int .i64 a, .int .i64 b]) (fun x y h => by
  obtain ⟨a1, b1⟩ := x; obtain ⟨a2, b2⟩ := y; simp at h; simp [h] <;> omega) _ _ (a, b)
theorem o_compare_k : Knows Tryz.prog 44 o_compare := tab_knows fun x hx h => by
  obtain ⟨a, b⟩ := x; exact compare_c _ _ h
def orI : List Int → Int
  | [] => 0
  | x :: xs => if x = 0 then orI xs else x
abbrev k43_o0 : List AJ := [.o ⟨(some 2), none, false, .mv (.c (.int .i64 0)), (some [0])⟩]
abbrev k43_o1 : List AJ := [.o ⟨(some 3), none, false, .mv (.c (.int .i64 0)), (some [0, 3])⟩]
abbrev k43_o2 : List AJ := [.o ⟨(some 6), none, false, .mv (.t 0), none⟩, .o ⟨(some 7), none, false, .len (.t 6), none⟩, .o ⟨(some 8), none, false, .mv (.c (.int .i64 0)), (some [3, 6, 7, 8])⟩]
abbrev k43_o3 : List AJ := [.o ⟨(some 9), none, false, .bin .lss (.t 8) (.t 7), (some [3, 6, 7, 8, 9])⟩]
abbrev k43_o4 : List AJ := [.o ⟨(some 10), none, false, .idxA 1 (.t 6) (.t 8), none⟩, .o ⟨(some 11), none, false, .load 1 false (.t 10), none⟩, .o ⟨(some 5), none, false, .mv (.t 11), (some [3, 5, 6, 7, 8])⟩]
abbrev k43_o5 : List AJ := [.o ⟨(some 12), none, false, .mv (.t 5), none⟩, .o ⟨(some 13), none, false, .mv (.t 3), none⟩, .o ⟨(some 14), none, false, .bin .neq (.t 12) (.t 13), (some [3, 5, 6, 7, 8, 14])⟩]
abbrev k43_o6 : List AJ := [.o ⟨(some 15), none, false, .mv (.t 5), none⟩, .o ⟨(some 2), none, false, .mv (.t 15), (some [2])⟩]
def k43_8 : ACode := .seq (.region k43_o6) .ret
def k43_9 : ACode := .cond (.t 14) k43_8 .skip
def k43_10 : ACode := .seq (.region k43_o5) k43_9
def k43_11 : ACode := .seq (.region k43_o4) k43_10
abbrev k43_o7 : List AJ := [.o ⟨(some 16), none, true, .bin .add (.t 8) (.c (.int .i64 1)), none⟩, .o ⟨(some 8), none, false, .mv (.t 16), (some [3, 6, 7, 8])⟩]
def k43_13 : ACode := .region k43_o7
def k43_14 : ACode := .seq (.block 1 k43_11) k43_13
def k43_15 : ACode := .seq (.cond (.t 9) .skip (.exit 0)) k43_14
def k43_16 : ACode := .seq (.region k43_o3) k43_15
def k43_17 : ACode := .loop k43_16
def k43_18 : ACode := .block 0 k43_17
def k43_19 : ACode := .seq (.region k43_o2) k43_18
abbrev k43_o8 : List AJ := [.o ⟨(some 17), none, false, .mv (.t 3), none⟩, .o ⟨(some 2), none, false, .mv (.t 17), (some [2])⟩]
def k43_21 : ACode := .seq (.region k43_o8) .ret
def k43_22 : ACode := .seq k43_19 k43_21
def k43_23 : ACode := .seq (.region k43_o1) k43_22
def k43_24 : ACode := .seq (.region k43_o0) k43_23
@[simp, simp ↓] theorem k43_8r : sR k43_8 k43_o6 .ret := yR rfl
@[simp, simp ↓] theorem k43_9r : rC k43_9 (.t 14) k43_8 .skip := zC rfl
@[simp, simp ↓] theorem k43_10r : sR k43_10 k43_o5 k43_9 := yR rfl
@[simp, simp ↓] theorem k43_11r : sR k43_11 k43_o4 k43_10 := yR rfl
@[simp, simp ↓] theorem k43_13r : rR k43_13 k43_o7 := zR rfl
@[simp, simp ↓] theorem k43_14r : sB k43_14 1 k43_11 k43_13 := yB rfl
@[simp, simp ↓] theorem k43_15r : sC k43_15 (.t 9) .skip (.exit 0) k43_14 := yC rfl
@[simp, simp ↓] theorem k43_16r : sR k43_16 k43_o3 k43_15 := yR rfl
@[simp, simp ↓] theorem k43_17r : rL k43_17 k43_16 := zL rfl
@[simp, simp ↓] theorem k43_18r : rB k43_18 0 k43_17 := zB rfl
@[simp, simp ↓] theorem k43_19r : sR k43_19 k43_o2 k43_18 := yR rfl
@[simp, simp ↓] theorem k43_21r : sR k43_21 k43_o8 .ret := yR rfl
@[simp, simp ↓] theorem k43_22r : rS k43_22 k43_19 k43_21 := zS rfl
@[simp, simp ↓] theorem k43_23r : sR k43_23 k43_o1 k43_22 := yR rfl
@[simp, simp ↓] theorem k43_24r : sR k43_24 k43_o0 k43_23 := yR rfl
noncomputable abbrev k43_C : Orc → Cx := mkC Tryz.prog [] 43 18 [.tmp 2]
theorem k43_of0 : OfP0 Tryz.prog Tryz.f43 43 18 k43_C k43_24 := @ofP0 _ _ _ _ _ _ _ _ Tryz.func43 (by decide +kernel) rfl (by kernel_rfl) rfl (by kernel_rfl)
theorem or_c (l : List Int) (h : Heap) (hl : l.length ≤ 1048576) : ACalls Tryz.prog 43 [.snap 1 (l.map fun n => .int .i64 n)] h (fun v h' => v = .int .i64 (orI l) ∧ h' = h) := by
  refine k43_of0 rfl noPure fun I => ?_
  refine Run2.of I 1000 ?_
  simp -implicitDefEqProofs
  refine Run2.loop (fun i => [(3, .int .i64 0), (6, .snap 1 (l.map fun n => .int .i64 n)), (7, .int .i64 l.length), (8, .int .i64 (i : Nat))]) (fun i => h) (fun i => l.length - i) (fun i => i ≤ l.length ∧ orI (l.drop i) = orI l) 0 (by simp) fun i hi ih => ?_
  by_cases hlt : i < l.length
  · have hd : l.drop i = l[i] :: l.drop (i + 1) := List.drop_eq_getElem_cons hlt
    refine Run2.of I 1000 ?_
    simp -implicitDefEqProofs [hlt]
    constructor
    · intro hne
      rw [← hi.2, hd, orI, if_neg hne]
    · intro he
      refine ⟨by omega, ?_⟩
      have := ih (i + 1) ⟨by omega, by rw [← hi.2, hd, orI, if_pos he]⟩ (by omega)
      simpa using this
  · have : i = l.length := by omega
    have h2 := hi.2
    rw [List.drop_of_length_le (by omega)] at h2
    refine Run2.of I 1000 ?_
    simp -implicitDefEqProofs [hlt]
    exact h2
noncomputable def o_or2 : List AV → Option (Prop × AV) := tab (fun (x : Int × Int) => match x with | (a, b) => [.snap 1 [.int .i64 a, .int .i64 b]]) (fun x => match x with | (a, b) => True) (fun x => match x with | (a, b) => .int .i64 (orI [a, b]))
@[simp] theorem o_or2_e (a : Int) (b : Int) : o_or2 [.snap 1 [.int .i64 a, .int .i64 b]] = some (True, .int .i64 (orI [a, b])) := tab_at (enc := fun (x : Int × Int) => match x with | (a, b) => [.snap 1 [.int .i64 a, .int .i64 b]]) (fun x y h => by
  obtain ⟨a1, b1⟩ := x; obtain ⟨a2, b2⟩ := y; simp at h; simp [h] <;> omega) _ _ (a, b)
theorem o_or2_k : Knows Tryz.prog 43 o_or2 := tab_knows fun x hx h => by
  obtain ⟨a, b⟩ := x; exact or_c [a, b] h (by simp)
end Go.AG.P
namespace Go.AG.P
open Go.Proofs Go.Proofs.YtgofekmoimjcmaaGreatDoor
set_option linter.unusedSimpArgs false
set_option linter.unusedVariables false
set_option maxRecDepth 4000
noncomputable def orc2 : List (Nat × (List AV → Option (Prop × AV))) := (42, o_isElement) :: (44, o_compare) :: (43, o_or2) :: orc1
theorem orc2_p : Pure Tryz.prog (lk orc2) := (lk_pure o_isElement_k (lk_pure o_compare_k (lk_pure o_or2_k orc1_p)))
@[simp] theorem orc2_l (b : Bool) (g : FuncId) (l : List AV) : lk orc2 b g l = if g = 42 then o_isElement l else if g = 44 then o_compare l else if g = 43 then o_or2 l else lk orc1 b g l := nr rfl
theorem orI2 (a b c d : Int) : (0 ≤ orI [cmpI a b, cmpI c d]) ↔ ¬ (a < b ∨ a = b ∧ c < d) := by
  simp only [orI, cmpI]
  grind
theorem orI2' (a b c d : Int) : (orI [cmpI a b, cmpI c d] < 0) ↔ (a < b ∨ a = b ∧ c < d) := by
  simp only [orI, cmpI]
  grind
/-- One edge is as it must be. -/
def Ph.el (x : Ph) (t : T) : Prop := 0 ≤ t.f ∧ t.f < t.t ∧ t.t < x.n ∧ 0 ≤ t.s ∧ t.s < x.m
def T.lt (a b : T) : Prop := a.f < b.f ∨ a.f = b.f ∧ a.t < b.t
/-- The first i edges are as they must be, in order. -/
def Ph.good (x : Ph) (i : Nat) : Prop := ∀ j, (hj : j < x.ts.length) → j < i → x.el x.ts[j] ∧ (0 < j → (x.ts[j - 1]).lt x.ts[j])
def Ph.valid (x : Ph) : Prop := 1 ≤ x.n ∧ x.n ≤ 12 ∧ 2 ≤ x.m ∧ x.m ≤ 360 ∧ x.good x.ts.length ∧ x.ts.length ≤ 24
noncomputable instance (x : Ph) : Decidable x.valid := Classical.propDecidable _
theorem Ph.good_succ {x : Ph} {i : Nat} (hi : i < x.ts.length) : x.good (i + 1) ↔ x.good i ∧ x.el x.ts[i] ∧ (0 < i → (x.ts[i - 1]).lt x.ts[i]) := by
  constructor
  · intro h
    exact ⟨fun j hj hji => h j hj (by omega), h i hi (by omega)⟩
  · rintro ⟨h1, h2⟩ j hj hji
    rcases Nat.lt_or_ge j i with h | h
    · exact h1 j hj h
    · obtain rfl : j = i := by omega
      exact h2
theorem Ph.good_mono {x : Ph} {i j : Nat} (h : x.good j) (hij : i ≤ j) : x.good i := fun k hk hki => h k hk (by omega)
theorem Ph.not_valid {x : Ph} {i : Nat} (hi : i < x.ts.length) (h : ¬ (x.el x.ts[i] ∧ (0 < i → (x.ts[i - 1]).lt x.ts[i]))) : ¬ x.valid := fun hv =>
  h ((Ph.good_succ hi).1 (Ph.good_mono hv.2.2.2.2.1 (by omega))).2
abbrev k33_o0 : List AJ := [.o ⟨(some 2), none, false, .mv (.c (.bool false)), (some [0])⟩]
abbrev k33_o1 : List AJ := [.o ⟨(some 5), none, false, .mv (.t 0), none⟩, .o ⟨(some 6), none, false, .nilchk (.t 5), none⟩, .o ⟨(some 7), none, false, .fieldA 0 (.t 6), none⟩, .o ⟨(some 8), none, false, .load 1 false (.t 7), none⟩, .o ⟨(some 9), none, false, .call 64 [(.t 8), (.c (.int .i64 1)), (.c (.int .i64 12))], none⟩, .o ⟨(some 10), none, false, .un .not (.t 9), none⟩, .o ⟨(some 11), none, false, .mv (.t 10), none⟩, .o ⟨(some 12), (some (11, false)), false, .mv (.t 0), none⟩, .o ⟨(some 13), (some (11, false)), false, .nilchk (.t 12), none⟩, .o ⟨(some 14), (some (11, false)), false, .fieldA 1 (.t 13), none⟩, .o ⟨(some 15), (some (11, false)), false, .load 1 false (.t 14), (some [0, 11, 15])⟩, .o ⟨(some 16), (some (11, false)), false, .call 64 [(.t 15), (.c (.int .i64 2)), (.c (.int .i64 360))], none⟩, .o ⟨(some 17), (some (11, false)), false, .un .not (.t 16), none⟩, .o ⟨(some 18), none, false, .pick (.t 11) (.c (.bool true)) (.t 17), (some [0, 18])⟩]
abbrev k33_o2 : List AJ := [.o ⟨(some 2), none, false, .mv (.c (.bool false)), (some [2])⟩]
def k33_3 : ACode := .seq (.region k33_o2) .ret
def k33_4 : ACode := .cond (.t 18) k33_3 .skip
def k33_5 : ACode := .seq (.region k33_o1) k33_4
abbrev k33_o3 : List AJ := [.o ⟨(some 3), none, false, .mv (.c (.int .i64 0)), (some [0, 3])⟩]
abbrev k33_o4 : List AJ := [.o ⟨(some 19), none, false, .mv (.t 3), none⟩, .o ⟨(some 20), none, false, .mv (.t 0), none⟩, .o ⟨(some 21), none, false, .nilchk (.t 20), none⟩, .o ⟨(some 22), none, false, .fieldA 2 (.t 21), none⟩, .o ⟨(some 23), none, false, .load 1 false (.t 22), none⟩, .o ⟨(some 24), none, false, .len (.t 23), none⟩, .o ⟨(some 25), none, false, .bin .lss (.t 19) (.t 24), (some [0, 3, 25])⟩]
def k33_8 : ACode := .cond (.t 25) .skip (.exit 0)
def k33_9 : ACode := .seq (.region k33_o4) k33_8
abbrev k33_o5 : List AJ := [.o ⟨(some 28), none, false, .mv (.t 0), none⟩, .o ⟨(some 29), none, false, .nilchk (.t 28), none⟩, .o ⟨(some 30), none, false, .fieldA 2 (.t 29), none⟩, .o ⟨(some 31), none, false, .load 1 false (.t 30), none⟩, .o ⟨(some 32), none, false, .mv (.t 3), none⟩, .o ⟨(some 33), none, false, .idxA 3 (.t 31) (.t 32), none⟩, .o ⟨(some 34), none, false, .load 3 true (.t 33), none⟩, .v 4 3 (.agg [(.int .i64 0), (.int .i64 0), (.int .i64 0)]) [] (.t 34) (some [0, 3, 4])]
abbrev k33_o6 : List AI := [⟨(some 35), none, false, .fieldA 0 (.t 4), none⟩, ⟨(some 36), none, false, .load 1 false (.t 35), none⟩, ⟨(some 37), none, false, .mv (.t 0), none⟩, ⟨(some 38), none, false, .nilchk (.t 37), none⟩, ⟨(some 39), none, false, .fieldA 0 (.t 38), none⟩, ⟨(some 40), none, false, .load 1 false (.t 39), none⟩, ⟨(some 41), none, true, .bin .sub (.t 40) (.c (.int .i64 1)), none⟩, ⟨(some 42), none, false, .call 64 [(.t 36), (.c (.int .i64 0)), (.t 41)], none⟩, ⟨(some 43), none, false, .un .not (.t 42), none⟩, ⟨(some 44), none, false, .mv (.t 43), none⟩, ⟨(some 45), (some (44, false)), false, .fieldA 1 (.t 4), none⟩, ⟨(some 46), (some (44, false)), false, .load 1 false (.t 45), (some [0, 3, 4, 44, 46])⟩, ⟨(some 47), (some (44, false)), false, .fieldA 0 (.t 4), none⟩, ⟨(some 48), (some (44, false)), false, .load 1 false (.t 47), none⟩, ⟨(some 49), (some (44, false)), true, .bin .add (.t 48) (.c (.int .i64 1)), none⟩, ⟨(some 50), (some (44, false)), false, .mv (.t 0), none⟩, ⟨(some 51), (some (44, false)), false, .nilchk (.t 50), none⟩, ⟨(some 52), (some (44, false)), false, .fieldA 0 (.t 51), none⟩, ⟨(some 53), (some (44, false)), false, .load 1 false (.t 52), (some [0, 3, 4, 44, 46, 49, 53])⟩, ⟨(some 54), (some (44, false)), true, .bin .sub (.t 53) (.c (.int .i64 1)), none⟩, ⟨(some 55), (some (44, false)), false, .call 64 [(.t 46), (.t 49), (.t 54)], none⟩, ⟨(some 56), (some (44, false)), false, .un .not (.t 55), none⟩, ⟨(some 57), none, false, .pick (.t 44) (.c (.bool true)) (.t 56), none⟩, ⟨(some 58), none, false, .mv (.t 57), none⟩, ⟨(some 59), (some (58, false)), false, .fieldA 2 (.t 4), none⟩, ⟨(some 60), (some (58, false)), false, .load 1 false (.t 59), none⟩, ⟨(some 61), (some (58, false)), false, .mv (.t 0), (some [0, 3, 4, 58, 60, 61])⟩, ⟨(some 62), (some (58, false)), false, .nilchk (.t 61), none⟩, ⟨(some 63), (some (58, false)), false, .fieldA 1 (.t 62), none⟩, ⟨(some 64), (some (58, false)), false, .load 1 false (.t 63), none⟩, ⟨(some 65), (some (58, false)), true, .bin .sub (.t 64) (.c (.int .i64 1)), none⟩, ⟨(some 66), (some (58, false)), false, .call 64 [(.t 60), (.c (.int .i64 0)), (.t 65)], none⟩, ⟨(some 67), (some (58, false)), false, .un .not (.t 66), none⟩, ⟨(some 68), none, false, .pick (.t 58) (.c (.bool true)) (.t 67), (some [0, 3, 4, 68])⟩]
abbrev k33_o7 : List AJ := [.o ⟨(some 2), none, false, .mv (.c (.bool false)), (some [2])⟩]
def k33_13 : ACode := .seq (.region k33_o7) .ret
def k33_14 : ACode := .cond (.t 68) k33_13 .skip
def k33_15 : ACode := .seq (.draw k33_o6 [] rfl) k33_14
abbrev k33_o8 : List AI := [⟨(some 69), none, false, .mv (.t 3), none⟩, ⟨(some 70), none, false, .bin .gtr (.t 69) (.c (.int .i64 0)), none⟩, ⟨(some 71), none, false, .mv (.t 70), none⟩, ⟨(some 72), (some (71, true)), false, .mv (.t 0), none⟩, ⟨(some 73), (some (71, true)), false, .nilchk (.t 72), none⟩, ⟨(some 74), (some (71, true)), false, .fieldA 2 (.t 73), none⟩, ⟨(some 75), (some (71, true)), false, .load 1 false (.t 74), none⟩, ⟨(some 76), (some (71, true)), false, .mv (.t 3), none⟩, ⟨(some 77), (some (71, true)), true, .bin .sub (.t 76) (.c (.int .i64 1)), (some [0, 3, 4, 71, 75, 77])⟩, ⟨(some 78), (some (71, true)), false, .idxA 3 (.t 75) (.t 77), none⟩, ⟨(some 79), (some (71, true)), false, .fieldA 0 (.t 78), none⟩, ⟨(some 80), (some (71, true)), false, .load 1 false (.t 79), none⟩, ⟨(some 81), (some (71, true)), false, .fieldA 0 (.t 4), none⟩, ⟨(some 82), (some (71, true)), false, .load 1 false (.t 81), none⟩, ⟨(some 83), (some (71, true)), false, .bin .gtr (.t 80) (.t 82), none⟩, ⟨(some 84), (some (71, true)), false, .mv (.t 83), (some [0, 3, 4, 71, 84])⟩, ⟨(some 85), (some (84, false)), false, .mv (.t 0), none⟩, ⟨(some 86), (some (84, false)), false, .nilchk (.t 85), none⟩, ⟨(some 87), (some (84, false)), false, .fieldA 2 (.t 86), none⟩, ⟨(some 88), (some (84, false)), false, .load 1 false (.t 87), none⟩, ⟨(some 89), (some (84, false)), false, .mv (.t 3), none⟩, ⟨(some 90), (some (84, false)), true, .bin .sub (.t 89) (.c (.int .i64 1)), none⟩, ⟨(some 91), (some (84, false)), false, .idxA 3 (.t 88) (.t 90), (some [0, 3, 4, 71, 84, 91])⟩, ⟨(some 92), (some (84, false)), false, .fieldA 0 (.t 91), none⟩, ⟨(some 93), (some (84, false)), false, .load 1 false (.t 92), none⟩, ⟨(some 94), (some (84, false)), false, .fieldA 0 (.t 4), none⟩, ⟨(some 95), (some (84, false)), false, .load 1 false (.t 94), none⟩, ⟨(some 96), (some (84, false)), false, .bin .eql (.t 93) (.t 95), none⟩, ⟨(some 97), (some (84, false)), false, .mv (.t 96), none⟩, ⟨(some 98), (some (97, true)), false, .mv (.t 0), (some [0, 3, 4, 71, 84, 97, 98])⟩, ⟨(some 99), (some (97, true)), false, .nilchk (.t 98), none⟩, ⟨(some 100), (some (97, true)), false, .fieldA 2 (.t 99), none⟩, ⟨(some 101), (some (97, true)), false, .load 1 false (.t 100), none⟩, ⟨(some 102), (some (97, true)), false, .mv (.t 3), none⟩, ⟨(some 103), (some (97, true)), true, .bin .sub (.t 102) (.c (.int .i64 1)), none⟩, ⟨(some 104), (some (97, true)), false, .idxA 3 (.t 101) (.t 103), none⟩, ⟨(some 105), (some (97, true)), false, .fieldA 1 (.t 104), (some [0, 3, 4, 71, 84, 97, 105])⟩, ⟨(some 106), (some (97, true)), false, .load 1 false (.t 105), none⟩, ⟨(some 107), (some (97, true)), false, .fieldA 1 (.t 4), none⟩, ⟨(some 108), (some (97, true)), false, .load 1 false (.t 107), none⟩, ⟨(some 109), (some (97, true)), false, .bin .geq (.t 106) (.t 108), none⟩, ⟨(some 110), (some (84, false)), false, .pick (.t 97) (.t 109) (.c (.bool false)), none⟩, ⟨(some 111), (some (71, true)), false, .pick (.t 84) (.c (.bool true)) (.t 110), none⟩, ⟨(some 112), none, false, .pick (.t 71) (.t 111) (.c (.bool false)), (some [0, 3, 112])⟩]
abbrev k33_o9 : List AJ := [.o ⟨(some 2), none, false, .mv (.c (.bool false)), (some [2])⟩]
def k33_18 : ACode := .seq (.region k33_o9) .ret
def k33_19 : ACode := .cond (.t 112) k33_18 .skip
def k33_20 : ACode := .seq (.draw k33_o8 [] rfl) k33_19
def k33_21 : ACode := .seq k33_15 k33_20
def k33_22 : ACode := .seq (.region k33_o5) k33_21
abbrev k33_o10 : List AJ := [.o ⟨(some 26), none, false, .mv (.t 3), none⟩, .o ⟨(some 27), none, true, .bin .add (.t 26) (.c (.int .i64 1)), none⟩, .o ⟨(some 3), none, false, .mv (.t 27), (some [0, 3])⟩]
def k33_24 : ACode := .region k33_o10
def k33_25 : ACode := .seq (.block 1 k33_22) k33_24
def k33_26 : ACode := .seq k33_9 k33_25
def k33_27 : ACode := .loop k33_26
def k33_28 : ACode := .block 0 k33_27
def k33_29 : ACode := .seq (.region k33_o3) k33_28
abbrev k33_o11 : List AJ := [.o ⟨(some 113), none, false, .mv (.t 0), none⟩, .o ⟨(some 114), none, false, .nilchk (.t 113), none⟩, .o ⟨(some 115), none, false, .fieldA 2 (.t 114), none⟩, .o ⟨(some 116), none, false, .load 1 false (.t 115), none⟩, .o ⟨(some 117), none, false, .len (.t 116), none⟩, .o ⟨(some 118), none, false, .bin .leq (.t 117) (.c (.int .i64 24)), none⟩, .o ⟨(some 2), none, false, .mv (.t 118), (some [2])⟩]
def k33_31 : ACode := .seq (.region k33_o11) .ret
def k33_32 : ACode := .seq k33_29 k33_31
def k33_33 : ACode := .seq k33_5 k33_32
def k33_34 : ACode := .seq (.region k33_o0) k33_33
@[simp, simp ↓] theorem k33_3r : sR k33_3 k33_o2 .ret := yR rfl
@[simp, simp ↓] theorem k33_4r : rC k33_4 (.t 18) k33_3 .skip := zC rfl
@[simp, simp ↓] theorem k33_5r : sR k33_5 k33_o1 k33_4 := yR rfl
@[simp, simp ↓] theorem k33_8r : rC k33_8 (.t 25) .skip (.exit 0) := zC rfl
@[simp, simp ↓] theorem k33_9r : sR k33_9 k33_o4 k33_8 := yR rfl
@[simp, simp ↓] theorem k33_13r : sR k33_13 k33_o7 .ret := yR rfl
@[simp, simp ↓] theorem k33_14r : rC k33_14 (.t 68) k33_13 .skip := zC rfl
@[simp, simp ↓] theorem k33_15r : sD k33_15 k33_o6 [] k33_14 := yD rfl
@[simp, simp ↓] theorem k33_18r : sR k33_18 k33_o9 .ret := yR rfl
@[simp, simp ↓] theorem k33_19r : rC k33_19 (.t 112) k33_18 .skip := zC rfl
@[simp, simp ↓] theorem k33_20r : sD k33_20 k33_o8 [] k33_19 := yD rfl
@[simp, simp ↓] theorem k33_21r : rS k33_21 k33_15 k33_20 := zS rfl
@[simp, simp ↓] theorem k33_22r : sR k33_22 k33_o5 k33_21 := yR rfl
@[simp, simp ↓] theorem k33_24r : rR k33_24 k33_o10 := zR rfl
@[simp, simp ↓] theorem k33_25r : sB k33_25 1 k33_22 k33_24 := yB rfl
@[simp, simp ↓] theorem k33_26r : rS k33_26 k33_9 k33_25 := zS rfl
@[simp, simp ↓] theorem k33_27r : rL k33_27 k33_26 := zL rfl
@[simp, simp ↓] theorem k33_28r : rB k33_28 0 k33_27 := zB rfl
@[simp, simp ↓] theorem k33_29r : sR k33_29 k33_o3 k33_28 := yR rfl
@[simp, simp ↓] theorem k33_31r : sR k33_31 k33_o11 .ret := yR rfl
@[simp, simp ↓] theorem k33_32r : rS k33_32 k33_29 k33_31 := zS rfl
@[simp, simp ↓] theorem k33_33r : rS k33_33 k33_5 k33_32 := zS rfl
@[simp, simp ↓] theorem k33_34r : sR k33_34 k33_o0 k33_33 := yR rfl
noncomputable abbrev k33_C : Orc → Cx := mkC Tryz.prog [4] 33 119 [.tmp 2]
theorem k33_of0 : OfP0 Tryz.prog Tryz.f33 33 119 k33_C k33_34 := @ofP0 _ _ _ _ _ _ _ _ Tryz.func33 (by decide +kernel) rfl (by kernel_rfl) rfl (by kernel_rfl)
theorem l23Ok_cL (x : Ph) (h : Heap) (hl : x.ts.length ≤ 4194304) (ok : x.ok) : ACalls Tryz.prog 33 [.ip [.int .i64 x.n, .int .i64 x.m, .snap 3 (x.ts.map T.av)]] h (fun v h' => v = .bool (decide x.valid) ∧ h' = h) := by
  refine k33_of0 rfl orc1_p fun I => ?_
  refine Run2.of I 1000 ?_
  simp -implicitDefEqProofs
  refine ⟨fun n1 n2 => ⟨fun hm hv => ?_, fun m1 m2 => ?_⟩, fun hn hv => ?_⟩
  · have := hv.2.2.1; have := hv.2.2.2.1; omega
  · refine Run2.loop (fun i => [(0, .ip [.int .i64 x.n, .int .i64 x.m, .snap 3 (x.ts.map T.av)]), (3, .int .i64 (i : Nat))]) (fun i => h) (fun i => x.ts.length - i) (fun i => i ≤ x.ts.length ∧ x.good i) 0 ⟨Nat.zero_le _, fun _ _ h => absurd h (Nat.not_lt_zero _)⟩ fun i hi ih => ?_
    by_cases hlt : i < x.ts.length
    · have hok := ok.2.2 _ (List.getElem_mem hlt)
      have hbad := Ph.not_valid hlt
      have go := fun h1 => ih (i + 1) ⟨by omega, (Ph.good_succ hlt).2 ⟨hi.2, h1⟩⟩ (by omega)
      clear ih
      refine Run2.of I 1000 ?_
      cases i with
      | zero =>
        simp -implicitDefEqProofs [hlt]
        simp [Ph.el, T.lt] at go hbad
        grind
      | succ i =>
        have hlt' : i < x.ts.length := by omega
        have hc : ((i : Int) + 1 - 1).toNat = i := by omega
        simp -implicitDefEqProofs [hlt, hlt', hc]
        simp [Ph.el, T.lt] at go hbad
        repeat' (first | refine And.intro ?_ ?_ | intro _)
        all_goals first | omega | grind
    · obtain rfl : i = x.ts.length := by omega
      refine Run2.of I 1000 ?_
      simp -implicitDefEqProofs
      simp [Ph.valid, n1, n2, m1, m2, hi.2]
      omega
  · have := hv.1; have := hv.2.1; omega
theorem wrap_m1 {n : Int} (h : 1 ≤ n ∧ n ≤ 9223372036854775807) : IntKind.i64.wrap (n - 1) = n - 1 := w64 (by omega)
/-- What the program asks of an edge: its modulus is looked at last. -/
def Ph.el' (x : Ph) (t : T) : Prop := 0 ≤ t.f ∧ t.f < t.t ∧ t.t < x.n ∧ 0 ≤ t.s ∧ t.s ≤ IntKind.i64.wrap (x.m - 1)
def Ph.good' (x : Ph) (i : Nat) : Prop := ∀ j, (hj : j < x.ts.length) → j < i → x.el' x.ts[j] ∧ (0 < j → (x.ts[j - 1]).lt x.ts[j])
theorem Ph.good_iff {x : Ph} (h : 1 ≤ x.m ∧ x.m ≤ 360) (i : Nat) : x.good' i ↔ x.good i := by
  have : IntKind.i64.wrap (x.m - 1) = x.m - 1 := wrap_m1 (by omega)
  unfold Ph.good' Ph.good Ph.el' Ph.el
  rw [this]
  constructor
  · intro H j hj hji
    obtain ⟨h1, h2⟩ := H j hj hji
    exact ⟨by omega, h2⟩
  · intro H j hj hji
    obtain ⟨h1, h2⟩ := H j hj hji
    exact ⟨by omega, h2⟩
theorem Ph.good_succ' {x : Ph} {i : Nat} (hi : i < x.ts.length) : x.good' (i + 1) ↔ x.good' i ∧ x.el' x.ts[i] ∧ (0 < i → (x.ts[i - 1]).lt x.ts[i]) := by
  constructor
  · intro h
    exact ⟨fun j hj hji => h j hj (by omega), h i hi (by omega)⟩
  · rintro ⟨h1, h2⟩ j hj hji
    rcases Nat.lt_or_ge j i with h | h
    · exact h1 j hj h
    · obtain rfl : j = i := by omega
      exact h2
theorem Ph.not_valid' {x : Ph} {i : Nat} (hi : i < x.ts.length) (h : ¬ (x.el' x.ts[i] ∧ (0 < i → (x.ts[i - 1]).lt x.ts[i]))) : ¬ x.valid := fun hv =>
  h ((Ph.good_succ' hi).1 (fun k hk hki => (Ph.good_iff ⟨by have := hv.2.2.1; omega, hv.2.2.2.1⟩ _).2 hv.2.2.2.2.1 k hk (by omega))).2
abbrev k21_o0 : List AJ := [.o ⟨(some 1), none, false, .box false 3 (.t 0), none⟩, .o ⟨(some 2), none, false, .mv (.c (.bool false)), (some [1])⟩]
abbrev k21_o1 : List AJ := [.o ⟨(some 5), none, false, .fieldA 2 (.t 1), none⟩, .o ⟨(some 6), none, false, .load 1 false (.t 5), none⟩, .o ⟨(some 7), none, false, .len (.t 6), none⟩, .o ⟨(some 8), none, false, .mv (.c (.int .i64 0)), (some [1, 6, 7, 8])⟩]
abbrev k21_o2 : List AJ := [.o ⟨(some 9), none, false, .bin .lss (.t 8) (.t 7), (some [1, 6, 7, 8, 9])⟩]
abbrev k21_o3 : List AJ := [.o ⟨(some 10), none, false, .mv (.t 8), none⟩, .o ⟨(some 11), none, false, .idxA 3 (.t 6) (.t 8), none⟩, .o ⟨(some 12), none, false, .load 3 true (.t 11), none⟩, .v 4 3 (.agg [(.int .i64 0), (.int .i64 0), (.int .i64 0)]) [(3, (.t 10))] (.t 12) (some [1, 3, 4, 6, 7, 8])]
abbrev k21_o4 : List AJ := [.o ⟨(some 13), none, false, .fieldA 0 (.t 4), none⟩, .o ⟨(some 14), none, false, .load 1 false (.t 13), none⟩, .o ⟨(some 15), none, false, .bin .lss (.t 14) (.c (.int .i64 0)), none⟩, .o ⟨(some 16), none, false, .mv (.t 15), none⟩, .o ⟨(some 17), (some (16, false)), false, .fieldA 0 (.t 4), none⟩, .o ⟨(some 18), (some (16, false)), false, .load 1 false (.t 17), none⟩, .o ⟨(some 19), (some (16, false)), false, .fieldA 1 (.t 4), none⟩, .o ⟨(some 20), (some (16, false)), false, .load 1 false (.t 19), none⟩, .o ⟨(some 21), (some (16, false)), false, .bin .geq (.t 18) (.t 20), (some [1, 3, 4, 6, 7, 8, 16, 21])⟩, .o ⟨(some 22), none, false, .pick (.t 16) (.c (.bool true)) (.t 21), none⟩, .o ⟨(some 23), none, false, .mv (.t 22), none⟩, .o ⟨(some 24), (some (23, false)), false, .fieldA 1 (.t 4), none⟩, .o ⟨(some 25), (some (23, false)), false, .load 1 false (.t 24), none⟩, .o ⟨(some 26), (some (23, false)), false, .fieldA 0 (.t 1), none⟩, .o ⟨(some 27), (some (23, false)), false, .load 1 false (.t 26), none⟩, .o ⟨(some 28), (some (23, false)), false, .bin .geq (.t 25) (.t 27), none⟩, .o ⟨(some 29), none, false, .pick (.t 23) (.c (.bool true)) (.t 28), none⟩, .o ⟨(some 30), none, false, .mv (.t 29), (some [1, 3, 4, 6, 7, 8, 30])⟩, .o ⟨(some 31), (some (30, false)), false, .fieldA 2 (.t 4), none⟩, .o ⟨(some 32), (some (30, false)), false, .load 1 false (.t 31), none⟩, .o ⟨(some 33), (some (30, false)), false, .fieldA 1 (.t 1), none⟩, .o ⟨(some 34), (some (30, false)), false, .load 1 false (.t 33), none⟩, .o ⟨(some 35), (some (30, false)), false, .call 42 [(.t 32), (.t 34)], none⟩, .o ⟨(some 36), (some (30, false)), false, .un .not (.t 35), none⟩, .o ⟨(some 37), none, false, .pick (.t 30) (.c (.bool true)) (.t 36), (some [1, 3, 4, 6, 7, 8, 37])⟩]
abbrev k21_o5 : List AJ := [.o ⟨(some 2), none, false, .mv (.c (.bool false)), (some [2])⟩]
def k21_7 : ACode := .seq (.region k21_o5) .ret
def k21_8 : ACode := .cond (.t 37) k21_7 .skip
def k21_9 : ACode := .seq (.region k21_o4) k21_8
abbrev k21_o6 : List AI := [⟨(some 38), none, false, .mv (.t 3), none⟩, ⟨(some 39), none, false, .bin .gtr (.t 38) (.c (.int .i64 0)), none⟩, ⟨(some 40), none, false, .mv (.t 39), none⟩, ⟨(some 41), (some (40, true)), false, .fieldA 2 (.t 1), none⟩, ⟨(some 42), (some (40, true)), false, .load 1 false (.t 41), none⟩, ⟨(some 43), (some (40, true)), false, .mv (.t 3), none⟩, ⟨(some 44), (some (40, true)), true, .bin .sub (.t 43) (.c (.int .i64 1)), none⟩, ⟨(some 45), (some (40, true)), false, .idxA 3 (.t 42) (.t 44), none⟩, ⟨(some 46), (some (40, true)), false, .fieldA 0 (.t 45), (some [1, 3, 4, 6, 7, 8, 40, 46])⟩, ⟨(some 47), (some (40, true)), false, .load 1 false (.t 46), none⟩, ⟨(some 48), (some (40, true)), false, .fieldA 0 (.t 4), none⟩, ⟨(some 49), (some (40, true)), false, .load 1 false (.t 48), none⟩, ⟨(some 50), (some (40, true)), false, .call 44 [(.t 47), (.t 49)], none⟩, ⟨(some 51), (some (40, true)), false, .fieldA 2 (.t 1), none⟩, ⟨(some 52), (some (40, true)), false, .load 1 false (.t 51), none⟩, ⟨(some 53), (some (40, true)), false, .mv (.t 3), (some [1, 4, 6, 7, 8, 40, 50, 52, 53])⟩, ⟨(some 54), (some (40, true)), true, .bin .sub (.t 53) (.c (.int .i64 1)), none⟩, ⟨(some 55), (some (40, true)), false, .idxA 3 (.t 52) (.t 54), none⟩, ⟨(some 56), (some (40, true)), false, .fieldA 1 (.t 55), none⟩, ⟨(some 57), (some (40, true)), false, .load 1 false (.t 56), none⟩, ⟨(some 58), (some (40, true)), false, .fieldA 1 (.t 4), none⟩, ⟨(some 59), (some (40, true)), false, .load 1 false (.t 58), none⟩, ⟨(some 60), (some (40, true)), false, .call 44 [(.t 57), (.t 59)], (some [1, 6, 7, 8, 40, 50, 60])⟩, ⟨(some 61), (some (40, true)), false, .bsl false 1 [(.t 50), (.t 60)], none⟩, ⟨(some 62), (some (40, true)), false, .call 43 [(.t 61)], none⟩, ⟨(some 63), (some (40, true)), false, .bin .geq (.t 62) (.c (.int .i64 0)), none⟩, ⟨(some 64), none, false, .pick (.t 40) (.t 63) (.c (.bool false)), (some [1, 6, 7, 8, 64])⟩]
abbrev k21_o7 : List AJ := [.o ⟨(some 2), none, false, .mv (.c (.bool false)), (some [2])⟩]
def k21_12 : ACode := .seq (.region k21_o7) .ret
def k21_13 : ACode := .cond (.t 64) k21_12 .skip
def k21_14 : ACode := .seq (.draw k21_o6 [] rfl) k21_13
def k21_15 : ACode := .seq k21_9 k21_14
def k21_16 : ACode := .seq (.region k21_o3) k21_15
abbrev k21_o8 : List AJ := [.o ⟨(some 65), none, true, .bin .add (.t 8) (.c (.int .i64 1)), none⟩, .o ⟨(some 8), none, false, .mv (.t 65), (some [1, 6, 7, 8])⟩]
def k21_18 : ACode := .region k21_o8
def k21_19 : ACode := .seq (.block 1 k21_16) k21_18
def k21_20 : ACode := .seq (.cond (.t 9) .skip (.exit 0)) k21_19
def k21_21 : ACode := .seq (.region k21_o2) k21_20
def k21_22 : ACode := .loop k21_21
def k21_23 : ACode := .block 0 k21_22
def k21_24 : ACode := .seq (.region k21_o1) k21_23
abbrev k21_o9 : List AJ := [.o ⟨(some 66), none, false, .fieldA 0 (.t 1), none⟩, .o ⟨(some 67), none, false, .load 1 false (.t 66), none⟩, .o ⟨(some 68), none, false, .call 45 [(.t 67), (.c (.int .i64 1)), (.c (.int .i64 12))], none⟩, .o ⟨(some 69), none, false, .mv (.t 68), none⟩, .o ⟨(some 70), (some (69, true)), false, .fieldA 1 (.t 1), none⟩, .o ⟨(some 71), (some (69, true)), false, .load 1 false (.t 70), none⟩, .o ⟨(some 72), (some (69, true)), false, .call 45 [(.t 71), (.c (.int .i64 2)), (.c (.int .i64 360))], none⟩, .o ⟨(some 73), none, false, .pick (.t 69) (.t 72) (.c (.bool false)), none⟩, .o ⟨(some 74), none, false, .mv (.t 73), none⟩, .o ⟨(some 75), (some (74, true)), false, .fieldA 2 (.t 1), (some [74, 75])⟩, .o ⟨(some 76), (some (74, true)), false, .load 1 false (.t 75), none⟩, .o ⟨(some 77), (some (74, true)), false, .len (.t 76), none⟩, .o ⟨(some 78), (some (74, true)), false, .bin .leq (.t 77) (.c (.int .i64 24)), none⟩, .o ⟨(some 79), none, false, .pick (.t 74) (.t 78) (.c (.bool false)), none⟩, .o ⟨(some 2), none, false, .mv (.t 79), (some [2])⟩]
def k21_26 : ACode := .seq (.region k21_o9) .ret
def k21_27 : ACode := .seq k21_24 k21_26
def k21_28 : ACode := .seq (.region k21_o0) k21_27
@[simp, simp ↓] theorem k21_7r : sR k21_7 k21_o5 .ret := yR rfl
@[simp, simp ↓] theorem k21_8r : rC k21_8 (.t 37) k21_7 .skip := zC rfl
@[simp, simp ↓] theorem k21_9r : sR k21_9 k21_o4 k21_8 := yR rfl
@[simp, simp ↓] theorem k21_12r : sR k21_12 k21_o7 .ret := yR rfl
@[simp, simp ↓] theorem k21_13r : rC k21_13 (.t 64) k21_12 .skip := zC rfl
@[simp, simp ↓] theorem k21_14r : sD k21_14 k21_o6 [] k21_13 := yD rfl
@[simp, simp ↓] theorem k21_15r : rS k21_15 k21_9 k21_14 := zS rfl
@[simp, simp ↓] theorem k21_16r : sR k21_16 k21_o3 k21_15 := yR rfl
@[simp, simp ↓] theorem k21_18r : rR k21_18 k21_o8 := zR rfl
@[simp, simp ↓] theorem k21_19r : sB k21_19 1 k21_16 k21_18 := yB rfl
@[simp, simp ↓] theorem k21_20r : sC k21_20 (.t 9) .skip (.exit 0) k21_19 := yC rfl
@[simp, simp ↓] theorem k21_21r : sR k21_21 k21_o2 k21_20 := yR rfl
@[simp, simp ↓] theorem k21_22r : rL k21_22 k21_21 := zL rfl
@[simp, simp ↓] theorem k21_23r : rB k21_23 0 k21_22 := zB rfl
@[simp, simp ↓] theorem k21_24r : sR k21_24 k21_o1 k21_23 := yR rfl
@[simp, simp ↓] theorem k21_26r : sR k21_26 k21_o9 .ret := yR rfl
@[simp, simp ↓] theorem k21_27r : rS k21_27 k21_24 k21_26 := zS rfl
@[simp, simp ↓] theorem k21_28r : sR k21_28 k21_o0 k21_27 := yR rfl
noncomputable abbrev k21_C : Orc → Cx := mkC Tryz.prog [4] 21 80 [.tmp 2]
theorem k21_of0 : OfP0 Tryz.prog Tryz.f21 21 80 k21_C k21_28 := @ofP0 _ _ _ _ _ _ _ _ Tryz.func21 (by decide +kernel) rfl (by kernel_rfl) rfl (by kernel_rfl)
theorem valid_cL (x : Ph) (h : Heap) (hl : x.ts.length ≤ 4194304) (ok : x.ok) : ACalls Tryz.prog 21 [x.av] h (fun v h' => v = .bool (decide x.valid) ∧ h' = h) := by
  refine k21_of0 rfl orc2_p fun I => ?_
  refine Run2.of I 1000 ?_
  simp -implicitDefEqProofs
  refine Run2.loop (fun i => [(1, .ip [.int .i64 x.n, .int .i64 x.m, .snap 3 (x.ts.map T.av)]), (6, .snap 3 (x.ts.map T.av)), (7, .int .i64 x.ts.length), (8, .int .i64 (i : Nat))]) (fun i => h) (fun i => x.ts.length - i) (fun i => i ≤ x.ts.length ∧ x.good' i) 0 ⟨Nat.zero_le _, fun _ _ h => absurd h (Nat.not_lt_zero _)⟩ fun i hi ih => ?_
  by_cases hlt : i < x.ts.length
  · have hbad := Ph.not_valid' hlt
    have go := fun h1 => ih (i + 1) ⟨by omega, (Ph.good_succ' hlt).2 ⟨hi.2, h1⟩⟩ (by omega)
    clear ih
    refine Run2.of I 1000 ?_
    cases i with
    | zero =>
      simp -implicitDefEqProofs [hlt]
      simp [Ph.el', T.lt] at go hbad
      repeat' (first | refine And.intro ?_ ?_ | intro _)
      all_goals first | omega | grind
    | succ i =>
      have hlt' : i < x.ts.length := by omega
      have hc : ((i : Int) + 1 - 1).toNat = i := by omega
      simp -implicitDefEqProofs [hlt, hlt', hc]
      simp only [orI2, orI2']
      simp [Ph.el', T.lt] at go hbad
      repeat' (first | refine And.intro ?_ ?_ | intro _)
      all_goals first | omega | grind
  · obtain rfl : i = x.ts.length := by omega
    refine Run2.of I 1000 ?_
    simp -implicitDefEqProofs
    have hg := fun h1 h2 => (Ph.good_iff (x := x) ⟨h1, h2⟩ x.ts.length).1 hi.2
    unfold Ph.valid
    grind
theorem l23Ok_c (x : Ph) (h : Heap) (hl : x.ts.length ≤ 1048576) (ok : x.ok) : ACalls Tryz.prog 33 [.ip [.int .i64 x.n, .int .i64 x.m, .snap 3 (x.ts.map T.av)]] h (fun v h' => v = .bool (decide x.valid) ∧ h' = h) := l23Ok_cL x h (by omega) ok
theorem valid_c (x : Ph) (h : Heap) (hl : x.ts.length ≤ 1048576) (ok : x.ok) : ACalls Tryz.prog 21 [x.av] h (fun v h' => v = .bool (decide x.valid) ∧ h' = h) := valid_cL x h (by omega) ok
noncomputable def o_l23Ok : List AV → Option (Prop × AV) := tab (fun (x : Int × Int × List T) => match x with | (n, m, ts) => [.ip [.int .i64 n, .int .i64 m, .snap 3 (ts.map T.av)]]) (fun x => match x with | (n, m, ts) => (ts.length ≤ 1048576 ∧ Ph.ok ⟨n, m, ts⟩)) (fun x => match x with | (n, m, ts) => .bool (decide (Ph.valid ⟨n, m, ts⟩)))
@[simp] theorem o_l23Ok_e (n : Int) (m : Int) (ts : List T) : o_l23Ok [.ip [.int .i64 n, .int .i64 m, .snap 3 (ts.map T.av)]] = some ((ts.length ≤ 1048576 ∧ Ph.ok ⟨n, m, ts⟩), .bool (decide (Ph.valid ⟨n, m, ts⟩))) := tab_at (enc := fun (x : Int × Int × List T) => match x with | (n, m, ts) => [.ip [.int .i64 n, .int .i64 m, .snap 3 (ts.map T.av)]]) (fun x y h => by
  obtain ⟨n1, m1, ts1⟩ := x; obtain ⟨n2, m2, ts2⟩ := y; simp at h; simp [h] <;> omega) _ _ (n, m, ts)
theorem o_l23Ok_k : Knows Tryz.prog 33 o_l23Ok := tab_knows fun x hx h => by
  obtain ⟨n, m, ts⟩ := x; exact l23Ok_c ⟨n, m, ts⟩ h hx.1 hx.2
noncomputable def o_valid : List AV → Option (Prop × AV) := tab (fun (x : Int × Int × List T) => match x with | (n, m, ts) => [.agg [.int .i64 n, .int .i64 m, .snap 3 (ts.map T.av)]]) (fun x => match x with | (n, m, ts) => (ts.length ≤ 1048576 ∧ Ph.ok ⟨n, m, ts⟩)) (fun x => match x with | (n, m, ts) => .bool (decide (Ph.valid ⟨n, m, ts⟩)))
@[simp] theorem o_valid_e (n : Int) (m : Int) (ts : List T) : o_valid [.agg [.int .i64 n, .int .i64 m, .snap 3 (ts.map T.av)]] = some ((ts.length ≤ 1048576 ∧ Ph.ok ⟨n, m, ts⟩), .bool (decide (Ph.valid ⟨n, m, ts⟩))) := tab_at (enc := fun (x : Int × Int × List T) => match x with | (n, m, ts) => [.agg [.int .i64 n, .int .i64 m, .snap 3 (ts.map T.av)]]) (fun x y h => by
  obtain ⟨n1, m1, ts1⟩ := x; obtain ⟨n2, m2, ts2⟩ := y; simp at h; simp [h] <;> omega) _ _ (n, m, ts)
theorem o_valid_k : Knows Tryz.prog 21 o_valid := tab_knows fun x hx h => by
  obtain ⟨n, m, ts⟩ := x; exact valid_c ⟨n, m, ts⟩ h hx.1 hx.2
noncomputable def orcV : List (Nat × (List AV → Option (Prop × AV))) := (33, o_l23Ok) :: (21, o_valid) :: orc2
theorem orcV_p : Pure Tryz.prog (lk orcV) := (lk_pure o_l23Ok_k (lk_pure o_valid_k orc2_p))
@[simp] theorem orcV_l (b : Bool) (g : FuncId) (l : List AV) : lk orcV b g l = if g = 33 then o_l23Ok l else if g = 21 then o_valid l else lk orc2 b g l := nr rfl

end Go.AG.P
