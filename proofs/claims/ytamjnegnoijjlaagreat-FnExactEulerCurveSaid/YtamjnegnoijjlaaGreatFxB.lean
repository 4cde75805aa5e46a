/- Small functions of complexes, and what they give. No statement is made here. -/
import Derived.Test.YtamjnegnoijjlaaGreatFilA
import Derived.Test.YtamjnegnoijjlaaGreatAGLists2
namespace Go.AG
open Go.Proofs Go.Proofs.YtamjnegnoijjlaaGreat
set_option linter.unusedSimpArgs false
set_option linter.unusedVariables false
set_option maxRecDepth 4000
abbrev k26_o0 : List AJ := [.o ⟨(some 6), none, false, .mv (.c (.bool false)), (some [0, 1, 2])⟩]
abbrev k26_o1 : List AJ := [.o ⟨(some 7), none, false, .mv (.t 0), none⟩, .o ⟨(some 8), none, false, .mv (.t 1), none⟩, .o ⟨(some 9), none, false, .bin .geq (.t 7) (.t 8), none⟩, .o ⟨(some 10), none, false, .mv (.t 9), none⟩, .o ⟨(some 11), (some (10, true)), false, .mv (.t 0), none⟩, .o ⟨(some 12), (some (10, true)), false, .mv (.t 2), none⟩, .o ⟨(some 13), (some (10, true)), false, .bin .leq (.t 11) (.t 12), none⟩, .o ⟨(some 14), none, false, .pick (.t 10) (.t 13) (.c (.bool false)), none⟩, .o ⟨(some 6), none, false, .mv (.t 14), (some [6])⟩]
def k26_2 : ACode := .seq (.region k26_o1) .ret
def k26_3 : ACode := .seq (.region k26_o0) k26_2
@[simp, simp ↓] theorem k26_2r : sR k26_2 k26_o1 .ret := yR rfl
@[simp, simp ↓] theorem k26_3r : sR k26_3 k26_o0 k26_2 := yR rfl
noncomputable abbrev k26_C : Orc → Cx := mkC Tryz.prog [] 26 15 [.tmp 6]
theorem k26_of0 : OfP0 Tryz.prog Tryz.f26 26 15 k26_C k26_3 := @ofP0 _ _ _ _ _ _ _ _ Tryz.func26 (by decide +kernel) rfl (by kernel_rfl) rfl (by kernel_rfl)
theorem l00In_c (a b c : Int) (h : Heap) : ACalls Tryz.prog 26 [.int .i64 a, .int .i64 b, .int .i64 c] h (fun v h' => v = .bool (decide (b ≤ a) && decide (a ≤ c)) ∧ h' = h) := by
  refine k26_of0 rfl noPure fun I => ?_
  refine Run2.of I 1000 ?_
  simp -implicitDefEqProofs
  grind
noncomputable def o_l00In : List AV → Option (Prop × AV) := tab (fun (x : Int × Int × Int) => match x with | (a, b, c) => [.int .i64 a, .int .i64 b, .int .i64 c]) (fun x => match x with | (a, b, c) => True) (fun x => match x with | (a, b, c) => .bool (decide (b ≤ a) && decide (a ≤ c)))
@[simp] theorem o_l00In_e (a : Int) (b : Int) (c : Int) : o_l00In [.int .i64 a, .int .i64 b, .int .i64 c] = some (True, .bool (decide (b ≤ a) && decide (a ≤ c))) := tab_at (enc := fun (x : Int × Int × Int) => match x with | (a, b, c) => [.int .i64 a, .int .i64 b, .int .i64 c]) (fun x y h => by
  obtain ⟨a1, b1, c1⟩ := x; obtain ⟨a2, b2, c2⟩ := y; simp at h; simp [h] <;> omega) _ _ (a, b, c)
theorem o_l00In_k : Knows Tryz.prog 26 o_l00In := tab_knows fun x hx h => by
  obtain ⟨a, b, c⟩ := x; exact l00In_c _ _ _ h
abbrev k34_o0 : List AJ := [.o ⟨(some 6), none, false, .mv (.c (.bool false)), (some [0, 1, 2])⟩]
abbrev k34_o1 : List AJ := [.o ⟨(some 7), none, false, .mv (.t 0), none⟩, .o ⟨(some 8), none, false, .mv (.t 1), none⟩, .o ⟨(some 9), none, false, .bin .geq (.t 7) (.t 8), none⟩, .o ⟨(some 10), none, false, .mv (.t 9), none⟩, .o ⟨(some 11), (some (10, true)), false, .mv (.t 0), none⟩, .o ⟨(some 12), (some (10, true)), false, .mv (.t 2), none⟩, .o ⟨(some 13), (some (10, true)), false, .bin .leq (.t 11) (.t 12), none⟩, .o ⟨(some 14), none, false, .pick (.t 10) (.t 13) (.c (.bool false)), none⟩, .o ⟨(some 6), none, false, .mv (.t 14), (some [6])⟩]
def k34_2 : ACode := .seq (.region k34_o1) .ret
def k34_3 : ACode := .seq (.region k34_o0) k34_2
@[simp, simp ↓] theorem k34_2r : sR k34_2 k34_o1 .ret := yR rfl
@[simp, simp ↓] theorem k34_3r : sR k34_3 k34_o0 k34_2 := yR rfl
noncomputable abbrev k34_C : Orc → Cx := mkC Tryz.prog [] 34 15 [.tmp 6]
theorem k34_of0 : OfP0 Tryz.prog Tryz.f34 34 15 k34_C k34_3 := @ofP0 _ _ _ _ _ _ _ _ Tryz.func34 (by decide +kernel) rfl (by kernel_rfl) rfl (by kernel_rfl)
theorem within_c (a b c : Int) (h : Heap) : ACalls Tryz.prog 34 [.int .i64 a, .int .i64 b, .int .i64 c] h (fun v h' => v = .bool (decide (b ≤ a) && decide (a ≤ c)) ∧ h' = h) := by
  refine k34_of0 rfl noPure fun I => ?_
  refine Run2.of I 1000 ?_
  simp -implicitDefEqProofs
  grind
noncomputable def o_within : List AV → Option (Prop × AV) := tab (fun (x : Int × Int × Int) => match x with | (a, b, c) => [.int .i64 a, .int .i64 b, .int .i64 c]) (fun x => match x with | (a, b, c) => True) (fun x => match x with | (a, b, c) => .bool (decide (b ≤ a) && decide (a ≤ c)))
@[simp] theorem o_within_e (a : Int) (b : Int) (c : Int) : o_within [.int .i64 a, .int .i64 b, .int .i64 c] = some (True, .bool (decide (b ≤ a) && decide (a ≤ c))) := tab_at (enc := fun (x : Int × Int × Int) => match x with | (a, b, c) => [.int .i64 a, .int .i64 b, .int .i64 c]) (fun x y h => by
  obtain ⟨a1, b1, c1⟩ := x; obtain ⟨a2, b2, c2⟩ := y; simp at h; simp [h] <;> omega) _ _ (a, b, c)
theorem o_within_k : Knows Tryz.prog 34 o_within := tab_knows fun x hx h => by
  obtain ⟨a, b, c⟩ := x; exact within_c _ _ _ h
abbrev k144_o0 : List AJ := [.o ⟨(some 2), none, false, .mv (.c (.bool false)), (some [0])⟩]
abbrev k144_o1 : List AJ := [.o ⟨(some 3), none, false, .mv (.t 0), none⟩, .o ⟨(some 4), none, false, .mv (.t 0), none⟩, .o ⟨(some 5), none, false, .bin .neq (.t 3) (.t 4), none⟩, .o ⟨(some 2), none, false, .mv (.t 5), (some [2])⟩]
def k144_2 : ACode := .seq (.region k144_o1) .ret
def k144_3 : ACode := .seq (.region k144_o0) k144_2
@[simp, simp ↓] theorem k144_2r : sR k144_2 k144_o1 .ret := yR rfl
@[simp, simp ↓] theorem k144_3r : sR k144_3 k144_o0 k144_2 := yR rfl
noncomputable abbrev k144_C : Orc → Cx := mkC Tryz.prog [] 144 6 [.tmp 2]
theorem k144_of0 : OfP0 Tryz.prog Tryz.f144 144 6 k144_C k144_3 := @ofP0 _ _ _ _ _ _ _ _ Tryz.func144 (by decide +kernel) rfl (by kernel_rfl) rfl (by kernel_rfl)
theorem isNaN_c (a : Int) (h : Heap) : ACalls Tryz.prog 144 [.int .i64 a] h (fun v h' => v = .bool false ∧ h' = h) := by
  refine k144_of0 rfl noPure fun I => ?_
  refine Run2.of I 1000 ?_
  simp -implicitDefEqProofs
noncomputable def o_isNaN : List AV → Option (Prop × AV) := tab (fun (x : Int) => match x with | a => [.int .i64 a]) (fun x => match x with | a => True) (fun x => match x with | a => .bool false)
@[simp] theorem o_isNaN_e (a : Int) : o_isNaN [.int .i64 a] = some (True, .bool false) := tab_at (enc := fun (x : Int) => match x with | a => [.int .i64 a]) (fun x y h => by
  simp at h; simp [h] <;> omega) _ _ a
theorem o_isNaN_k : Knows Tryz.prog 144 o_isNaN := tab_knows fun x hx h => by
  exact isNaN_c _ h
abbrev k128_o0 : List AJ := [.o ⟨(some 2), none, false, .mv (.c (.bool false)), (some [0])⟩]
abbrev k128_o1 : List AJ := [.o ⟨(some 3), none, false, .mv (.t 0), none⟩, .o ⟨(some 4), none, false, .mv (.t 0), none⟩, .o ⟨(some 5), none, false, .bin .neq (.t 3) (.t 4), none⟩, .o ⟨(some 2), none, false, .mv (.t 5), (some [2])⟩]
def k128_2 : ACode := .seq (.region k128_o1) .ret
def k128_3 : ACode := .seq (.region k128_o0) k128_2
@[simp, simp ↓] theorem k128_2r : sR k128_2 k128_o1 .ret := yR rfl
@[simp, simp ↓] theorem k128_3r : sR k128_3 k128_o0 k128_2 := yR rfl
noncomputable abbrev k128_C : Orc → Cx := mkC Tryz.prog [] 128 6 [.tmp 2]
theorem k128_of0 : OfP0 Tryz.prog Tryz.f128 128 6 k128_C k128_3 := @ofP0 _ _ _ _ _ _ _ _ Tryz.func128 (by decide +kernel) rfl (by kernel_rfl) rfl (by kernel_rfl)
theorem isNaNi_c (a : Int) (h : Heap) : ACalls Tryz.prog 128 [.int .i64 a] h (fun v h' => v = .bool false ∧ h' = h) := by
  refine k128_of0 rfl noPure fun I => ?_
  refine Run2.of I 1000 ?_
  simp -implicitDefEqProofs
noncomputable def o_isNaNi : List AV → Option (Prop × AV) := tab (fun (x : Int) => match x with | a => [.int .i64 a]) (fun x => match x with | a => True) (fun x => match x with | a => .bool false)
@[simp] theorem o_isNaNi_e (a : Int) : o_isNaNi [.int .i64 a] = some (True, .bool false) := tab_at (enc := fun (x : Int) => match x with | a => [.int .i64 a]) (fun x y h => by
  simp at h; simp [h] <;> omega) _ _ a
theorem o_isNaNi_k : Knows Tryz.prog 128 o_isNaNi := tab_knows fun x hx h => by
  exact isNaNi_c _ h
noncomputable def orc1 : List (Nat × (List AV → Option (Prop × AV))) := (26, o_l00In) :: (34, o_within) :: (144, o_isNaN) :: (128, o_isNaNi) :: []
theorem orc1_p : Pure Tryz.prog (lk orc1) := (lk_pure o_l00In_k (lk_pure o_within_k (lk_pure o_isNaN_k (lk_pure o_isNaNi_k lk_pure0))))
@[simp] theorem orc1_l (b : Bool) (g : FuncId) (l : List AV) : lk orc1 b g l = if g = 26 then o_l00In l else if g = 34 then o_within l else if g = 144 then o_isNaN l else if g = 128 then o_isNaNi l else none := nr rfl
abbrev k129_o0 : List AJ := [.o ⟨(some 4), none, false, .mv (.c (.int .i64 0)), (some [0, 1])⟩]
abbrev k129_o1 : List AJ := [.o ⟨(some 7), none, false, .mv (.t 0), none⟩, .o ⟨(some 8), none, false, .call 144 [(.t 7)], none⟩, .o ⟨(some 5), none, false, .mv (.t 8), (some [0, 1, 5])⟩]
abbrev k129_o2 : List AJ := [.o ⟨(some 9), none, false, .mv (.t 1), none⟩, .o ⟨(some 10), none, false, .call 144 [(.t 9)], none⟩, .o ⟨(some 6), none, false, .mv (.t 10), (some [0, 1, 5, 6])⟩]
abbrev k129_o3 : List AJ := [.o ⟨(some 11), none, false, .mv (.t 5), (some [0, 1, 6, 11])⟩]
abbrev k129_o4 : List AJ := [.o ⟨(some 12), none, false, .mv (.t 6), (some [12])⟩]
abbrev k129_o5 : List AJ := [.o ⟨(some 4), none, false, .mv (.c (.int .i64 0)), (some [4])⟩]
def k129_6 : ACode := .seq (.region k129_o5) .ret
def k129_7 : ACode := .cond (.t 12) k129_6 .skip
def k129_8 : ACode := .seq (.region k129_o4) k129_7
abbrev k129_o6 : List AJ := [.o ⟨(some 4), none, false, .mv (.c (.int .i64 (-1))), (some [4])⟩]
def k129_10 : ACode := .seq (.region k129_o6) .ret
def k129_11 : ACode := .seq k129_8 k129_10
def k129_12 : ACode := .cond (.t 11) k129_11 .skip
def k129_13 : ACode := .seq (.region k129_o3) k129_12
abbrev k129_o7 : List AJ := [.o ⟨(some 13), none, false, .mv (.t 6), (some [0, 1, 13])⟩]
abbrev k129_o8 : List AJ := [.o ⟨(some 4), none, false, .mv (.c (.int .i64 1)), (some [4])⟩]
def k129_16 : ACode := .seq (.region k129_o8) .ret
def k129_17 : ACode := .cond (.t 13) k129_16 .skip
def k129_18 : ACode := .seq (.region k129_o7) k129_17
abbrev k129_o9 : List AJ := [.o ⟨(some 14), none, false, .mv (.t 0), none⟩, .o ⟨(some 15), none, false, .mv (.t 1), none⟩, .o ⟨(some 16), none, false, .bin .lss (.t 14) (.t 15), (some [0, 1, 16])⟩]
abbrev k129_o10 : List AJ := [.o ⟨(some 4), none, false, .mv (.c (.int .i64 (-1))), (some [4])⟩]
def k129_21 : ACode := .seq (.region k129_o10) .ret
def k129_22 : ACode := .cond (.t 16) k129_21 .skip
def k129_23 : ACode := .seq (.region k129_o9) k129_22
abbrev k129_o11 : List AJ := [.o ⟨(some 17), none, false, .mv (.t 0), none⟩, .o ⟨(some 18), none, false, .mv (.t 1), none⟩, .o ⟨(some 19), none, false, .bin .gtr (.t 17) (.t 18), (some [19])⟩]
abbrev k129_o12 : List AJ := [.o ⟨(some 4), none, false, .mv (.c (.int .i64 1)), (some [4])⟩]
def k129_26 : ACode := .seq (.region k129_o12) .ret
def k129_27 : ACode := .cond (.t 19) k129_26 .skip
def k129_28 : ACode := .seq (.region k129_o11) k129_27
abbrev k129_o13 : List AJ := [.o ⟨(some 4), none, false, .mv (.c (.int .i64 0)), (some [4])⟩]
def k129_30 : ACode := .seq (.region k129_o13) .ret
def k129_31 : ACode := .seq k129_28 k129_30
def k129_32 : ACode := .seq k129_23 k129_31
def k129_33 : ACode := .seq k129_18 k129_32
def k129_34 : ACode := .seq k129_13 k129_33
def k129_35 : ACode := .seq (.region k129_o2) k129_34
def k129_36 : ACode := .seq (.region k129_o1) k129_35
def k129_37 : ACode := .seq (.region k129_o0) k129_36
@[simp, simp ↓] theorem k129_6r : sR k129_6 k129_o5 .ret := yR rfl
@[simp, simp ↓] theorem k129_7r : rC k129_7 (.t 12) k129_6 .skip := zC rfl
@[simp, simp ↓] theorem k129_8r : sR k129_8 k129_o4 k129_7 := yR rfl
@[simp, simp ↓] theorem k129_10r : sR k129_10 k129_o6 .ret := yR rfl
@[simp, simp ↓] theorem k129_11r : rS k129_11 k129_8 k129_10 := zS rfl
@[simp, simp ↓] theorem k129_12r : rC k129_12 (.t 11) k129_11 .skip := zC rfl
@[simp, simp ↓] theorem k129_13r : sR k129_13 k129_o3 k129_12 := yR rfl
@[simp, simp ↓] theorem k129_16r : sR k129_16 k129_o8 .ret := yR rfl
@[simp, simp ↓] theorem k129_17r : rC k129_17 (.t 13) k129_16 .skip := zC rfl
@[simp, simp ↓] theorem k129_18r : sR k129_18 k129_o7 k129_17 := yR rfl
@[simp, simp ↓] theorem k129_21r : sR k129_21 k129_o10 .ret := yR rfl
@[simp, simp ↓] theorem k129_22r : rC k129_22 (.t 16) k129_21 .skip := zC rfl
@[simp, simp ↓] theorem k129_23r : sR k129_23 k129_o9 k129_22 := yR rfl
@[simp, simp ↓] theorem k129_26r : sR k129_26 k129_o12 .ret := yR rfl
@[simp, simp ↓] theorem k129_27r : rC k129_27 (.t 19) k129_26 .skip := zC rfl
@[simp, simp ↓] theorem k129_28r : sR k129_28 k129_o11 k129_27 := yR rfl
@[simp, simp ↓] theorem k129_30r : sR k129_30 k129_o13 .ret := yR rfl
@[simp, simp ↓] theorem k129_31r : rS k129_31 k129_28 k129_30 := zS rfl
@[simp, simp ↓] theorem k129_32r : rS k129_32 k129_23 k129_31 := zS rfl
@[simp, simp ↓] theorem k129_33r : rS k129_33 k129_18 k129_32 := zS rfl
@[simp, simp ↓] theorem k129_34r : rS k129_34 k129_13 k129_33 := zS rfl
@[simp, simp ↓] theorem k129_35r : sR k129_35 k129_o2 k129_34 := yR rfl
@[simp, simp ↓] theorem k129_36r : sR k129_36 k129_o1 k129_35 := yR rfl
@[simp, simp ↓] theorem k129_37r : sR k129_37 k129_o0 k129_36 := yR rfl
noncomputable abbrev k129_C : Orc → Cx := mkC Tryz.prog [] 129 20 [.tmp 4]
theorem k129_of0 : OfP0 Tryz.prog Tryz.f129 129 20 k129_C k129_37 := @ofP0 _ _ _ _ _ _ _ _ Tryz.func129 (by decide +kernel) rfl (by kernel_rfl) rfl (by kernel_rfl)
theorem compare_c (a b : Int) (h : Heap) : ACalls Tryz.prog 129 [.int .i64 a, .int .i64 b] h (fun v h' => v = .int .i64 (cmpZ a b) ∧ h' = h) := by
  refine k129_of0 rfl orc1_p fun I => ?_
  refine Run2.of I 1000 ?_
  simp -implicitDefEqProofs [cmpZ]
  grind
noncomputable def o_compare : List AV → Option (Prop × AV) := tab (fun (x : Int × Int) => match x with | (a, b) => [.int .i64 a, .int .i64 b]) (fun x => match x with | (a, b) => True) (fun x => match x with | (a, b) => .int .i64 (cmpZ a b))
@[simp] theorem o_compare_e (a : Int) (b : Int) : o_compare [.int .i64 a, .int .i64 b] = some (True, .int .i64 (cmpZ a b)) := tab_at (enc := fun (x : Int × Int) => match x with | (a, b) => [.int .i64 a, .int .i64 b]) (fun x y h => by
  obtain ⟨a1, b1⟩ := x; obtain ⟨a2, b2⟩ := y; simp at h; simp [h] <;> omega) _ _ (a, b)
theorem o_compare_k : Knows Tryz.prog 129 o_compare := tab_knows fun x hx h => by
  obtain ⟨a, b⟩ := x; exact compare_c _ _ h
abbrev k109_o0 : List AJ := [.o ⟨(some 4), none, false, .mv (.c (.int .i64 0)), (some [0, 1])⟩]
abbrev k109_o1 : List AJ := [.o ⟨(some 7), none, false, .mv (.t 0), none⟩, .o ⟨(some 8), none, false, .call 128 [(.t 7)], none⟩, .o ⟨(some 5), none, false, .mv (.t 8), (some [0, 1, 5])⟩]
abbrev k109_o2 : List AJ := [.o ⟨(some 9), none, false, .mv (.t 1), none⟩, .o ⟨(some 10), none, false, .call 128 [(.t 9)], none⟩, .o ⟨(some 6), none, false, .mv (.t 10), (some [0, 1, 5, 6])⟩]
abbrev k109_o3 : List AJ := [.o ⟨(some 11), none, false, .mv (.t 5), (some [0, 1, 6, 11])⟩]
abbrev k109_o4 : List AJ := [.o ⟨(some 12), none, false, .mv (.t 6), (some [12])⟩]
abbrev k109_o5 : List AJ := [.o ⟨(some 4), none, false, .mv (.c (.int .i64 0)), (some [4])⟩]
def k109_6 : ACode := .seq (.region k109_o5) .ret
def k109_7 : ACode := .cond (.t 12) k109_6 .skip
def k109_8 : ACode := .seq (.region k109_o4) k109_7
abbrev k109_o6 : List AJ := [.o ⟨(some 4), none, false, .mv (.c (.int .i64 (-1))), (some [4])⟩]
def k109_10 : ACode := .seq (.region k109_o6) .ret
def k109_11 : ACode := .seq k109_8 k109_10
def k109_12 : ACode := .cond (.t 11) k109_11 .skip
def k109_13 : ACode := .seq (.region k109_o3) k109_12
abbrev k109_o7 : List AJ := [.o ⟨(some 13), none, false, .mv (.t 6), (some [0, 1, 13])⟩]
abbrev k109_o8 : List AJ := [.o ⟨(some 4), none, false, .mv (.c (.int .i64 1)), (some [4])⟩]
def k109_16 : ACode := .seq (.region k109_o8) .ret
def k109_17 : ACode := .cond (.t 13) k109_16 .skip
def k109_18 : ACode := .seq (.region k109_o7) k109_17
abbrev k109_o9 : List AJ := [.o ⟨(some 14), none, false, .mv (.t 0), none⟩, .o ⟨(some 15), none, false, .mv (.t 1), none⟩, .o ⟨(some 16), none, false, .bin .lss (.t 14) (.t 15), (some [0, 1, 16])⟩]
abbrev k109_o10 : List AJ := [.o ⟨(some 4), none, false, .mv (.c (.int .i64 (-1))), (some [4])⟩]
def k109_21 : ACode := .seq (.region k109_o10) .ret
def k109_22 : ACode := .cond (.t 16) k109_21 .skip
def k109_23 : ACode := .seq (.region k109_o9) k109_22
abbrev k109_o11 : List AJ := [.o ⟨(some 17), none, false, .mv (.t 0), none⟩, .o ⟨(some 18), none, false, .mv (.t 1), none⟩, .o ⟨(some 19), none, false, .bin .gtr (.t 17) (.t 18), (some [19])⟩]
abbrev k109_o12 : List AJ := [.o ⟨(some 4), none, false, .mv (.c (.int .i64 1)), (some [4])⟩]
def k109_26 : ACode := .seq (.region k109_o12) .ret
def k109_27 : ACode := .cond (.t 19) k109_26 .skip
def k109_28 : ACode := .seq (.region k109_o11) k109_27
abbrev k109_o13 : List AJ := [.o ⟨(some 4), none, false, .mv (.c (.int .i64 0)), (some [4])⟩]
def k109_30 : ACode := .seq (.region k109_o13) .ret
def k109_31 : ACode := .seq k109_28 k109_30
def k109_32 : ACode := .seq k109_23 k109_31
def k109_33 : ACode := .seq k109_18 k109_32
def k109_34 : ACode := .seq k109_13 k109_33
def k109_35 : ACode := .seq (.region k109_o2) k109_34
def k109_36 : ACode := .seq (.region k109_o1) k109_35
def k109_37 : ACode := .seq (.region k109_o0) k109_36
@[simp, simp ↓] theorem k109_6r : sR k109_6 k109_o5 .ret := yR rfl
@[simp, simp ↓] theorem k109_7r : rC k109_7 (.t 12) k109_6 .skip := zC rfl
@[simp, simp ↓] theorem k109_8r : sR k109_8 k109_o4 k109_7 := yR rfl
@[simp, simp ↓] theorem k109_10r : sR k109_10 k109_o6 .ret := yR rfl
@[simp, simp ↓] theorem k109_11r : rS k109_11 k109_8 k109_10 := zS rfl
@[simp, simp ↓] theorem k109_12r : rC k109_12 (.t 11) k109_11 .skip := zC rfl
@[simp, simp ↓] theorem k109_13r : sR k109_13 k109_o3 k109_12 := yR rfl
@[simp, simp ↓] theorem k109_16r : sR k109_16 k109_o8 .ret := yR rfl
@[simp, simp ↓] theorem k109_17r : rC k109_17 (.t 13) k109_16 .skip := zC rfl
@[simp, simp ↓] theorem k109_18r : sR k109_18 k109_o7 k109_17 := yR rfl
@[simp, simp ↓] theorem k109_21r : sR k109_21 k109_o10 .ret := yR rfl
@[simp, simp ↓] theorem k109_22r : rC k109_22 (.t 16) k109_21 .skip := zC rfl
@[simp, simp ↓] theorem k109_23r : sR k109_23 k109_o9 k109_22 := yR rfl
@[simp, simp ↓] theorem k109_26r : sR k109_26 k109_o12 .ret := yR rfl
@[simp, simp ↓] theorem k109_27r : rC k109_27 (.t 19) k109_26 .skip := zC rfl
@[simp, simp ↓] theorem k109_28r : sR k109_28 k109_o11 k109_27 := yR rfl
@[simp, simp ↓] theorem k109_30r : sR k109_30 k109_o13 .ret := yR rfl
@[simp, simp ↓] theorem k109_31r : rS k109_31 k109_28 k109_30 := zS rfl
@[simp, simp ↓] theorem k109_32r : rS k109_32 k109_23 k109_31 := zS rfl
@[simp, simp ↓] theorem k109_33r : rS k109_33 k109_18 k109_32 := zS rfl
@[simp, simp ↓] theorem k109_34r : rS k109_34 k109_13 k109_33 := zS rfl
@[simp, simp ↓] theorem k109_35r : sR k109_35 k109_o2 k109_34 := yR rfl
@[simp, simp ↓] theorem k109_36r : sR k109_36 k109_o1 k109_35 := yR rfl
@[simp, simp ↓] theorem k109_37r : sR k109_37 k109_o0 k109_36 := yR rfl
noncomputable abbrev k109_C : Orc → Cx := mkC Tryz.prog [] 109 20 [.tmp 4]
theorem k109_of0 : OfP0 Tryz.prog Tryz.f109 109 20 k109_C k109_37 := @ofP0 _ _ _ _ _ _ _ _ Tryz.func109 (by decide +kernel) rfl (by kernel_rfl) rfl (by kernel_rfl)
theorem comparei_c (a b : Int) (h : Heap) : ACalls Tryz.prog 109 [.int .i64 a, .int .i64 b] h (fun v h' => v = .int .i64 (cmpZ a b) ∧ h' = h) := by
  refine k109_of0 rfl orc1_p fun I => ?_
  refine Run2.of I 1000 ?_
  simp -implicitDefEqProofs [cmpZ]
  grind
noncomputable def o_comparei : List AV → Option (Prop × AV) := tab (fun (x : Int × Int) => match x with | (a, b) => [.int .i64 a, .int .i64 b]) (fun x => match x with | (a, b) => True) (fun x => match x with | (a, b) => .int .i64 (cmpZ a b))
@[simp] theorem o_comparei_e (a : Int) (b : Int) : o_comparei [.int .i64 a, .int .i64 b] = some (True, .int .i64 (cmpZ a b)) := tab_at (enc := fun (x : Int × Int) => match x with | (a, b) => [.int .i64 a, .int .i64 b]) (fun x y h => by
  obtain ⟨a1, b1⟩ := x; obtain ⟨a2, b2⟩ := y; simp at h; simp [h] <;> omega) _ _ (a, b)
theorem o_comparei_k : Knows Tryz.prog 109 o_comparei := tab_knows fun x hx h => by
  obtain ⟨a, b⟩ := x; exact comparei_c _ _ h
def orI : List Int → Int
  | [] => 0
  | x :: xs => if x = 0 then orI xs else x
abbrev k108_o0 : List AJ := [.o ⟨(some 2), none, false, .mv (.c (.int .i64 0)), (some [0])⟩]
abbrev k108_o1 : List AJ := [.o ⟨(some 3), none, false, .mv (.c (.int .i64 0)), (some [0, 3])⟩]
abbrev k108_o2 : List AJ := [.o ⟨(some 6), none, false, .mv (.t 0), none⟩, .o ⟨(some 7), none, false, .len (.t 6), none⟩, .o ⟨(some 8), none, false, .mv (.c (.int .i64 0)), (some [3, 6, 7, 8])⟩]
abbrev k108_o3 : List AJ := [.o ⟨(some 9), none, false, .bin .lss (.t 8) (.t 7), (some [3, 6, 7, 8, 9])⟩]
abbrev k108_o4 : List AJ := [.o ⟨(some 10), none, false, .idxA 1 (.t 6) (.t 8), none⟩, .o ⟨(some 11), none, false, .load 1 false (.t 10), none⟩, .o ⟨(some 5), none, false, .mv (.t 11), (some [3, 5, 6, 7, 8])⟩]
abbrev k108_o5 : List AJ := [.o ⟨(some 12), none, false, .mv (.t 5), none⟩, .o ⟨(some 13), none, false, .mv (.t 3), none⟩, .o ⟨(some 14), none, false, .bin .neq (.t 12) (.t 13), (some [3, 5, 6, 7, 8, 14])⟩]
abbrev k108_o6 : List AJ := [.o ⟨(some 15), none, false, .mv (.t 5), none⟩, .o ⟨(some 2), none, false, .mv (.t 15), (some [2])⟩]
def k108_8 : ACode := .seq (.region k108_o6) .ret
def k108_9 : ACode := .cond (.t 14) k108_8 .skip
def k108_10 : ACode := .seq (.region k108_o5) k108_9
def k108_11 : ACode := .seq (.region k108_o4) k108_10
abbrev k108_o7 : List AJ := [.o ⟨(some 16), none, true, .bin .add (.t 8) (.c (.int .i64 1)), none⟩, .o ⟨(some 8), none, false, .mv (.t 16), (some [3, 6, 7, 8])⟩]
def k108_13 : ACode := .region k108_o7
def k108_14 : ACode := .seq (.block 1 k108_11) k108_13
def k108_15 : ACode := .seq (.cond (.t 9) .skip (.exit 0)) k108_14
def k108_16 : ACode := .seq (.region k108_o3) k108_15
def k108_17 : ACode := .loop k108_16
def k108_18 : ACode := .block 0 k108_17
def k108_19 : ACode := .seq (.region k108_o2) k108_18
abbrev k108_o8 : List AJ := [.o ⟨(some 17), none, false, .mv (.t 3), none⟩, .o ⟨(some 2), none, false, .mv (.t 17), (some [2])⟩]
def k108_21 : ACode := .seq (.region k108_o8) .ret
def k108_22 : ACode := .seq k108_19 k108_21
def k108_23 : ACode := .seq (.region k108_o1) k108_22
def k108_24 : ACode := .seq (.region k108_o0) k108_23
@[simp, simp ↓] theorem k108_8r : sR k108_8 k108_o6 .ret := yR rfl
@[simp, simp ↓] theorem k108_9r : rC k108_9 (.t 14) k108_8 .skip := zC rfl
@[simp, simp ↓] theorem k108_10r : sR k108_10 k108_o5 k108_9 := yR rfl
@[simp, simp ↓] theorem k108_11r : sR k108_11 k108_o4 k108_10 := yR rfl
@[simp, simp ↓] theorem k108_13r : rR k108_13 k108_o7 := zR rfl
@[simp, simp ↓] theorem k108_14r : sB k108_14 1 k108_11 k108_13 := yB rfl
@[simp, simp ↓] theorem k108_15r : sC k108_15 (.t 9) .skip (.exit 0) k108_14 := yC rfl
@[simp, simp ↓] theorem k108_16r : sR k108_16 k108_o3 k108_15 := yR rfl
@[simp, simp ↓] theorem k108_17r : rL k108_17 k108_16 := zL rfl
@[simp, simp ↓] theorem k108_18r : rB k108_18 0 k108_17 := zB rfl
@[simp, simp ↓] theorem k108_19r : sR k108_19 k108_o2 k108_18 := yR rfl
@[simp, simp ↓] theorem k108_21r : sR k108_21 k108_o8 .ret := yR rfl
@[simp, simp ↓] theorem k108_22r : rS k108_22 k108_19 k108_21 := zS rfl
@[simp, simp ↓] theorem k108_23r : sR k108_23 k108_o1 k108_22 := yR rfl
@[simp, simp ↓] theorem k108_24r : sR k108_24 k108_o0 k108_23 := yR rfl
noncomputable abbrev k108_C : Orc → Cx := mkC Tryz.prog [] 108 18 [.tmp 2]
theorem k108_of0 : OfP0 Tryz.prog Tryz.f108 108 18 k108_C k108_24 := @ofP0 _ _ _ _ _ _ _ _ Tryz.func108 (by decide +kernel) rfl (by kernel_rfl) rfl (by kernel_rfl)
theorem or_c (l : List Int) (h : Heap) (hl : l.length ≤ 1048576) : ACalls Tryz.prog 108 [.snap 1 (l.map fun n => .int .i64 n)] h (fun v h' => v = .int .i64 (orI l) ∧ h' = h) := by
  refine k108_of0 rfl noPure fun I => ?_
  refine Run2.of I 1000 ?_
  simp -implicitDefEqProofs
  refine Run2.loop (fun i => [(3, .int .i64 0), (6, .snap 1 (l.map fun n => .int .i64 n)), (7, .int .i64 l.length), (8, .int .i64 (i : Nat))]) (fun i => h) (fun i => l.length - i) (fun i => i ≤ l.length ∧ orI (l.drop i) = orI l) 0 (by simp) fun i hi ih => ?_
  by_cases hlt : i < l.length
  · have hd : l.drop i = l[i] :: l.drop (i + 1) := List.drop_eq_getElem_cons hlt
    refine Run2.of I 1000 ?_
    simp -implicitDefEqProofs [hlt]
    constructor
    · intro hne
      rw [← hi.2, hd, orI, if_neg hne]
    · intro he
      refine ⟨by omega, ?_⟩
      have := ih (i + 1) ⟨by omega, by rw [← hi.2, hd, orI, if_pos he]⟩ (by omega)
      simpa using this
  · have : i = l.length := by omega
    have h2 := hi.2
    rw [List.drop_of_length_le (by omega)] at h2
    refine Run2.of I 1000 ?_
    simp -implicitDefEqProofs [hlt]
    exact h2
noncomputable def o_or2 : List AV → Option (Prop × AV) := tab (fun (x : Int × Int) => match x with | (a, b) => [.snap 1 [.int .i64 a, .int .i64 b]]) (fun x => match x with | (a, b) => True) (fun x => match x with | (a, b) => .int .i64 (orI [a, b]))
@[simp] theorem o_or2_e (a : Int) (b : Int) : o_or2 [.snap 1 [.int .i64 a, .int .i64 b]] = some (True, .int .i64 (orI [a, b])) := tab_at (enc := fun (x : Int × Int) => match x with | (a, b) => [.snap 1 [.int .i64 a, .int .i64 b]]) (fun x y h => by
  obtain ⟨a1, b1⟩ := x; obtain ⟨a2, b2⟩ := y; simp at h; simp [h] <;> omega) _ _ (a, b)
theorem o_or2_k : Knows Tryz.prog 108 o_or2 := tab_knows fun x hx h => by
  obtain ⟨a, b⟩ := x; exact or_c [a, b] h (by simp)
noncomputable def orc2 : List (Nat × (List AV → Option (Prop × AV))) := (129, o_compare) :: (109, o_comparei) :: (108, o_or2) :: orc1
theorem orc2_p : Pure Tryz.prog (lk orc2) := (lk_pure o_compare_k (lk_pure o_comparei_k (lk_pure o_or2_k orc1_p)))
@[simp] theorem orc2_l (b : Bool) (g : FuncId) (l : List AV) : lk orc2 b g l = if g = 129 then o_compare l else if g = 109 then o_comparei l else if g = 108 then o_or2 l else lk orc1 b g l := nr rfl
def btw (l : List Int) (a b : Int) : Prop := ∀ k ∈ l, a ≤ k ∧ k ≤ b
noncomputable instance (l : List Int) (a b : Int) : Decidable (btw l a b ∧ riseS l) := Classical.propDecidable _
theorem rising_to {r : List Int} (i : Nat) (h : ∀ j (h : j + 1 < r.length), j + 1 < i → r[j] < r[j + 1]) (hi : r.length ≤ i) : riseS r := fun j hj => h j hj (by omega)
abbrev k90_o0 : List AJ := [.o ⟨(some 4), none, false, .mv (.c (.int .i64 0)), (some [0, 1])⟩]
abbrev k90_o1 : List AJ := [.o ⟨(some 6), none, false, .mv (.t 0), none⟩, .o ⟨(some 7), none, false, .len (.t 6), none⟩, .o ⟨(some 8), none, false, .mv (.c (.int .i64 0)), (some [0, 1, 7, 8])⟩]
abbrev k90_o2 : List AJ := [.o ⟨(some 9), none, false, .bin .lss (.t 8) (.t 7), (some [0, 1, 7, 8, 9])⟩]
abbrev k90_o3 : List AJ := [.o ⟨(some 10), none, false, .mv (.t 8), none⟩, .o ⟨(some 5), none, false, .mv (.t 10), (some [0, 1, 5, 7, 8])⟩]
abbrev k90_o4 : List AJ := [.o ⟨(some 11), none, false, .mv (.t 1), none⟩, .o ⟨(some 12), none, false, .mv (.t 0), none⟩, .o ⟨(some 13), none, false, .mv (.t 5), none⟩, .o ⟨(some 14), none, false, .idxA 1 (.t 12) (.t 13), none⟩, .o ⟨(some 15), none, false, .load 1 false (.t 14), none⟩, .o ⟨(some 16), none, false, .callv (.t 11) [(.t 15)], (some [0, 1, 5, 7, 8, 16])⟩]
abbrev k90_o5 : List AJ := [.o ⟨(some 17), none, false, .mv (.t 5), none⟩, .o ⟨(some 4), none, false, .mv (.t 17), (some [4])⟩]
def k90_7 : ACode := .seq (.region k90_o5) .ret
def k90_8 : ACode := .cond (.t 16) k90_7 .skip
def k90_9 : ACode := .seq (.region k90_o4) k90_8
def k90_10 : ACode := .seq (.region k90_o3) k90_9
abbrev k90_o6 : List AJ := [.o ⟨(some 18), none, true, .bin .add (.t 8) (.c (.int .i64 1)), none⟩, .o ⟨(some 8), none, false, .mv (.t 18), (some [0, 1, 7, 8])⟩]
def k90_12 : ACode := .region k90_o6
def k90_13 : ACode := .seq (.block 1 k90_10) k90_12
def k90_14 : ACode := .seq (.cond (.t 9) .skip (.exit 0)) k90_13
def k90_15 : ACode := .seq (.region k90_o2) k90_14
def k90_16 : ACode := .loop k90_15
def k90_17 : ACode := .block 0 k90_16
def k90_18 : ACode := .seq (.region k90_o1) k90_17
abbrev k90_o7 : List AJ := [.o ⟨(some 4), none, false, .mv (.c (.int .i64 (-1))), (some [4])⟩]
def k90_20 : ACode := .seq (.region k90_o7) .ret
def k90_21 : ACode := .seq k90_18 k90_20
def k90_22 : ACode := .seq (.region k90_o0) k90_21
@[simp, simp ↓] theorem k90_7r : sR k90_7 k90_o5 .ret := yR rfl
@[simp, simp ↓] theorem k90_8r : rC k90_8 (.t 16) k90_7 .skip := zC rfl
@[simp, simp ↓] theorem k90_9r : sR k90_9 k90_o4 k90_8 := yR rfl
@[simp, simp ↓] theorem k90_10r : sR k90_10 k90_o3 k90_9 := yR rfl
@[simp, simp ↓] theorem k90_12r : rR k90_12 k90_o6 := zR rfl
@[simp, simp ↓] theorem k90_13r : sB k90_13 1 k90_10 k90_12 := yB rfl
@[simp, simp ↓] theorem k90_14r : sC k90_14 (.t 9) .skip (.exit 0) k90_13 := yC rfl
@[simp, simp ↓] theorem k90_15r : sR k90_15 k90_o2 k90_14 := yR rfl
@[simp, simp ↓] theorem k90_16r : rL k90_16 k90_15 := zL rfl
@[simp, simp ↓] theorem k90_17r : rB k90_17 0 k90_16 := zB rfl
@[simp, simp ↓] theorem k90_18r : sR k90_18 k90_o1 k90_17 := yR rfl
@[simp, simp ↓] theorem k90_20r : sR k90_20 k90_o7 .ret := yR rfl
@[simp, simp ↓] theorem k90_21r : rS k90_21 k90_18 k90_20 := zS rfl
@[simp, simp ↓] theorem k90_22r : sR k90_22 k90_o0 k90_21 := yR rfl
noncomputable abbrev k90_C : Orc → Cx := mkC Tryz.prog [] 90 19 [.tmp 4]
theorem k90_of0 : OfP0 Tryz.prog Tryz.f90 90 19 k90_C k90_22 := @ofP0 _ _ _ _ _ _ _ _ Tryz.func90 (by decide +kernel) rfl (by kernel_rfl) rfl (by kernel_rfl)
/-- The first place where q holds. -/
def idxf (q : Int → Bool) (l : List Int) : Int := match l.findIdx? q with
  | some i => i
  | none => -1
theorem idxf_at {q : Int → Bool} {l : List Int} {i : Nat} (h : i < l.length) (hb : ∀ j (hj : j < l.length), j < i → q l[j] = false) (ht : q l[i] = true) : idxf q l = i := by
  have : l.findIdx? q = some i := List.findIdx?_eq_some_iff_getElem.2 ⟨h, ht, fun j hj => by simp [hb j (by omega) hj]⟩
  unfold idxf; rw [this]
theorem idxf_none {q : Int → Bool} {l : List Int} (hb : ∀ j (hj : j < l.length), q l[j] = false) : idxf q l = -1 := by
  have : l.findIdx? q = none := List.findIdx?_eq_none_iff.2 fun a ha => by
    obtain ⟨j, hj, rfl⟩ := List.mem_iff_getElem.1 ha
    simp [hb j hj]
  unfold idxf; rw [this]
theorem idxf_ge (q : Int → Bool) (l : List Int) : (0 ≤ idxf q l) ↔ ∃ a ∈ l, q a = true := by
  unfold idxf
  cases h : l.findIdx? q with
  | none =>
    rw [List.findIdx?_eq_none_iff] at h
    simp only [show ¬ (0 : Int) ≤ -1 by omega, false_iff]
    rintro ⟨a, ha, hq⟩
    have := h a ha
    rw [hq] at this; cases this
  | some i =>
    obtain ⟨hi, hq, _⟩ := List.findIdx?_eq_some_iff_getElem.1 h
    simp only [Int.natCast_nonneg, true_iff]
    exact ⟨_, List.getElem_mem hi, hq⟩
theorem IndexFunc_s (l : List Int) (g : FuncId) (caps : List AV) (q : Int → Bool) (h : Heap) (hl : l.length ≤ 1048576) (hq : ∀ a ∈ l, ACalls Tryz.prog g (.int .i64 a :: caps) h (fun v h' => v = .bool (q a) ∧ h' = h)) :
    ACalls Tryz.prog 90 [.snap 1 (l.map iv), .fn g caps] h (fun v h' => v = .int .i64 (idxf q l) ∧ h' = h) := by
  refine k90_of0 rfl noPure fun I => ?_
  refine Run2.of I 1000 ?_
  simp -implicitDefEqProofs
  refine Run2.loopE (fun i => [(0, .snap 1 (l.map iv)), (1, .fn g caps), (7, .int .i64 l.length), (8, .int .i64 (i : Nat))]) (fun i => h) (fun i => l.length - i) (fun i => i ≤ l.length ∧ ∀ j (hj : j < l.length), j < i → q l[j] = false) 0 (by simp) rfl ⟨Nat.zero_le _, fun _ _ h => absurd h (Nat.not_lt_zero _)⟩ fun i hi ih => ?_
  by_cases hlt : i < l.length
  · have go := fun (h1 : q l[i] = false) => ih (i + 1) ⟨by omega, fun j hj hji => by
      rcases Nat.lt_or_ge j i with h | h
      · exact hi.2 j hj h
      · obtain rfl : j = i := by omega
        exact h1⟩ (by omega)
    have hat := idxf_at (q := q) hlt hi.2
    clear ih
    refine Run2.of I 1000 ?_
    simp -implicitDefEqProofs [hlt]
    refine (hq _ (List.getElem_mem hlt)).mono ?_
    rintro v h' ⟨rfl, rfl⟩
    refine gK.go ?_
    simp -implicitDefEqProofs
    refine ⟨fun h => (hat h).symm, fun h => ⟨by omega, ?_⟩⟩
    simpa using go h
  · obtain rfl : i = l.length := by omega
    have := idxf_none (q := q) (l := l) fun j hj => hi.2 j hj hj
    refine Run2.of I 1000 ?_
    simp -implicitDefEqProofs
    exact this.symm
abbrev k62_o0 : List AJ := [.o ⟨(some 4), none, false, .mv (.c (.bool false)), (some [0, 1])⟩]
abbrev k62_o1 : List AJ := [.o ⟨(some 5), none, false, .mv (.t 0), none⟩, .o ⟨(some 6), none, false, .mv (.t 1), none⟩, .o ⟨(some 7), none, false, .call 90 [(.t 5), (.t 6)], none⟩, .o ⟨(some 8), none, false, .bin .geq (.t 7) (.c (.int .i64 0)), none⟩, .o ⟨(some 4), none, false, .mv (.t 8), (some [4])⟩]
def k62_2 : ACode := .seq (.region k62_o1) .ret
def k62_3 : ACode := .seq (.region k62_o0) k62_2
@[simp, simp ↓] theorem k62_2r : sR k62_2 k62_o1 .ret := yR rfl
@[simp, simp ↓] theorem k62_3r : sR k62_3 k62_o0 k62_2 := yR rfl
noncomputable abbrev k62_C : Orc → Cx := mkC Tryz.prog [] 62 9 [.tmp 4]
theorem k62_of0 : OfP0 Tryz.prog Tryz.f62 62 9 k62_C k62_3 := @ofP0 _ _ _ _ _ _ _ _ Tryz.func62 (by decide +kernel) rfl (by kernel_rfl) rfl (by kernel_rfl)
theorem ContainsFunc_s (l : List Int) (g : FuncId) (caps : List AV) (q : Int → Bool) (h : Heap) (hl : l.length ≤ 1048576) (hq : ∀ a ∈ l, ACalls Tryz.prog g (.int .i64 a :: caps) h (fun v h' => v = .bool (q a) ∧ h' = h)) :
    ACalls Tryz.prog 62 [.snap 1 (l.map iv), .fn g caps] h (fun v h' => v = .bool (l.any q) ∧ h' = h) := by
  refine k62_of0 rfl noPure fun I => ?_
  refine Run2.of I 1000 ?_
  simp -implicitDefEqProofs
  refine (IndexFunc_s l g caps q h hl hq).mono ?_
  rintro v h' ⟨rfl, rfl⟩
  refine gK.go ?_
  simp -implicitDefEqProofs [idxf_ge]
  rw [Bool.eq_iff_iff]
  simp
abbrev k105_o0 : List AJ := [.o ⟨(some 2), none, false, .mv (.c (.bool false)), (some [0])⟩]
abbrev k105_o1 : List AJ := [.o ⟨(some 3), none, false, .mv (.c (.int .i64 1)), (some [0, 3])⟩]
abbrev k105_o2 : List AJ := [.o ⟨(some 4), none, false, .mv (.t 3), none⟩, .o ⟨(some 5), none, false, .mv (.t 0), none⟩, .o ⟨(some 6), none, false, .len (.t 5), none⟩, .o ⟨(some 7), none, false, .bin .lss (.t 4) (.t 6), (some [0, 3, 7])⟩]
def k105_3 : ACode := .cond (.t 7) .skip (.exit 0)
def k105_4 : ACode := .seq (.region k105_o2) k105_3
abbrev k105_o3 : List AI := [⟨(some 10), none, false, .mv (.t 0), none⟩, ⟨(some 11), none, false, .mv (.t 3), none⟩, ⟨(some 12), none, true, .bin .sub (.t 11) (.c (.int .i64 1)), none⟩, ⟨(some 13), none, false, .idxA 1 (.t 10) (.t 12), none⟩, ⟨(some 14), none, false, .load 1 false (.t 13), none⟩, ⟨(some 15), none, false, .mv (.t 0), none⟩, ⟨(some 16), none, false, .mv (.t 3), none⟩, ⟨(some 17), none, false, .idxA 1 (.t 15) (.t 16), none⟩, ⟨(some 18), none, false, .load 1 false (.t 17), none⟩, ⟨(some 19), none, false, .bin .geq (.t 14) (.t 18), (some [0, 3, 19])⟩]
abbrev k105_o4 : List AJ := [.o ⟨(some 2), none, false, .mv (.c (.bool false)), (some [2])⟩]
def k105_7 : ACode := .seq (.region k105_o4) .ret
def k105_8 : ACode := .cond (.t 19) k105_7 .skip
def k105_9 : ACode := .seq (.draw k105_o3 [] rfl) k105_8
abbrev k105_o5 : List AJ := [.o ⟨(some 8), none, false, .mv (.t 3), none⟩, .o ⟨(some 9), none, true, .bin .add (.t 8) (.c (.int .i64 1)), none⟩, .o ⟨(some 3), none, false, .mv (.t 9), (some [0, 3])⟩]
def k105_11 : ACode := .region k105_o5
def k105_12 : ACode := .seq (.block 1 k105_9) k105_11
def k105_13 : ACode := .seq k105_4 k105_12
def k105_14 : ACode := .loop k105_13
def k105_15 : ACode := .block 0 k105_14
def k105_16 : ACode := .seq (.region k105_o1) k105_15
abbrev k105_o6 : List AJ := [.o ⟨(some 2), none, false, .mv (.c (.bool true)), (some [2])⟩]
def k105_18 : ACode := .seq (.region k105_o6) .ret
def k105_19 : ACode := .seq k105_16 k105_18
def k105_20 : ACode := .seq (.region k105_o0) k105_19
@[simp, simp ↓] theorem k105_3r : rC k105_3 (.t 7) .skip (.exit 0) := zC rfl
@[simp, simp ↓] theorem k105_4r : sR k105_4 k105_o2 k105_3 := yR rfl
@[simp, simp ↓] theorem k105_7r : sR k105_7 k105_o4 .ret := yR rfl
@[simp, simp ↓] theorem k105_8r : rC k105_8 (.t 19) k105_7 .skip := zC rfl
@[simp, simp ↓] theorem k105_9r : sD k105_9 k105_o3 [] k105_8 := yD rfl
@[simp, simp ↓] theorem k105_11r : rR k105_11 k105_o5 := zR rfl
@[simp, simp ↓] theorem k105_12r : sB k105_12 1 k105_9 k105_11 := yB rfl
@[simp, simp ↓] theorem k105_13r : rS k105_13 k105_4 k105_12 := zS rfl
@[simp, simp ↓] theorem k105_14r : rL k105_14 k105_13 := zL rfl
@[simp, simp ↓] theorem k105_15r : rB k105_15 0 k105_14 := zB rfl
@[simp, simp ↓] theorem k105_16r : sR k105_16 k105_o1 k105_15 := yR rfl
@[simp, simp ↓] theorem k105_18r : sR k105_18 k105_o6 .ret := yR rfl
@[simp, simp ↓] theorem k105_19r : rS k105_19 k105_16 k105_18 := zS rfl
@[simp, simp ↓] theorem k105_20r : sR k105_20 k105_o0 k105_19 := yR rfl
noncomputable abbrev k105_C : Orc → Cx := mkC Tryz.prog [] 105 20 [.tmp 2]
theorem k105_of0 : OfP0 Tryz.prog Tryz.f105 105 20 k105_C k105_20 := @ofP0 _ _ _ _ _ _ _ _ Tryz.func105 (by decide +kernel) rfl (by kernel_rfl) rfl (by kernel_rfl)
theorem isRising_s (l : List Int) (h : Heap) (hl : l.length ≤ 1048576) : ACalls Tryz.prog 105 [.snap 1 (l.map iv)] h (fun v h' => v = .bool (decide (riseS l)) ∧ h' = h) := by
  refine k105_of0 rfl noPure fun I => ?_
  refine Run2.of I 1000 ?_
  simp -implicitDefEqProofs
  refine Run2.loopE (fun i => [(0, .snap 1 (l.map iv)), (3, .int .i64 (i + 1 : Nat))]) (fun i => h) (fun i => l.length - i) (fun i => (i = 0 ∨ i < l.length) ∧ ∀ j (hj : j + 1 < l.length), j + 1 < i + 1 → l[j] < l[j + 1]) 0 (by simp) rfl ⟨.inl rfl, fun _ _ h => by omega⟩ fun i hi ih => ?_
  by_cases hlt : i + 1 < l.length
  · have hlt' : i < l.length := by omega
    have hc : ((i : Int) + 1 - 1).toNat = i := by omega
    have go := fun (h1 : l[i] < l[i + 1]) => ih (i + 1) ⟨.inr (by omega), fun j hj hji => by
      rcases Nat.lt_or_ge j i with h | h
      · exact hi.2 j hj (by omega)
      · obtain rfl : j = i := by omega
        exact h1⟩ (by omega)
    have hbad : l[i + 1] ≤ l[i] → ¬ riseS l := fun h1 h2 => by have := h2 i hlt; omega
    clear ih
    refine Run2.of I 1000 ?_
    simp -implicitDefEqProofs [hlt, hlt', hc]
    simp at go
    repeat' (first | refine And.intro ?_ ?_ | intro _)
    all_goals first | omega | (unfold in64; omega) | exact absurd ‹riseS l› (hbad (by omega)) | exact go (by omega)
  · have hr := rising_to (r := l) (i + 1) hi.2 (by omega)
    have hlt2 : ¬ ((i : Int) + 1 < l.length) := by omega
    refine Run2.of I 1000 ?_
    simp -implicitDefEqProofs [hlt, hlt2]
    exact hr
noncomputable def o_isRising : List AV → Option (Prop × AV) := tab (fun (x : List Int) => match x with | l => [.snap 1 (l.map iv)]) (fun x => match x with | l => l.length ≤ 1048576) (fun x => match x with | l => .bool (decide (riseS l)))
@[simp] theorem o_isRising_e (l : List Int) : o_isRising [.snap 1 (l.map iv)] = some (l.length ≤ 1048576, .bool (decide (riseS l))) := tab_at (enc := fun (x : List Int) => match x with | l => [.snap 1 (l.map iv)]) (fun x y h => by
  simp at h; simp [h] <;> omega) _ _ l
theorem o_isRising_k : Knows Tryz.prog 105 o_isRising := tab_knows fun x hx h => by
  exact isRising_s x h hx
abbrev k104_o0 : List AJ := [.o ⟨(some 6), none, false, .mv (.c (.bool false)), (some [0, 1, 2])⟩]
abbrev k104_o1 : List AJ := [.o ⟨(some 7), none, false, .mv (.c (.int .i64 0)), (some [0, 1, 2, 7])⟩]
abbrev k104_o2 : List AJ := [.o ⟨(some 8), none, false, .mv (.t 7), none⟩, .o ⟨(some 9), none, false, .mv (.t 0), none⟩, .o ⟨(some 10), none, false, .len (.t 9), none⟩, .o ⟨(some 11), none, false, .bin .lss (.t 8) (.t 10), (some [0, 1, 2, 7, 11])⟩]
def k104_3 : ACode := .cond (.t 11) .skip (.exit 0)
def k104_4 : ACode := .seq (.region k104_o2) k104_3
abbrev k104_o3 : List AI := [⟨(some 14), none, false, .mv (.t 0), none⟩, ⟨(some 15), none, false, .mv (.t 7), none⟩, ⟨(some 16), none, false, .idxA 1 (.t 14) (.t 15), none⟩, ⟨(some 17), none, false, .load 1 false (.t 16), none⟩, ⟨(some 18), none, false, .mv (.t 1), none⟩, ⟨(some 19), none, false, .mv (.t 2), none⟩, ⟨(some 20), none, false, .call 26 [(.t 17), (.t 18), (.t 19)], none⟩, ⟨(some 21), none, false, .un .not (.t 20), none⟩, ⟨(some 22), none, false, .mv (.t 21), none⟩, ⟨(some 23), (some (22, false)), false, .mv (.t 7), none⟩, ⟨(some 24), (some (22, false)), false, .bin .gtr (.t 23) (.c (.int .i64 0)), none⟩, ⟨(some 25), (some (22, false)), false, .mv (.t 24), (some [0, 1, 2, 7, 22, 25])⟩, ⟨(some 26), (some (25, true)), false, .mv (.t 0), none⟩, ⟨(some 27), (some (25, true)), false, .mv (.t 7), none⟩, ⟨(some 28), (some (25, true)), true, .bin .sub (.t 27) (.c (.int .i64 1)), none⟩, ⟨(some 29), (some (25, true)), false, .idxA 1 (.t 26) (.t 28), none⟩, ⟨(some 30), (some (25, true)), false, .load 1 false (.t 29), none⟩, ⟨(some 31), (some (25, true)), false, .mv (.t 0), none⟩, ⟨(some 32), (some (25, true)), false, .mv (.t 7), (some [0, 1, 2, 7, 22, 25, 30, 31, 32])⟩, ⟨(some 33), (some (25, true)), false, .idxA 1 (.t 31) (.t 32), none⟩, ⟨(some 34), (some (25, true)), false, .load 1 false (.t 33), none⟩, ⟨(some 35), (some (25, true)), false, .bin .geq (.t 30) (.t 34), none⟩, ⟨(some 36), (some (22, false)), false, .pick (.t 25) (.t 35) (.c (.bool false)), none⟩, ⟨(some 37), none, false, .pick (.t 22) (.c (.bool true)) (.t 36), (some [0, 1, 2, 7, 37])⟩]
abbrev k104_o4 : List AJ := [.o ⟨(some 6), none, false, .mv (.c (.bool false)), (some [6])⟩]
def k104_7 : ACode := .seq (.region k104_o4) .ret
def k104_8 : ACode := .cond (.t 37) k104_7 .skip
def k104_9 : ACode := .seq (.draw k104_o3 [] rfl) k104_8
abbrev k104_o5 : List AJ := [.o ⟨(some 12), none, false, .mv (.t 7), none⟩, .o ⟨(some 13), none, true, .bin .add (.t 12) (.c (.int .i64 1)), none⟩, .o ⟨(some 7), none, false, .mv (.t 13), (some [0, 1, 2, 7])⟩]
def k104_11 : ACode := .region k104_o5
def k104_12 : ACode := .seq (.block 1 k104_9) k104_11
def k104_13 : ACode := .seq k104_4 k104_12
def k104_14 : ACode := .loop k104_13
def k104_15 : ACode := .block 0 k104_14
def k104_16 : ACode := .seq (.region k104_o1) k104_15
abbrev k104_o6 : List AJ := [.o ⟨(some 6), none, false, .mv (.c (.bool true)), (some [6])⟩]
def k104_18 : ACode := .seq (.region k104_o6) .ret
def k104_19 : ACode := .seq k104_16 k104_18
def k104_20 : ACode := .seq (.region k104_o0) k104_19
@[simp, simp ↓] theorem k104_3r : rC k104_3 (.t 11) .skip (.exit 0) := zC rfl
@[simp, simp ↓] theorem k104_4r : sR k104_4 k104_o2 k104_3 := yR rfl
@[simp, simp ↓] theorem k104_7r : sR k104_7 k104_o4 .ret := yR rfl
@[simp, simp ↓] theorem k104_8r : rC k104_8 (.t 37) k104_7 .skip := zC rfl
@[simp, simp ↓] theorem k104_9r : sD k104_9 k104_o3 [] k104_8 := yD rfl
@[simp, simp ↓] theorem k104_11r : rR k104_11 k104_o5 := zR rfl
@[simp, simp ↓] theorem k104_12r : sB k104_12 1 k104_9 k104_11 := yB rfl
@[simp, simp ↓] theorem k104_13r : rS k104_13 k104_4 k104_12 := zS rfl
@[simp, simp ↓] theorem k104_14r : rL k104_14 k104_13 := zL rfl
@[simp, simp ↓] theorem k104_15r : rB k104_15 0 k104_14 := zB rfl
@[simp, simp ↓] theorem k104_16r : sR k104_16 k104_o1 k104_15 := yR rfl
@[simp, simp ↓] theorem k104_18r : sR k104_18 k104_o6 .ret := yR rfl
@[simp, simp ↓] theorem k104_19r : rS k104_19 k104_16 k104_18 := zS rfl
@[simp, simp ↓] theorem k104_20r : sR k104_20 k104_o0 k104_19 := yR rfl
noncomputable abbrev k104_C : Orc → Cx := mkC Tryz.prog [] 104 38 [.tmp 6]
theorem k104_of0 : OfP0 Tryz.prog Tryz.f104 104 38 k104_C k104_20 := @ofP0 _ _ _ _ _ _ _ _ Tryz.func104 (by decide +kernel) rfl (by kernel_rfl) rfl (by kernel_rfl)
theorem l00Rises_s (l : List Int) (a b : Int) (h : Heap) (hl : l.length ≤ 1048576) : ACalls Tryz.prog 104 [.snap 1 (l.map iv), .int .i64 a, .int .i64 b] h (fun v h' => v = .bool (decide (btw l a b ∧ riseS l)) ∧ h' = h) := by
  refine k104_of0 rfl orc1_p fun I => ?_
  refine Run2.of I 1000 ?_
  simp -implicitDefEqProofs
  refine Run2.loopE (fun (i : Nat) => [(0, .snap 1 (l.map iv)), (1, .int .i64 a), (2, .int .i64 b), (7, .int .i64 i)]) (fun i => h) (fun i => l.length - i) (fun i => i ≤ l.length ∧ (∀ j (hj : j < l.length), j < i → a ≤ l[j] ∧ l[j] ≤ b) ∧ ∀ j (hj : j + 1 < l.length), j + 1 < i → l[j] < l[j + 1]) 0 (by simp) rfl ⟨Nat.zero_le _, fun _ _ h => by omega, fun _ _ h => by omega⟩ fun i hi ih => ?_
  by_cases hlt : i < l.length
  · have hbad1 : ¬ (a ≤ l[i] ∧ l[i] ≤ b) → ¬ (btw l a b ∧ riseS l) := fun h1 h2 => h1 (h2.1 _ (List.getElem_mem hlt))
    cases i with
    | zero =>
      have go := fun (h1 : a ≤ l[0] ∧ l[0] ≤ b) => ih 1 ⟨by omega, fun j hj hji => by
        obtain rfl : j = 0 := by omega
        exact h1, fun j hj hji => by omega⟩ (by omega)
      clear ih
      refine Run2.of I 1000 ?_
      simp -implicitDefEqProofs [hlt]
      simp at go hbad1
      repeat' (first | refine And.intro ?_ ?_ | intro _)
      all_goals first | omega | grind
    | succ i =>
      have hlt' : i < l.length := by omega
      have hc : ((i : Int) + 1 - 1).toNat = i := by omega
      have hbad2 : ¬ l[i] < l[i + 1] → ¬ (btw l a b ∧ riseS l) := fun h1 h2 => h1 (h2.2 i hlt)
      have go := fun (h1 : a ≤ l[i + 1] ∧ l[i + 1] ≤ b) (h2 : l[i] < l[i + 1]) => ih (i + 1 + 1) ⟨by omega, fun j hj hji => by
        rcases Nat.lt_or_ge j (i + 1) with h | h
        · exact hi.2.1 j hj h
        · obtain rfl : j = i + 1 := by omega
          exact h1, fun j hj hji => by
        rcases Nat.lt_or_ge (j + 1) (i + 1) with h | h
        · exact hi.2.2 j hj h
        · obtain rfl : j = i := by omega
          exact h2⟩ (by omega)
      clear ih
      refine Run2.of I 1000 ?_
      simp -implicitDefEqProofs [hlt, hlt', hc]
      simp at go hbad1 hbad2
      repeat' (first | refine And.intro ?_ ?_ | intro _)
      all_goals first | omega | (unfold in64; omega) | grind
  · obtain rfl : i = l.length := by omega
    have h1 : ∀ k ∈ l, a ≤ k ∧ k ≤ b := fun k hk => by
      obtain ⟨j, hj, rfl⟩ := List.mem_iff_getElem.1 hk
      exact hi.2.1 j hj hj
    have h2 : riseS l := fun j hj => hi.2.2 j hj hj
    refine Run2.of I 1000 ?_
    simp -implicitDefEqProofs
    exact ⟨h1, h2⟩
noncomputable def o_l00Rises : List AV → Option (Prop × AV) := tab (fun (x : List Int × Int × Int) => match x with | (l, a, b) => [.snap 1 (l.map iv), .int .i64 a, .int .i64 b]) (fun x => match x with | (l, a, b) => l.length ≤ 1048576) (fun x => match x with | (l, a, b) => .bool (decide (btw l a b ∧ riseS l)))
@[simp] theorem o_l00Rises_e (l : List Int) (a : Int) (b : Int) : o_l00Rises [.snap 1 (l.map iv), .int .i64 a, .int .i64 b] = some (l.length ≤ 1048576, .bool (decide (btw l a b ∧ riseS l))) := tab_at (enc := fun (x : List Int × Int × Int) => match x with | (l, a, b) => [.snap 1 (l.map iv), .int .i64 a, .int .i64 b]) (fun x y h => by
  obtain ⟨l1, a1, b1⟩ := x; obtain ⟨l2, a2, b2⟩ := y; simp at h; simp [h] <;> omega) _ _ (l, a, b)
theorem o_l00Rises_k : Knows Tryz.prog 104 o_l00Rises := tab_knows fun x hx h => by
  obtain ⟨l, a, b⟩ := x; exact l00Rises_s l a b h hx
abbrev k58_o0 : List AJ := [.o ⟨(some 2), none, false, .mv (.c .nilsl), (some [0])⟩]
abbrev k58_o1 : List AJ := [.e 3 1 none, .o ⟨(some 4), none, false, .mv (.t 0), none⟩, .o ⟨(some 5), none, false, .append 1 8 (.t 3) (.t 4), none⟩, .o ⟨(some 2), none, false, .mv (.t 5), (some [2])⟩]
def k58_2 : ACode := .seq (.region k58_o1) .ret
def k58_3 : ACode := .seq (.region k58_o0) k58_2
@[simp, simp ↓] theorem k58_2r : sR k58_2 k58_o1 .ret := yR rfl
@[simp, simp ↓] theorem k58_3r : sR k58_3 k58_o0 k58_2 := yR rfl
noncomputable abbrev k58_C : Orc → Cx := mkC Tryz.prog [3] 58 6 [.tmp 2]
theorem k58_of0 : OfP0 Tryz.prog Tryz.f58 58 6 k58_C k58_3 := @ofP0 _ _ _ _ _ _ _ _ Tryz.func58 (by decide +kernel) rfl (by kernel_rfl) rfl (by kernel_rfl)
theorem l00Own_g (l : List Int) (h : Heap) (hl : l.length ≤ 1048576) : ACalls Tryz.prog 58 [.snap 1 (l.map iv)] h (fun v h' => ∃ hp, Grow 1 v (l.map iv) hp ∧ h' = hp ++ h) := by
  refine k58_of0 rfl noPure fun I => ?_
  cases l with
  | nil =>
    refine Run2.of I 1000 ?_
    simp -implicitDefEqProofs
    exact .emp
  | cons a l =>
    refine Run2.of I 1000 ?_
    simp -implicitDefEqProofs
    refine ⟨by simp at hl; omega, fun id hid => ⟨[(id, _)], .sl id _ _ (by simp), rfl⟩⟩
/-- A slice that is only appended to, with room behind it. -/
inductive GrowX (sz : Nat) : AV → List AV → Heap → Prop
  | nil : GrowX sz .nilsl [] []
  | sl (id : Nat) (l ex : List AV) (n : Nat) (hn : n = l.length) : GrowX sz (.sl id sz 0 n none) l [(id, ⟨sz, l ++ ex⟩)]
theorem GrowX.cell {sz : Nat} {w : AV} {l : List AV} {hp : Heap} (h : GrowX sz w l hp) : isCell w = true := by cases h <;> rfl
theorem GrowX.len {sz : Nat} {w : AV} {l : List AV} {hp : Heap} (h : GrowX sz w l hp) : lenR w = .val (.int .i64 l.length) := by
  cases h with
  | nil => simp
  | sl id l ex n hn => subst hn; simp
theorem GrowX.app {sz : Nat} {w : AV} {l new : List AV} {hp h : Heap} {C : Cx} {n : Nat} {d : Option Nat} {ks : Option (List Nat)} {is : List AJ} {sk : List AItem} {R : AV → Heap → Prop} {e : Env} {bytes : Nat} (g : GrowX sz w l hp) (hb : (2 * (l.length + new.length)) * bytes ≤ 281474976710656)
    (k : ∀ w' hp', GrowX sz w' (l ++ new) hp' → vc2 C n is sk (kp (put e d w') ks) (hp' ++ h) R) : resK C n d ks is sk R e (hp ++ h) (appR (hp ++ h) sz bytes w new) := by
  cases g with
  | nil =>
    simp only [appR_n, List.nil_append]
    refine ⟨fun he => ?_, fun _ => ⟨by simpa using hb, fun id _ => ?_⟩⟩
    · have : new = [] := by cases new <;> simp_all
      subst this
      exact k _ _ .nil
    · have := k _ _ (.sl id new [] new.length rfl)
      simpa using this
  | sl id l ex m hm =>
    subst hm
    have hd : hdel ((id, ⟨sz, l ++ ex⟩) :: h) id = h := by simp [hdel]
    rw [appR_ln]
    refine ⟨rfl, ⟨sz, l ++ ex⟩, by simp [hget], rfl, by simp, rfl, hb, fun id' _ => ?_⟩
    have := k _ _ (.sl id' (l ++ new) [] (l.length + new.length) (by simp))
    simpa [hd] using this
/-- Lent: it reads as frozen. -/
theorem GrowX.lent {w : AV} {l : List AV} {hp : Heap} (h : GrowX 1 w l hp) : Wk (lend1 hp w) (.snap 1 l) := by
  cases h with
  | nil => exact Wk.nil 1
  | sl id l ex n hn =>
    subst hn
    have : lend1 [(id, (⟨1, l ++ ex⟩ : Blk))] (.sl id 1 0 l.length none) = .snap 1 l := by simp [lend1, fz]
    rw [this]
    exact Wk.refl _
abbrev k130_o0 : List AJ := [.o ⟨(some 4), none, false, .mv (.c .nilsl), (some [0, 1])⟩]
abbrev k130_o1 : List AJ := [.o ⟨(some 5), none, false, .mv (.t 1), none⟩, .o ⟨(some 6), none, false, .bin .lss (.t 5) (.c (.int .i64 0)), (some [0, 1, 6])⟩]
def k130_2 : ACode := .cond (.t 6) .bad .skip
def k130_3 : ACode := .seq (.region k130_o1) k130_2
abbrev k130_o2 : List AJ := [.o ⟨(some 8), none, false, .mv (.t 1), none⟩, .o ⟨(some 9), none, false, .mv (.t 0), none⟩, .o ⟨(some 10), none, false, .capk (.t 9), none⟩, .o ⟨(some 11), none, false, .mv (.t 0), none⟩, .o ⟨(some 12), none, false, .len (.t 11), none⟩, .o ⟨(some 13), none, true, .bin .sub (.t 10) (.t 12), none⟩, .o ⟨(some 14), none, true, .bin .sub (.t 8) (.t 13), none⟩, .o ⟨(some 1), none, false, .mv (.t 14), (some [0, 1])⟩]
abbrev k130_o3 : List AJ := [.o ⟨(some 15), none, false, .mv (.t 1), none⟩, .o ⟨(some 16), none, false, .bin .gtr (.t 15) (.c (.int .i64 0)), (some [0, 1, 16])⟩]
abbrev k130_o4 : List AJ := [.o ⟨(some 17), none, false, .mv (.t 0), none⟩, .o ⟨(some 18), none, false, .mv (.t 0), none⟩, .o ⟨(some 19), none, false, .capk (.t 18), none⟩, .o ⟨(some 20), none, false, .slice 1 (.t 17) none (some (.t 19)) none, none⟩, .o ⟨(some 21), none, false, .mv (.t 1), none⟩, .o ⟨(some 22), none, false, .appendz 1 8 (.int .i64 0) (.t 20) (.t 21), none⟩, .o ⟨(some 23), none, false, .mv (.t 0), none⟩, .o ⟨(some 24), none, false, .len (.t 23), none⟩, .o ⟨(some 25), none, false, .slice 1 (.t 22) none (some (.t 24)) none, none⟩, .o ⟨(some 0), none, false, .mv (.t 25), (some [0])⟩]
def k130_6 : ACode := .region k130_o4
def k130_7 : ACode := .cond (.t 16) k130_6 .skip
def k130_8 : ACode := .seq (.region k130_o3) k130_7
def k130_9 : ACode := .seq (.region k130_o2) k130_8
abbrev k130_o5 : List AJ := [.o ⟨(some 26), none, false, .mv (.t 0), none⟩, .o ⟨(some 4), none, false, .mv (.t 26), (some [4])⟩]
def k130_11 : ACode := .seq (.region k130_o5) .ret
def k130_12 : ACode := .seq k130_9 k130_11
def k130_13 : ACode := .seq k130_3 k130_12
def k130_14 : ACode := .seq (.region k130_o0) k130_13
@[simp, simp ↓] theorem k130_2r : rC k130_2 (.t 6) .bad .skip := zC rfl
@[simp, simp ↓] theorem k130_3r : sR k130_3 k130_o1 k130_2 := yR rfl
@[simp, simp ↓] theorem k130_6r : rR k130_6 k130_o4 := zR rfl
@[simp, simp ↓] theorem k130_7r : rC k130_7 (.t 16) k130_6 .skip := zC rfl
@[simp, simp ↓] theorem k130_8r : sR k130_8 k130_o3 k130_7 := yR rfl
@[simp, simp ↓] theorem k130_9r : sR k130_9 k130_o2 k130_8 := yR rfl
@[simp, simp ↓] theorem k130_11r : sR k130_11 k130_o5 .ret := yR rfl
@[simp, simp ↓] theorem k130_12r : rS k130_12 k130_9 k130_11 := zS rfl
@[simp, simp ↓] theorem k130_13r : rS k130_13 k130_3 k130_12 := zS rfl
@[simp, simp ↓] theorem k130_14r : sR k130_14 k130_o0 k130_13 := yR rfl
noncomputable abbrev k130_C : Orc → Cx := mkC Tryz.prog [] 130 27 [.tmp 4]
theorem k130_of0 : OfP0 Tryz.prog Tryz.f130 130 27 k130_C k130_14 := @ofP0 _ _ _ _ _ _ _ _ Tryz.func130 (by decide +kernel) rfl (by kernel_rfl) rfl (by kernel_rfl)
theorem GrowI_g (n : Nat) (h : Heap) (hn : n ≤ 1048576) : ACalls Tryz.prog 130 [.nilsl, .int .i64 n] h (fun v h' => ∃ hp, GrowX 1 v [] hp ∧ h' = hp ++ h) := by
  refine k130_of0 rfl noPure fun I => ?_
  refine Run2.of I 1000 ?_
  simp -implicitDefEqProofs
  refine ⟨by omega, fun h1 => ⟨h1, by omega, fun id _ => ⟨[(id, ⟨1, [] ++ List.replicate n (.int .i64 0)⟩)], .sl id [] _ 0 rfl, by simp⟩⟩, fun _ => .nil⟩
abbrev k112_o0 : List AJ := [.o ⟨(some 2), none, false, .mv (.c .nilsl), (some [0])⟩]
abbrev k112_o1 : List AJ := [.o ⟨(some 3), none, false, .mv (.c (.int .i64 0)), (some [0, 3])⟩]
abbrev k112_o2 : List AJ := [.o ⟨(some 9), none, false, .mv (.t 0), none⟩, .o ⟨(some 10), none, false, .len (.t 9), none⟩, .o ⟨(some 11), none, false, .mv (.c (.int .i64 0)), (some [0, 3, 9, 10, 11])⟩]
abbrev k112_o3 : List AJ := [.o ⟨(some 12), none, false, .bin .lss (.t 11) (.t 10), (some [0, 3, 9, 10, 11, 12])⟩]
abbrev k112_o4 : List AJ := [.o ⟨(some 13), none, false, .idxA 1 (.t 9) (.t 11), none⟩, .o ⟨(some 14), none, false, .load 1 false (.t 13), none⟩, .o ⟨(some 5), none, false, .mv (.t 14), (some [0, 3, 5, 9, 10, 11])⟩]
abbrev k112_o5 : List AJ := [.o ⟨(some 15), none, false, .mv (.t 3), none⟩, .o ⟨(some 16), none, false, .mv (.t 5), none⟩, .o ⟨(some 17), none, false, .len (.t 16), none⟩, .o ⟨(some 18), none, true, .bin .add (.t 15) (.t 17), none⟩, .o ⟨(some 3), none, false, .mv (.t 18), (some [0, 3, 9, 10, 11])⟩]
abbrev k112_o6 : List AJ := [.o ⟨(some 19), none, false, .mv (.t 3), none⟩, .o ⟨(some 20), none, false, .bin .lss (.t 19) (.c (.int .i64 0)), (some [0, 3, 9, 10, 11, 20])⟩]
def k112_8 : ACode := .cond (.t 20) .bad .skip
def k112_9 : ACode := .seq (.region k112_o6) k112_8
def k112_10 : ACode := .seq (.region k112_o5) k112_9
def k112_11 : ACode := .seq (.region k112_o4) k112_10
abbrev k112_o7 : List AJ := [.o ⟨(some 22), none, true, .bin .add (.t 11) (.c (.int .i64 1)), none⟩, .o ⟨(some 11), none, false, .mv (.t 22), (some [0, 3, 9, 10, 11])⟩]
def k112_13 : ACode := .region k112_o7
def k112_14 : ACode := .seq (.block 1 k112_11) k112_13
def k112_15 : ACode := .seq (.cond (.t 12) .skip (.exit 0)) k112_14
def k112_16 : ACode := .seq (.region k112_o3) k112_15
def k112_17 : ACode := .loop k112_16
def k112_18 : ACode := .block 0 k112_17
def k112_19 : ACode := .seq (.region k112_o2) k112_18
abbrev k112_o8 : List AJ := [.o ⟨(some 23), none, false, .mv (.t 3), none⟩, .o ⟨(some 24), none, false, .call 130 [(.c .nilsl), (.t 23)], none⟩, .o ⟨(some 6), none, false, .mv (.t 24), (some [0, 6])⟩]
abbrev k112_o9 : List AJ := [.o ⟨(some 25), none, false, .mv (.t 0), none⟩, .o ⟨(some 26), none, false, .len (.t 25), none⟩, .o ⟨(some 27), none, false, .mv (.c (.int .i64 0)), (some [6, 25, 26, 27])⟩]
abbrev k112_o10 : List AJ := [.o ⟨(some 28), none, false, .bin .lss (.t 27) (.t 26), (some [6, 25, 26, 27, 28])⟩]
abbrev k112_o11 : List AJ := [.o ⟨(some 29), none, false, .idxA 1 (.t 25) (.t 27), none⟩, .o ⟨(some 30), none, false, .load 1 false (.t 29), none⟩, .o ⟨(some 8), none, false, .mv (.t 30), (some [6, 8, 25, 26, 27])⟩]
abbrev k112_o12 : List AJ := [.o ⟨(some 31), none, false, .mv (.t 6), none⟩, .o ⟨(some 32), none, false, .mv (.t 8), none⟩, .o ⟨(some 33), none, false, .append 1 8 (.t 31) (.t 32), none⟩, .o ⟨(some 6), none, false, .mv (.t 33), (some [6, 25, 26, 27])⟩]
def k112_25 : ACode := .region k112_o12
def k112_26 : ACode := .seq (.region k112_o11) k112_25
abbrev k112_o13 : List AJ := [.o ⟨(some 34), none, true, .bin .add (.t 27) (.c (.int .i64 1)), none⟩, .o ⟨(some 27), none, false, .mv (.t 34), (some [6, 25, 26, 27])⟩]
def k112_28 : ACode := .region k112_o13
def k112_29 : ACode := .seq (.block 3 k112_26) k112_28
def k112_30 : ACode := .seq (.cond (.t 28) .skip (.exit 2)) k112_29
def k112_31 : ACode := .seq (.region k112_o10) k112_30
def k112_32 : ACode := .loop k112_31
def k112_33 : ACode := .block 2 k112_32
def k112_34 : ACode := .seq (.region k112_o9) k112_33
abbrev k112_o14 : List AJ := [.o ⟨(some 35), none, false, .mv (.t 6), none⟩, .o ⟨(some 2), none, false, .mv (.t 35), (some [2])⟩]
def k112_36 : ACode := .seq (.region k112_o14) .ret
def k112_37 : ACode := .seq k112_34 k112_36
def k112_38 : ACode := .seq (.region k112_o8) k112_37
def k112_39 : ACode := .seq k112_19 k112_38
def k112_40 : ACode := .seq (.region k112_o1) k112_39
def k112_41 : ACode := .seq (.region k112_o0) k112_40
@[simp, simp ↓] theorem k112_8r : rC k112_8 (.t 20) .bad .skip := zC rfl
@[simp, simp ↓] theorem k112_9r : sR k112_9 k112_o6 k112_8 := yR rfl
@[simp, simp ↓] theorem k112_10r : sR k112_10 k112_o5 k112_9 := yR rfl
@[simp, simp ↓] theorem k112_11r : sR k112_11 k112_o4 k112_10 := yR rfl
@[simp, simp ↓] theorem k112_13r : rR k112_13 k112_o7 := zR rfl
@[simp, simp ↓] theorem k112_14r : sB k112_14 1 k112_11 k112_13 := yB rfl
@[simp, simp ↓] theorem k112_15r : sC k112_15 (.t 12) .skip (.exit 0) k112_14 := yC rfl
@[simp, simp ↓] theorem k112_16r : sR k112_16 k112_o3 k112_15 := yR rfl
@[simp, simp ↓] theorem k112_17r : rL k112_17 k112_16 := zL rfl
@[simp, simp ↓] theorem k112_18r : rB k112_18 0 k112_17 := zB rfl
@[simp, simp ↓] theorem k112_19r : sR k112_19 k112_o2 k112_18 := yR rfl
@[simp, simp ↓] theorem k112_25r : rR k112_25 k112_o12 := zR rfl
@[simp, simp ↓] theorem k112_26r : sR k112_26 k112_o11 k112_25 := yR rfl
@[simp, simp ↓] theorem k112_28r : rR k112_28 k112_o13 := zR rfl
@[simp, simp ↓] theorem k112_29r : sB k112_29 3 k112_26 k112_28 := yB rfl
@[simp, simp ↓] theorem k112_30r : sC k112_30 (.t 28) .skip (.exit 2) k112_29 := yC rfl
@[simp, simp ↓] theorem k112_31r : sR k112_31 k112_o10 k112_30 := yR rfl
@[simp, simp ↓] theorem k112_32r : rL k112_32 k112_31 := zL rfl
@[simp, simp ↓] theorem k112_33r : rB k112_33 2 k112_32 := zB rfl
@[simp, simp ↓] theorem k112_34r : sR k112_34 k112_o9 k112_33 := yR rfl
@[simp, simp ↓] theorem k112_36r : sR k112_36 k112_o14 .ret := yR rfl
@[simp, simp ↓] theorem k112_37r : rS k112_37 k112_34 k112_36 := zS rfl
@[simp, simp ↓] theorem k112_38r : sR k112_38 k112_o8 k112_37 := yR rfl
@[simp, simp ↓] theorem k112_39r : rS k112_39 k112_19 k112_38 := zS rfl
@[simp, simp ↓] theorem k112_40r : sR k112_40 k112_o1 k112_39 := yR rfl
@[simp, simp ↓] theorem k112_41r : sR k112_41 k112_o0 k112_40 := yR rfl
noncomputable abbrev k112_C : Orc → Cx := mkC Tryz.prog [] 112 36 [.tmp 2]
theorem k112_of0 : OfP0 Tryz.prog Tryz.f112 112 36 k112_C k112_41 := @ofP0 _ _ _ _ _ _ _ _ Tryz.func112 (by decide +kernel) rfl (by kernel_rfl) rfl (by kernel_rfl)
theorem ConcatI_g (parts : List (List AV)) (h : Heap) (hl : parts.length ≤ 1048576) (ht : parts.flatten.length ≤ 1048576) : ACalls Tryz.prog 112 [.snap 1 (parts.map (.snap 1))] h (fun v h' => ∃ hp, GrowX 1 v parts.flatten hp ∧ h' = hp ++ h) := by
  have hfl : ∀ i, (parts.take i).flatten.length ≤ parts.flatten.length := fun i => by
    conv => rhs; rw [← List.take_append_drop i parts]
    rw [List.flatten_append, List.length_append]; omega
  have hfs : ∀ i (hi : i < parts.length), (parts.take (i + 1)).flatten = (parts.take i).flatten ++ parts[i] := fun i hi => by
    rw [List.take_succ_eq_append_getElem hi, List.flatten_append]; simp
  refine k112_of0 rfl noPure fun I => ?_
  refine Run2.of I 1000 ?_
  simp -implicitDefEqProofs
  refine Run2.loopE (fun (i : Nat) => [(0, .snap 1 (parts.map (.snap 1))), (3, .int .i64 ((parts.take i).flatten.length : Nat)), (9, .snap 1 (parts.map (.snap 1))), (10, .int .i64 parts.length), (11, .int .i64 i)]) (fun i => h) (fun i => parts.length - i) (fun i => i ≤ parts.length) 0 (by simp) rfl (Nat.zero_le _) fun i hi ih => ?_
  by_cases hlt : i < parts.length
  · have go := ih (i + 1) (by omega) (by omega)
    have h1 := hfl (i + 1)
    rw [hfs i hlt, List.length_append] at go h1
    clear ih
    generalize hL : (parts.take i).flatten.length = L at *
    generalize hP : parts[i] = p at *
    refine Run2.of I 1000 ?_
    simp -implicitDefEqProofs [hlt, hP]
    refine ⟨by omega, by omega, fun _ => ⟨by omega, ?_⟩⟩
    simpa using go
  · obtain rfl : i = parts.length := by omega
    rw [List.take_length]
    refine Run2.of I 1000 ?_
    simp -implicitDefEqProofs
    have hS : (parts.map List.length).sum ≤ 1048576 := by rw [← List.length_flatten]; exact ht
    refine (GrowI_g _ h hS).mono ?_
    rintro v h' ⟨hp0, g0, rfl⟩
    have hcell0 := g0.cell
    refine gK.go ?_
    simp -implicitDefEqProofs [hcell0]
    refine Run2.loopE (α := Nat × AV × Heap) (fun s => [(6, s.2.1), (25, .snap 1 (parts.map (.snap 1))), (26, .int .i64 parts.length), (27, .int .i64 (s.1 : Nat))]) (fun s => s.2.2 ++ h) (fun s => parts.length - s.1) (fun s => s.1 ≤ parts.length ∧ GrowX 1 s.2.1 (parts.take s.1).flatten s.2.2) (0, v, hp0) (by simp) rfl ⟨Nat.zero_le _, by simpa using g0⟩ ?_
    rintro ⟨i, w, hp⟩ ⟨hi2, hg⟩ ih2
    simp only at hi2 hg
    have hcell := hg.cell
    by_cases hlt : i < parts.length
    · have go := fun w' hp' (g : GrowX 1 w' ((parts.take i).flatten ++ parts[i]) hp') => ih2 (i + 1, w', hp') ⟨hlt, by simp only; rw [hfs i hlt]; exact g⟩ (by simp; omega)
      have h1 := hfl (i + 1)
      rw [hfs i hlt, List.length_append] at h1
      clear ih2
      generalize hP : parts[i] = p at *
      refine Run2.of I 1000 ?_
      simp -implicitDefEqProofs [hlt, hP, hcell]
      refine hg.app (by omega) fun w' hp' hg' => ?_
      have hcell' := hg'.cell
      simp -implicitDefEqProofs [hcell']
      refine ⟨by omega, ?_⟩
      simpa using go w' hp' hg'
    · obtain rfl : i = parts.length := by omega
      rw [List.take_length] at hg
      refine Run2.of I 1000 ?_
      simp -implicitDefEqProofs [hcell]
      exact hg
theorem flatten2 (a b : List AV) : [a, b].flatten = a ++ b := by simp
theorem ConcatI_f (a b : List Int) (h : Heap) (ha : a.length + b.length ≤ 1048576) : ACalls Tryz.prog 112 [.snap 1 [.snap 1 (a.map iv), .snap 1 (b.map iv)]] h (fun v h' => v = il (a ++ b) ∧ h' = h) := by
  have := ConcatI_g [a.map iv, b.map iv] h (by simp) (by simpa using ha)
  rw [flatten2] at this
  refine ACalls.post (ACalls.mono (by simpa using this) ?_)
  rintro v h' ⟨hp, g, rfl⟩
  refine Post.lend (.wk g.lent (.base ⟨?_, rfl⟩))
  simp
end Go.AG
