/- Small functions of complexes, and what they give. No statement is made here. -/
import Derived.Test.YtamjnegnoijjlaaFilA
import Derived.Test.YtamjnegnoijjlaaAGLists2
namespace Go.AG
open Go.Proofs Go.Proofs.Ytamjnegnoijjlaa
set_option linter.unusedSimpArgs false
set_option linter.unusedVariables false
set_option maxRecDepth 4000
abbrev k67_o0 : List AJ := [.o ⟨(some 6), none, false, .mv (.c (.bool false)), (some [0, 1, 2])⟩]
abbrev k67_o1 : List AJ := [.o ⟨(some 7), none, false, .mv (.t 0), none⟩, .o ⟨(some 8), none, false, .mv (.t 1), none⟩, .o ⟨(some 9), none, false, .bin .geq (.t 7) (.t 8), none⟩, .o ⟨(some 10), none, false, .mv (.t 9), none⟩, .o ⟨(some 11), (some (10, true)), false, .mv (.t 0), none⟩, .o ⟨(some 12), (some (10, true)), false, .mv (.t 2), none⟩, .o ⟨(some 13), (some (10, true)), false, .bin .leq (.t 11) (.t 12), none⟩, .o ⟨(some 14), none, false, .pick (.t 10) (.t 13) (.c (.bool false)), none⟩, .o ⟨(some 6), none, false, .mv (.t 14), (some [6])⟩]
def k67_2 : ACode := .seq (.region k67_o1) .ret
def k67_3 : ACode := .seq (.region k67_o0) k67_2
@[simp, simp ↓] theorem k67_2r : sR k67_2 k67_o1 .ret := yR rfl
@[simp, simp ↓] theorem k67_3r : sR k67_3 k67_o0 k67_2 := yR rfl
noncomputable abbrev k67_C : Orc → Cx := mkC Try.prog [] 67 15 [.tmp 6]
theorem k67_of0 : OfP0 Try.prog Try.f67 67 15 k67_C k67_3 := @ofP0 _ _ _ _ _ _ _ _ Try.func67 (by decide +kernel) rfl (by kernel_rfl) rfl (by kernel_rfl)
theorem l00In_c (a b c : Int) (h : Heap) : ACalls Try.prog 67 [.int .i64 a, .int .i64 b, .int .i64 c] h (fun v h' => v = .bool (decide (b ≤ a) && decide (a ≤ c)) ∧ h' = h) := by
  refine k67_of0 rfl noPure fun I => ?_
  refine Run2.of I 1000 ?_
  simp -implicitDefEqProofs
  grind
noncomputable def o_l00In : List AV → Option (Prop × AV) := tab (fun (x : Int × Int × Int) => match x with | (a, b, c) => [.int .i64 a, .int .i64 b, .int .i64 c]) (fun x => match x with | (a, b, c) => True) (fun x => match x with | (a, b, c) => .bool (decide (b ≤ a) && decide (a ≤ c)))
@[simp] theorem o_l00In_e (a : Int) (b : Int) (c : Int) : o_l00In [.int .i64 a, .int .i64 b, .int .i64 c] = some (True, .bool (decide (b ≤ a) && decide (a ≤ c))) := tab_at (enc := fun (x : Int × Int × Int) => match x with | (a, b, c) => [.int .i64 a, .int .i64 b, .int .i64 c]) (fun x y h => by
  obtain ⟨a1, b1, c1⟩ := x; obtain ⟨a2, b2, c2⟩ := y; simp at h; simp [h] <;> omega) _ _ (a, b, c)
theorem o_l00In_k : Knows Try.prog 67 o_l00In := tab_knows fun x hx h => by
  obtain ⟨a, b, c⟩ := x; exact l00In_c _ _ _ h
abbrev k69_o0 : List AJ := [.o ⟨(some 6), none, false, .mv (.c (.bool false)), (some [0, 1, 2])⟩]
abbrev k69_o1 : List AJ := [.o ⟨(some 7), none, false, .mv (.t 0), none⟩, .o ⟨(some 8), none, false, .mv (.t 1), none⟩, .o ⟨(some 9), none, false, .bin .geq (.t 7) (.t 8), none⟩, .o ⟨(some 10), none, false, .mv (.t 9), none⟩, .o ⟨(some 11), (some (10, true)), false, .mv (.t 0), none⟩, .o ⟨(some 12), (some (10, true)), false, .mv (.t 2), none⟩, .o ⟨(some 13), (some (10, true)), false, .bin .leq (.t 11) (.t 12), none⟩, .o ⟨(some 14), none, false, .pick (.t 10) (.t 13) (.c (.bool false)), none⟩, .o ⟨(some 6), none, false, .mv (.t 14), (some [6])⟩]
def k69_2 : ACode := .seq (.region k69_o1) .ret
def k69_3 : ACode := .seq (.region k69_o0) k69_2
@[simp, simp ↓] theorem k69_2r : sR k69_2 k69_o1 .ret := yR rfl
@[simp, simp ↓] theorem k69_3r : sR k69_3 k69_o0 k69_2 := yR rfl
noncomputable abbrev k69_C : Orc → Cx := mkC Try.prog [] 69 15 [.tmp 6]
theorem k69_of0 : OfP0 Try.prog Try.f69 69 15 k69_C k69_3 := @ofP0 _ _ _ _ _ _ _ _ Try.func69 (by decide +kernel) rfl (by kernel_rfl) rfl (by kernel_rfl)
theorem within_c (a b c : Int) (h : Heap) : ACalls Try.prog 69 [.int .i64 a, .int .i64 b, .int .i64 c] h (fun v h' => v = .bool (decide (b ≤ a) && decide (a ≤ c)) ∧ h' = h) := by
  refine k69_of0 rfl noPure fun I => ?_
  refine Run2.of I 1000 ?_
  simp -implicitDefEqProofs
  grind
noncomputable def o_within : List AV → Option (Prop × AV) := tab (fun (x : Int × Int × Int) => match x with | (a, b, c) => [.int .i64 a, .int .i64 b, .int .i64 c]) (fun x => match x with | (a, b, c) => True) (fun x => match x with | (a, b, c) => .bool (decide (b ≤ a) && decide (a ≤ c)))
@[simp] theorem o_within_e (a : Int) (b : Int) (c : Int) : o_within [.int .i64 a, .int .i64 b, .int .i64 c] = some (True, .bool (decide (b ≤ a) && decide (a ≤ c))) := tab_at (enc := fun (x : Int × Int × Int) => match x with | (a, b, c) => [.int .i64 a, .int .i64 b, .int .i64 c]) (fun x y h => by
  obtain ⟨a1, b1, c1⟩ := x; obtain ⟨a2, b2, c2⟩ := y; simp at h; simp [h] <;> omega) _ _ (a, b, c)
theorem o_within_k : Knows Try.prog 69 o_within := tab_knows fun x hx h => by
  obtain ⟨a, b, c⟩ := x; exact within_c _ _ _ h
abbrev k142_o0 : List AJ := [.o ⟨(some 2), none, false, .mv (.c (.bool false)), (some [0])⟩]
abbrev k142_o1 : List AJ := [.o ⟨(some 3), none, false, .mv (.t 0), none⟩, .o ⟨(some 4), none, false, .mv (.t 0), none⟩, .o ⟨(some 5), none, false, .bin .neq (.t 3) (.t 4), none⟩, .o ⟨(some 2), none, false, .mv (.t 5), (some [2])⟩]
def k142_2 : ACode := .seq (.region k142_o1) .ret
def k142_3 : ACode := .seq (.region k142_o0) k142_2
@[simp, simp ↓] theorem k142_2r : sR k142_2 k142_o1 .ret := yR rfl
@[simp, simp ↓] theorem k142_3r : sR k142_3 k142_o0 k142_2 := yR rfl
noncomputable abbrev k142_C : Orc → Cx := mkC Try.prog [] 142 6 [.tmp 2]
theorem k142_of0 : OfP0 Try.prog Try.f142 142 6 k142_C k142_3 := @ofP0 _ _ _ _ _ _ _ _ Try.func142 (by decide +kernel) rfl (by kernel_rfl) rfl (by kernel_rfl)
theorem isNaN_c (a : Int) (h : Heap) : ACalls Try.prog 142 [.int .i64 a] h (fun v h' => v = .bool false ∧ h' = h) := by
  refine k142_of0 rfl noPure fun I => ?_
  refine Run2.of I 1000 ?_
  simp -implicitDefEqProofs
noncomputable def o_isNaN : List AV → Option (Prop × AV) := tab (fun (x : Int) => match x with | a => [.int .i64 a]) (fun x => match x with | a => True) (fun x => match x with | a => .bool false)
@[simp] theorem o_isNaN_e (a : Int) : o_isNaN [.int .i64 a] = some (True, .bool false) := tab_at (enc := fun (x : Int) => match x with | a => [.int .i64 a]) (fun x y h => by
  simp at h; simp [h] <;> omega) _ _ a
theorem o_isNaN_k : Knows Try.prog 142 o_isNaN := tab_knows fun x hx h => by
  exact isNaN_c _ h
abbrev k143_o0 : List AJ := [.o ⟨(some 2), none, false, .mv (.c (.bool false)), (some [0])⟩]
abbrev k143_o1 : List AJ := [.o ⟨(some 3), none, false, .mv (.t 0), none⟩, .o ⟨(some 4), none, false, .mv (.t 0), none⟩, .o ⟨(some 5), none, false, .bin .neq (.t 3) (.t 4), none⟩, .o ⟨(some 2), none, false, .mv (.t 5), (some [2])⟩]
def k143_2 : ACode := .seq (.region k143_o1) .ret
def k143_3 : ACode := .seq (.region k143_o0) k143_2
@[simp, simp ↓] theorem k143_2r : sR k143_2 k143_o1 .ret := yR rfl
@[simp, simp ↓] theorem k143_3r : sR k143_3 k143_o0 k143_2 := yR rfl
noncomputable abbrev k143_C : Orc → Cx := mkC Try.prog [] 143 6 [.tmp 2]
theorem k143_of0 : OfP0 Try.prog Try.f143 143 6 k143_C k143_3 := @ofP0 _ _ _ _ _ _ _ _ Try.func143 (by decide +kernel) rfl (by kernel_rfl) rfl (by kernel_rfl)
theorem isNaNi_c (a : Int) (h : Heap) : ACalls Try.prog 143 [.int .i64 a] h (fun v h' => v = .bool false ∧ h' = h) := by
  refine k143_of0 rfl noPure fun I => ?_
  refine Run2.of I 1000 ?_
  simp -implicitDefEqProofs
noncomputable def o_isNaNi : List AV → Option (Prop × AV) := tab (fun (x : Int) => match x with | a => [.int .i64 a]) (fun x => match x with | a => True) (fun x => match x with | a => .bool false)
@[simp] theorem o_isNaNi_e (a : Int) : o_isNaNi [.int .i64 a] = some (True, .bool false) := tab_at (enc := fun (x : Int) => match x with | a => [.int .i64 a]) (fun x y h => by
  simp at h; simp [h] <;> omega) _ _ a
theorem o_isNaNi_k : Knows Try.prog 143 o_isNaNi := tab_knows fun x hx h => by
  exact isNaNi_c _ h
noncomputable def orc1 : List (Nat × (List AV → Option (Prop × AV))) := (67, o_l00In) :: (69, o_within) :: (142, o_isNaN) :: (143, o_isNaNi) :: []
theorem orc1_p : Pure Try.prog (lk orc1) := (lk_pure o_l00In_k (lk_pure o_within_k (lk_pure o_isNaN_k (lk_pure o_isNaNi_k lk_pure0))))
@[simp] theorem orc1_l (b : Bool) (g : FuncId) (l : List AV) : lk orc1 b g l = if g = 67 then o_l00In l else if g = 69 then o_within l else if g = 142 then o_isNaN l else if g = 143 then o_isNaNi l else none := nr rfl
abbrev k127_o0 : List AJ := [.o ⟨(some 4), none, false, .mv (.c (.int .i64 0)), (some [0, 1])⟩]
abbrev k127_o1 : List AJ := [.o ⟨(some 7), none, false, .mv (.t 0), none⟩, .o ⟨(some 8), none, false, .call 142 [(.t 7)], none⟩, .o ⟨(some 5), none, false, .mv (.t 8), (some [0, 1, 5])⟩]
abbrev k127_o2 : List AJ := [.o ⟨(some 9), none, false, .mv (.t 1), none⟩, .o ⟨(some 10), none, false, .call 142 [(.t 9)], none⟩, .o ⟨(some 6), none, false, .mv (.t 10), (some [0, 1, 5, 6])⟩]
abbrev k127_o3 : List AJ := [.o ⟨(some 11), none, false, .mv (.t 5), (some [0, 1, 6, 11])⟩]
abbrev k127_o4 : List AJ := [.o ⟨(some 12), none, false, .mv (.t 6), (some [12])⟩]
abbrev k127_o5 : List AJ := [.o ⟨(some 4), none, false, .mv (.c (.int .i64 0)), (some [4])⟩]
def k127_6 : ACode := .seq (.region k127_o5) .ret
def k127_7 : ACode := .cond (.t 12) k127_6 .skip
def k127_8 : ACode := .seq (.region k127_o4) k127_7
abbrev k127_o6 : List AJ := [.o ⟨(some 4), none, false, .mv (.c (.int .i64 (-1))), (some [4])⟩]
def k127_10 : ACode := .seq (.region k127_o6) .ret
def k127_11 : ACode := .seq k127_8 k127_10
def k127_12 : ACode := .cond (.t 11) k127_11 .skip
def k127_13 : ACode := .seq (.region k127_o3) k127_12
abbrev k127_o7 : List AJ := [.o ⟨(some 13), none, false, .mv (.t 6), (some [0, 1, 13])⟩]
abbrev k127_o8 : List AJ := [.o ⟨(some 4), none, false, .mv (.c (.int .i64 1)), (some [4])⟩]
def k127_16 : ACode := .seq (.region k127_o8) .ret
def k127_17 : ACode := .cond (.t 13) k127_16 .skip
def k127_18 : ACode := .seq (.region k127_o7) k127_17
abbrev k127_o9 : List AJ := [.o ⟨(some 14), none, false, .mv (.t 0), none⟩, .o ⟨(some 15), none, false, .mv (.t 1), none⟩, .o ⟨(some 16), none, false, .bin .lss (.t 14) (.t 15), (some [0, 1, 16])⟩]
abbrev k127_o10 : List AJ := [.o ⟨(some 4), none, false, .mv (.c (.int .i64 (-1))), (some [4])⟩]
def k127_21 : ACode := .seq (.region k127_o10) .ret
def k127_22 : ACode := .cond (.t 16) k127_21 .skip
def k127_23 : ACode := .seq (.region k127_o9) k127_22
abbrev k127_o11 : List AJ := [.o ⟨(some 17), none, false, .mv (.t 0), none⟩, .o ⟨(some 18), none, false, .mv (.t 1), none⟩, .o ⟨(some 19), none, false, .bin .gtr (.t 17) (.t 18), (some [19])⟩]
abbrev k127_o12 : List AJ := [.o ⟨(some 4), none, false, .mv (.c (.int .i64 1)), (some [4])⟩]
def k127_26 : ACode := .seq (.region k127_o12) .ret
def k127_27 : ACode := .cond (.t 19) k127_26 .skip
def k127_28 : ACode := .seq (.region k127_o11) k127_27
abbrev k127_o13 : List AJ := [.o ⟨(some 4), none, false, .mv (.c (.int .i64 0)), (some [4])⟩]
def k127_30 : ACode := .seq (.region k127_o13) .ret
def k127_31 : ACode := .seq k127_28 k127_30
def k127_32 : ACode := .seq k127_23 k127_31
def k127_33 : ACode := .seq k127_18 k127_32
def k127_34 : ACode := .seq k127_13 k127_33
def k127_35 : ACode := .seq (.region k127_o2) k127_34
def k127_36 : ACode := .seq (.region k127_o1) k127_35
def k127_37 : ACode := .seq (.region k127_o0) k127_36
@[simp, simp ↓] theorem k127_6r : sR k127_6 k127_o5 .ret := yR rfl
@[simp, simp ↓] theorem k127_7r : rC k127_7 (.t 12) k127_6 .skip := zC rfl
@[simp, simp ↓] theorem k127_8r : sR k127_8 k127_o4 k127_7 := yR rfl
@[simp, simp ↓] theorem k127_10r : sR k127_10 k127_o6 .ret := yR rfl
@[simp, simp ↓] theorem k127_11r : rS k127_11 k127_8 k127_10 := zS rfl
@[simp, simp ↓] theorem k127_12r : rC k127_12 (.t 11) k127_11 .skip := zC rfl
@[simp, simp ↓] theorem k127_13r : sR k127_13 k127_o3 k127_12 := yR rfl
@[simp, simp ↓] theorem k127_16r : sR k127_16 k127_o8 .ret := yR rfl
@[simp, simp ↓] theorem k127_17r : rC k127_17 (.t 13) k127_16 .skip := zC rfl
@[simp, simp ↓] theorem k127_18r : sR k127_18 k127_o7 k127_17 := yR rfl
@[simp, simp ↓] theorem k127_21r : sR k127_21 k127_o10 .ret := yR rfl
@[simp, simp ↓] theorem k127_22r : rC k127_22 (.t 16) k127_21 .skip := zC rfl
@[simp, simp ↓] theorem k127_23r : sR k127_23 k127_o9 k127_22 := yR rfl
@[simp, simp ↓] theorem k127_26r : sR k127_26 k127_o12 .ret := yR rfl
@[simp, simp ↓] theorem k127_27r : rC k127_27 (.t 19) k127_26 .skip := zC rfl
@[simp, simp ↓] theorem k127_28r : sR k127_28 k127_o11 k127_27 := yR rfl
@[simp, simp ↓] theorem k127_30r : sR k127_30 k127_o13 .ret := yR rfl
@[simp, simp ↓] theorem k127_31r : rS k127_31 k127_28 k127_30 := zS rfl
@[simp, simp ↓] theorem k127_32r : rS k127_32 k127_23 k127_31 := zS rfl
@[simp, simp ↓] theorem k127_33r : rS k127_33 k127_18 k127_32 := zS rfl
@[simp, simp ↓] theorem k127_34r : rS k127_34 k127_13 k127_33 := zS rfl
@[simp, simp ↓] theorem k127_35r : sR k127_35 k127_o2 k127_34 := yR rfl
@[simp, simp ↓] theorem k127_36r : sR k127_36 k127_o1 k127_35 := yR rfl
@[simp, simp ↓] theorem k127_37r : sR k127_37 k127_o0 k127_36 := yR rfl
noncomputable abbrev k127_C : Orc → Cx := mkC Try.prog [] 127 20 [.tmp 4]
theorem k127_of0 : OfP0 Try.prog Try.f127 127 20 k127_C k127_37 := @ofP0 _ _ _ _ _ _ _ _ Try.func127 (by decide +kernel) rfl (by kernel_rfl) rfl (by kernel_rfl)
theorem compare_c (a b : Int) (h : Heap) : ACalls Try.prog 127 [.int .i64 a, .int .i64 b] h (fun v h' => v = .int .i64 (cmpZ a b) ∧ h' = h) := by
  refine k127_of0 rfl orc1_p fun I => ?_
  refine Run2.of I 1000 ?_
  simp -implicitDefEqProofs [cmpZ]
  grind
noncomputable def o_compare : List AV → Option (Prop × AV) := tab (fun (x : Int × Int) => match x with | (a, b) => [.int .i64 a, .int .i64 b]) (fun x => match x with | (a, b) => True) (fun x => match x with | (a, b) => .int .i64 (cmpZ a b))
@[simp] theorem o_compare_e (a : Int) (b : Int) : o_compare [.int .i64 a, .int .i64 b] = some (True, .int .i64 (cmpZ a b)) := tab_at (enc := fun (x : Int × Int) => match x with | (a, b) => [.int .i64 a, .int .i64 b]) (fun x y h => by
  obtain ⟨a1, b1⟩ := x; obtain ⟨a2, b2⟩ := y; simp at h; simp [h] <;> omega) _ _ (a, b)
theorem o_compare_k : Knows Try.prog 127 o_compare := tab_knows fun x hx h => by
  obtain ⟨a, b⟩ := x; exact compare_c _ _ h
abbrev k133_o0 : List AJ := [.o ⟨(some 4), none, false, .mv (.c (.int .i64 0)), (some [0, 1])⟩]
abbrev k133_o1 : List AJ := [.o ⟨(some 7), none, false, .mv (.t 0), none⟩, .o ⟨(some 8), none, false, .call 143 [(.t 7)], none⟩, .o ⟨(some 5), none, false, .mv (.t 8), (some [0, 1, 5])⟩]
abbrev k133_o2 : List AJ := [.o ⟨(some 9), none, false, .mv (.t 1), none⟩, .o ⟨(some 10), none, false, .call 143 [(.t 9)], none⟩, .o ⟨(some 6), none, false, .mv (.t 10), (some [0, 1, 5, 6])⟩]
abbrev k133_o3 : List AJ := [.o ⟨(some 11), none, false, .mv (.t 5), (some [0, 1, 6, 11])⟩]
abbrev k133_o4 : List AJ := [.o ⟨(some 12), none, false, .mv (.t 6), (some [12])⟩]
abbrev k133_o5 : List AJ := [.o ⟨(some 4), none, false, .mv (.c (.int .i64 0)), (some [4])⟩]
def k133_6 : ACode := .seq (.region k133_o5) .ret
def k133_7 : ACode := .cond (.t 12) k133_6 .skip
def k133_8 : ACode := .seq (.region k133_o4) k133_7
abbrev k133_o6 : List AJ := [.o ⟨(some 4), none, false, .mv (.c (.int .i64 (-1))), (some [4])⟩]
def k133_10 : ACode := .seq (.region k133_o6) .ret
def k133_11 : ACode := .seq k133_8 k133_10
def k133_12 : ACode := .cond (.t 11) k133_11 .skip
def k133_13 : ACode := .seq (.region k133_o3) k133_12
abbrev k133_o7 : List AJ := [.o ⟨(some 13), none, false, .mv (.t 6), (some [0, 1, 13])⟩]
abbrev k133_o8 : List AJ := [.o ⟨(some 4), none, false, .mv (.c (.int .i64 1)), (some [4])⟩]
def k133_16 : ACode := .seq (.region k133_o8) .ret
def k133_17 : ACode := .cond (.t 13) k133_16 .skip
def k133_18 : ACode := .seq (.region k133_o7) k133_17
abbrev k133_o9 : List AJ := [.o ⟨(some 14), none, false, .mv (.t 0), none⟩, .o ⟨(some 15), none, false, .mv (.t 1), none⟩, .o ⟨(some 16), none, false, .bin .lss (.t 14) (.t 15), (some [0, 1, 16])⟩]
abbrev k133_o10 : List AJ := [.o ⟨(some 4), none, false, .mv (.c (.int .i64 (-1))), (some [4])⟩]
def k133_21 : ACode := .seq (.region k133_o10) .ret
def k133_22 : ACode := .cond (.t 16) k133_21 .skip
def k133_23 : ACode := .seq (.region k133_o9) k133_22
abbrev k133_o11 : List AJ := [.o ⟨(some 17), none, false, .mv (.t 0), none⟩, .o ⟨(some 18), none, false, .mv (.t 1), none⟩, .o ⟨(some 19), none, false, .bin .gtr (.t 17) (.t 18), (some [19])⟩]
abbrev k133_o12 : List AJ := [.o ⟨(some 4), none, false, .mv (.c (.int .i64 1)), (some [4])⟩]
def k133_26 : ACode := .seq (.region k133_o12) .ret
def k133_27 : ACode := .cond (.t 19) k133_26 .skip
def k133_28 : ACode := .seq (.region k133_o11) k133_27
abbrev k133_o13 : List AJ := [.o ⟨(some 4), none, false, .mv (.c (.int .i64 0)), (some [4])⟩]
def k133_30 : ACode := .seq (.region k133_o13) .ret
def k133_31 : ACode := .seq k133_28 k133_30
def k133_32 : ACode := .seq k133_23 k133_31
def k133_33 : ACode := .seq k133_18 k133_32
def k133_34 : ACode := .seq k133_13 k133_33
def k133_35 : ACode := .seq (.region k133_o2) k133_34
def k133_36 : ACode := .seq (.region k133_o1) k133_35
def k133_37 : ACode := .seq (.region k133_o0) k133_36
@[simp, simp ↓] theorem k133_6r : sR k133_6 k133_o5 .ret := yR rfl
@[simp, simp ↓] theorem k133_7r : rC k133_7 (.t 12) k133_6 .skip := zC rfl
@[simp, simp ↓] theorem k133_8r : sR k133_8 k133_o4 k133_7 := yR rfl
@[simp, simp ↓] theorem k133_10r : sR k133_10 k133_o6 .ret := yR rfl
@[simp, simp ↓] theorem k133_11r : rS k133_11 k133_8 k133_10 := zS rfl
@[simp, simp ↓] theorem k133_12r : rC k133_12 (.t 11) k133_11 .skip := zC rfl
@[simp, simp ↓] theorem k133_13r : sR k133_13 k133_o3 k133_12 := yR rfl
@[simp, simp ↓] theorem k133_16r : sR k133_16 k133_o8 .ret := yR rfl
@[simp, simp ↓] theorem k133_17r : rC k133_17 (.t 13) k133_16 .skip := zC rfl
@[simp, simp ↓] theorem k133_18r : sR k133_18 k133_o7 k133_17 := yR rfl
@[simp, simp ↓] theorem k133_21r : sR k133_21 k133_o10 .ret := yR rfl
@[simp, simp ↓] theorem k133_22r : rC k133_22 (.t 16) k133_21 .skip := zC rfl
@[simp, simp ↓] theorem k133_23r : sR k133_23 k133_o9 k133_22 := yR rfl
@[simp, simp ↓] theorem k133_26r : sR k133_26 k133_o12 .ret := yR rfl
@[simp, simp ↓] theorem k133_27r : rC k133_27 (.t 19) k133_26 .skip := zC rfl
@[simp, simp ↓] theorem k133_28r : sR k133_28 k133_o11 k133_27 := yR rfl
@[simp, simp ↓] theorem k133_30r : sR k133_30 k133_o13 .ret := yR rfl
@[simp, simp ↓] theorem k133_31r : rS k133_31 k133_28 k133_30 := zS rfl
@[simp, simp ↓] theorem k133_32r : rS k133_32 k133_23 k133_31 := zS rfl
@[simp, simp ↓] theorem k133_33r : rS k133_33 k133_18 k133_32 := zS rfl
@[simp, simp ↓] theorem k133_34r : rS k133_34 k133_13 k133_33 := zS rfl
@[simp, simp ↓] theorem k133_35r : sR k133_35 k133_o2 k133_34 := yR rfl
@[simp, simp ↓] theorem k133_36r : sR k133_36 k133_o1 k133_35 := yR rfl
@[simp, simp ↓] theorem k133_37r : sR k133_37 k133_o0 k133_36 := yR rfl
noncomputable abbrev k133_C : Orc → Cx := mkC Try.prog [] 133 20 [.tmp 4]
theorem k133_of0 : OfP0 Try.prog Try.f133 133 20 k133_C k133_37 := @ofP0 _ _ _ _ _ _ _ _ Try.func133 (by decide +kernel) rfl (by kernel_rfl) rfl (by kernel_rfl)
theorem comparei_c (a b : Int) (h : Heap) : ACalls Try.prog 133 [.int .i64 a, .int .i64 b] h (fun v h' => v = .int .i64 (cmpZ a b) ∧ h' = h) := by
  refine k133_of0 rfl orc1_p fun I => ?_
  refine Run2.of I 1000 ?_
  simp -implicitDefEqProofs [cmpZ]
  grind
noncomputable def o_comparei : List AV → Option (Prop × AV) := tab (fun (x : Int × Int) => match x with | (a, b) => [.int .i64 a, .int .i64 b]) (fun x => match x with | (a, b) => True) (fun x => match x with | (a, b) => .int .i64 (cmpZ a b))
@[simp] theorem o_comparei_e (a : Int) (b : Int) : o_comparei [.int .i64 a, .int .i64 b] = some (True, .int .i64 (cmpZ a b)) := tab_at (enc := fun (x : Int × Int) => match x with | (a, b) => [.int .i64 a, .int .i64 b]) (fun x y h => by
  obtain ⟨a1, b1⟩ := x; obtain ⟨a2, b2⟩ := y; simp at h; simp [h] <;> omega) _ _ (a, b)
theorem o_comparei_k : Knows Try.prog 133 o_comparei := tab_knows fun x hx h => by
  obtain ⟨a, b⟩ := x; exact comparei_c _ _ h
def orI : List Int → Int
  | [] => 0
  | x :: xs => if x = 0 then orI xs else x
abbrev k132_o0 : List AJ := [.o ⟨(some 2), none, false, .mv (.c (.int .i64 0)), (some [0])⟩]
abbrev k132_o1 : List AJ := [.o ⟨(some 3), none, false, .mv (.c (.int .i64 0)), (some [0, 3])⟩]
abbrev k132_o2 : List AJ := [.o ⟨(some 6), none, false, .mv (.t 0), none⟩, .o ⟨(some 7), none, false, .len (.t 6), none⟩, .o ⟨(some 8), none, false, .mv (.c (.int .i64 0)), (some [3, 6, 7, 8])⟩]
abbrev k132_o3 : List AJ := [.o ⟨(some 9), none, false, .bin .lss (.t 8) (.t 7), (some [3, 6, 7, 8, 9])⟩]
abbrev k132_o4 : List AJ := [.o ⟨(some 10), none, false, .idxA 1 (.t 6) (.t 8), none⟩, .o ⟨(some 11), none, false, .load 1 false (.t 10), none⟩, .o ⟨(some 5), none, false, .mv (.t 11), (some [3, 5, 6, 7, 8])⟩]
abbrev k132_o5 : List AJ := [.o ⟨(some 12), none, false, .mv (.t 5), none⟩, .o ⟨(some 13), none, false, .mv (.t 3), none⟩, .o ⟨(some 14), none, false, .bin .neq (.t 12) (.t 13), (some [3, 5, 6, 7, 8, 14])⟩]
abbrev k132_o6 : List AJ := [.o ⟨(some 15), none, false, .mv (.t 5), none⟩, .o ⟨(some 2), none, false, .mv (.t 15), (some [2])⟩]
def k132_8 : ACode := .seq (.region k132_o6) .ret
def k132_9 : ACode := .cond (.t 14) k132_8 .skip
def k132_10 : ACode := .seq (.region k132_o5) k132_9
def k132_11 : ACode := .seq (.region k132_o4) k132_10
abbrev k132_o7 : List AJ := [.o ⟨(some 16), none, true, .bin .add (.t 8) (.c (.int .i64 1)), none⟩, .o ⟨(some 8), none, false, .mv (.t 16), (some [3, 6, 7, 8])⟩]
def k132_13 : ACode := .region k132_o7
def k132_14 : ACode := .seq (.block 1 k132_11) k132_13
def k132_15 : ACode := .seq (.cond (.t 9) .skip (.exit 0)) k132_14
def k132_16 : ACode := .seq (.region k132_o3) k132_15
def k132_17 : ACode := .loop k132_16
def k132_18 : ACode := .block 0 k132_17
def k132_19 : ACode := .seq (.region k132_o2) k132_18
abbrev k132_o8 : List AJ := [.o ⟨(some 17), none, false, .mv (.t 3), none⟩, .o ⟨(some 2), none, false, .mv (.t 17), (some [2])⟩]
def k132_21 : ACode := .seq (.region k132_o8) .ret
def k132_22 : ACode := .seq k132_19 k132_21
def k132_23 : ACode := .seq (.region k132_o1) k132_22
def k132_24 : ACode := .seq (.region k132_o0) k132_23
@[simp, simp ↓] theorem k132_8r : sR k132_8 k132_o6 .ret := yR rfl
@[simp, simp ↓] theorem k132_9r : rC k132_9 (.t 14) k132_8 .skip := zC rfl
@[simp, simp ↓] theorem k132_10r : sR k132_10 k132_o5 k132_9 := yR rfl
@[simp, simp ↓] theorem k132_11r : sR k132_11 k132_o4 k132_10 := yR rfl
@[simp, simp ↓] theorem k132_13r : rR k132_13 k132_o7 := zR rfl
@[simp, simp ↓] theorem k132_14r : sB k132_14 1 k132_11 k132_13 := yB rfl
@[simp, simp ↓] theorem k132_15r : sC k132_15 (.t 9) .skip (.exit 0) k132_14 := yC rfl
@[simp, simp ↓] theorem k132_16r : sR k132_16 k132_o3 k132_15 := yR rfl
@[simp, simp ↓] theorem k132_17r : rL k132_17 k132_16 := zL rfl
@[simp, simp ↓] theorem k132_18r : rB k132_18 0 k132_17 := zB rfl
@[simp, simp ↓] theorem k132_19r : sR k132_19 k132_o2 k132_18 := yR rfl
@[simp, simp ↓] theorem k132_21r : sR k132_21 k132_o8 .ret := yR rfl
@[simp, simp ↓] theorem k132_22r : rS k132_22 k132_19 k132_21 := zS rfl
@[simp, simp ↓] theorem k132_23r : sR k132_23 k132_o1 k132_22 := yR rfl
@[simp, simp ↓] theorem k132_24r : sR k132_24 k132_o0 k132_23 := yR rfl
noncomputable abbrev k132_C : Orc → Cx := mkC Try.prog [] 132 18 [.tmp 2]
theorem k132_of0 : OfP0 Try.prog Try.f132 132 18 k132_C k132_24 := @ofP0 _ _ _ _ _ _ _ _ Try.func132 (by decide +kernel) rfl (by kernel_rfl) rfl (by kernel_rfl)
theorem or_c (l : List Int) (h : Heap) (hl : l.length ≤ 1048576) : ACalls Try.prog 132 [.snap 1 (l.map fun n => .int .i64 n)] h (fun v h' => v = .int .i64 (orI l) ∧ h' = h) := by
  refine k132_of0 rfl noPure fun I => ?_
  refine Run2.of I 1000 ?_
  simp -implicitDefEqProofs
  refine Run2.loop (fun i => [(3, .int .i64 0), (6, .snap 1 (l.map fun n => .int .i64 n)), (7, .int .i64 l.length), (8, .int .i64 (i : Nat))]) (fun i => h) (fun i => l.length - i) (fun i => i ≤ l.length ∧ orI (l.drop i) = orI l) 0 (by simp) fun i hi ih => ?_
  by_cases hlt : i < l.length
  · have hd : l.drop i = l[i] :: l.drop (i + 1) := List.drop_eq_getElem_cons hlt
    refine Run2.of I 1000 ?_
    simp -implicitDefEqProofs [hlt]
    constructor
    · intro hne
      rw [← hi.2, hd, orI, if_neg hne]
    · intro he
      refine ⟨by omega, ?_⟩
      have := ih (i + 1) ⟨by omega, by rw [← hi.2, hd, orI, if_pos he]⟩ (by omega)
      simpa using this
  · have : i = l.length := by omega
    have h2 := hi.2
    rw [List.drop_of_length_le (by omega)] at h2
    refine Run2.of I 1000 ?_
    simp -implicitDefEqProofs [hlt]
    exact h2
noncomputable def o_or2 : List AV → Option (Prop × AV) := tab (fun (x : Int × Int) => match x with | (a, b) => [.snap 1 [.int .i64 a, .int .i64 b]]) (fun x => match x with | (a, b) => True) (fun x => match x with | (a, b) => .int .i64 (orI [a, b]))
@[simp] theorem o_or2_e (a : Int) (b : Int) : o_or2 [.snap 1 [.int .i64 a, .int .i64 b]] = some (True, .int .i64 (orI [a, b])) := tab_at (enc := fun (x : Int × Int) => match x with | (a, b) => [.snap 1 [.int .i64 a, .int .i64 b]]) (fun x y h => by
  obtain ⟨a1, b1⟩ := x; obtain ⟨a2, b2⟩ := y; simp at h; simp [h] <;> omega) _ _ (a, b)
theorem o_or2_k : Knows Try.prog 132 o_or2 := tab_knows fun x hx h => by
  obtain ⟨a, b⟩ := x; exact or_c [a, b] h (by simp)
noncomputable def orc2 : List (Nat × (List AV → Option (Prop × AV))) := (127, o_compare) :: (133, o_comparei) :: (132, o_or2) :: orc1
theorem orc2_p : Pure Try.prog (lk orc2) := (lk_pure o_compare_k (lk_pure o_comparei_k (lk_pure o_or2_k orc1_p)))
@[simp] theorem orc2_l (b : Bool) (g : FuncId) (l : List AV) : lk orc2 b g l = if g = 127 then o_compare l else if g = 133 then o_comparei l else if g = 132 then o_or2 l else lk orc1 b g l := nr rfl
def btw (l : List Int) (a b : Int) : Prop := ∀ k ∈ l, a ≤ k ∧ k ≤ b
noncomputable instance (l : List Int) (a b : Int) : Decidable (btw l a b ∧ riseS l) := Classical.propDecidable _
theorem rising_to {r : List Int} (i : Nat) (h : ∀ j (h : j + 1 < r.length), j + 1 < i → r[j] < r[j + 1]) (hi : r.length ≤ i) : riseS r := fun j hj => h j hj (by omega)
abbrev k105_o0 : List AJ := [.o ⟨(some 4), none, false, .mv (.c (.int .i64 0)), (some [0, 1])⟩]
abbrev k105_o1 : List AJ := [.o ⟨(some 6), none, false, .mv (.t 0), none⟩, .o ⟨(some 7), none, false, .len (.t 6), none⟩, .o ⟨(some 8), none, false, .mv (.c (.int .i64 0)), (some [0, 1, 7, 8])⟩]
abbrev k105_o2 : List AJ := [.o ⟨(some 9), none, false, .bin .lss (.t 8) (.t 7), (some [0, 1, 7, 8, 9])⟩]
abbrev k105_o3 : List AJ := [.o ⟨(some 10), none, false, .mv (.t 8), none⟩, .o ⟨(some 5), none, false, .mv (.t 10), (some [0, 1, 5, 7, 8])⟩]
abbrev k105_o4 : List AJ := [.o ⟨(some 11), none, false, .mv (.t 1), none⟩, .o ⟨(some 12), none, false, .mv (.t 0), none⟩, .o ⟨(some 13), none, false, .mv (.t 5), none⟩, .o ⟨(some 14), none, false, .idxA 1 (.t 12) (.t 13), none⟩, .o ⟨(some 15), none, false, .load 1 false (.t 14), none⟩, .o ⟨(some 16), none, false, .callv (.t 11) [(.t 15)], (some [0, 1, 5, 7, 8, 16])⟩]
abbrev k105_o5 : List AJ := [.o ⟨(some 17), none, false, .mv (.t 5), none⟩, .o ⟨(some 4), none, false, .mv (.t 17), (some [4])⟩]
def k105_7 : ACode := .seq (.region k105_o5) .ret
def k105_8 : ACode := .cond (.t 16) k105_7 .skip
def k105_9 : ACode := .seq (.region k105_o4) k105_8
def k105_10 : ACode := .seq (.region k105_o3) k105_9
abbrev k105_o6 : List AJ := [.o ⟨(some 18), none, true, .bin .add (.t 8) (.c (.int .i64 1)), none⟩, .o ⟨(some 8), none, false, .mv (.t 18), (some [0, 1, 7, 8])⟩]
def k105_12 : ACode := .region k105_o6
def k105_13 : ACode := .seq (.block 1 k105_10) k105_12
def k105_14 : ACode := .seq (.cond (.t 9) .skip (.exit 0)) k105_13
def k105_15 : ACode := .seq (.region k105_o2) k105_14
def k105_16 : ACode := .loop k105_15
def k105_17 : ACode := .block 0 k105_16
def k105_18 : ACode := .seq (.region k105_o1) k105_17
abbrev k105_o7 : List AJ := [.o ⟨(some 4), none, false, .mv (.c (.int .i64 (-1))), (some [4])⟩]
def k105_20 : ACode := .seq (.region k105_o7) .ret
def k105_21 : ACode := .seq k105_18 k105_20
def k105_22 : ACode := .seq (.region k105_o0) k105_21
@[simp, simp ↓] theorem k105_7r : sR k105_7 k105_o5 .ret := yR rfl
@[simp, simp ↓] theorem k105_8r : rC k105_8 (.t 16) k105_7 .skip := zC rfl
@[simp, simp ↓] theorem k105_9r : sR k105_9 k105_o4 k105_8 := yR rfl
@[simp, simp ↓] theorem k105_10r : sR k105_10 k105_o3 k105_9 := yR rfl
@[simp, simp ↓] theorem k105_12r : rR k105_12 k105_o6 := zR rfl
@[simp, simp ↓] theorem k105_13r : sB k105_13 1 k105_10 k105_12 := yB rfl
@[simp, simp ↓] theorem k105_14r : sC k105_14 (.t 9) .skip (.exit 0) k105_13 := yC rfl
@[simp, simp ↓] theorem k105_15r : sR k105_15 k105_o2 k105_14 := yR rfl
@[simp, simp ↓] theorem k105_16r : rL k105_16 k105_15 := zL rfl
@[simp, simp ↓] theorem k105_17r : rB k105_17 0 k105_16 := zB rfl
@[simp, simp ↓] theorem k105_18r : sR k105_18 k105_o1 k105_17 := yR rfl
@[simp, simp ↓] theorem k105_20r : sR k105_20 k105_o7 .ret := yR rfl
@[simp, simp ↓] theorem k105_21r : rS k105_21 k105_18 k105_20 := zS rfl
@[simp, simp ↓] theorem k105_22r : sR k105_22 k105_o0 k105_21 := yR rfl
noncomputable abbrev k105_C : Orc → Cx := mkC Try.prog [] 105 19 [.tmp 4]
theorem k105_of0 : OfP0 Try.prog Try.f105 105 19 k105_C k105_22 := @ofP0 _ _ _ _ _ _ _ _ Try.func105 (by decide +kernel) rfl (by kernel_rfl) rfl (by kernel_rfl)
/-- The first place where q holds. -/
def idxf (q : Int → Bool) (l : List Int) : Int := match l.findIdx? q with
  | some i => i
  | none => -1
theorem idxf_at {q : Int → Bool} {l : List Int} {i : Nat} (h : i < l.length) (hb : ∀ j (hj : j < l.length), j < i → q l[j] = false) (ht : q l[i] = true) : idxf q l = i := by
  have : l.findIdx? q = some i := List.findIdx?_eq_some_iff_getElem.2 ⟨h, ht, fun j hj => by simp [hb j (by omega) hj]⟩
  unfold idxf; rw [this]
theorem idxf_none {q : Int → Bool} {l : List Int} (hb : ∀ j (hj : j < l.length), q l[j] = false) : idxf q l = -1 := by
  have : l.findIdx? q = none := List.findIdx?_eq_none_iff.2 fun a ha => by
    obtain ⟨j, hj, rfl⟩ := List.mem_iff_getElem.1 ha
    simp [hb j hj]
  unfold idxf; rw [this]
theorem idxf_ge (q : Int → Bool) (l : List Int) : (0 ≤ idxf q l) ↔ ∃ a ∈ l, q a = true := by
  unfold idxf
  cases h : l.findIdx? q with
  | none =>
    rw [List.findIdx?_eq_none_iff] at h
    simp only [show ¬ (0 : Int) ≤ -1 by omega, false_iff]
    rintro ⟨a, ha, hq⟩
    have := h a ha
    rw [hq] at this; cases this
  | some i =>
    obtain ⟨hi, hq, _⟩ := List.findIdx?_eq_some_iff_getElem.1 h
    simp only [Int.natCast_nonneg, true_iff]
    exact ⟨_, List.getElem_mem hi, hq⟩
theorem IndexFunc_s (l : List Int) (g : FuncId) (caps : List AV) (q : Int → Bool) (h : Heap) (hl : l.length ≤ 1048576) (hq : ∀ a ∈ l, ACalls Try.prog g (.int .i64 a :: caps) h (fun v h' => v = .bool (q a) ∧ h' = h)) :
    ACalls Try.prog 105 [.snap 1 (l.map iv), .fn g caps] h (fun v h' => v = .int .i64 (idxf q l) ∧ h' = h) := by
  refine k105_of0 rfl noPure fun I => ?_
  refine Run2.of I 1000 ?_
  simp -implicitDefEqProofs
  refine Run2.loopE (fun i => [(0, .snap 1 (l.map iv)), (1, .fn g caps), (7, .int .i64 l.length), (8, .int .i64 (i : Nat))]) (fun i => h) (fun i => l.length - i) (fun i => i ≤ l.length ∧ ∀ j (hj : j < l.length), j < i → q l[j] = false) 0 (by simp) rfl ⟨Nat.zero_le _, fun _ _ h => absurd h (Nat.not_lt_zero _)⟩ fun i hi ih => ?_
  by_cases hlt : i < l.length
  · have go := fun (h1 : q l[i] = false) => ih (i + 1) ⟨by omega, fun j hj hji => by
      rcases Nat.lt_or_ge j i with h | h
      · exact hi.2 j hj h
      · obtain rfl : j = i := by omega
        exact h1⟩ (by omega)
    have hat := idxf_at (q := q) hlt hi.2
    clear ih
    refine Run2.of I 1000 ?_
    simp -implicitDefEqProofs [hlt]
    refine (hq _ (List.getElem_mem hlt)).mono ?_
    rintro v h' ⟨rfl, rfl⟩
    refine gK.go ?_
    simp -implicitDefEqProofs
    refine ⟨fun h => (hat h).symm, fun h => ⟨by omega, ?_⟩⟩
    simpa using go h
  · obtain rfl : i = l.length := by omega
    have := idxf_none (q := q) (l := l) fun j hj => hi.2 j hj hj
    refine Run2.of I 1000 ?_
    simp -implicitDefEqProofs
    exact this.symm
abbrev k55_o0 : List AJ := [.o ⟨(some 4), none, false, .mv (.c (.bool false)), (some [0, 1])⟩]
abbrev k55_o1 : List AJ := [.o ⟨(some 5), none, false, .mv (.t 0), none⟩, .o ⟨(some 6), none, false, .mv (.t 1), none⟩, .o ⟨(some 7), none, false, .call 105 [(.t 5), (.t 6)], none⟩, .o ⟨(some 8), none, false, .bin .geq (.t 7) (.c (.int .i64 0)), none⟩, .o ⟨(some 4), none, false, .mv (.t 8), (some [4])⟩]
def k55_2 : ACode := .seq (.region k55_o1) .ret
def k55_3 : ACode := .seq (.region k55_o0) k55_2
@[simp, simp ↓] theorem k55_2r : sR k55_2 k55_o1 .ret := yR rfl
@[simp, simp ↓] theorem k55_3r : sR k55_3 k55_o0 k55_2 := yR rfl
noncomputable abbrev k55_C : Orc → Cx := mkC Try.prog [] 55 9 [.tmp 4]
theorem k55_of0 : OfP0 Try.prog Try.f55 55 9 k55_C k55_3 := @ofP0 _ _ _ _ _ _ _ _ Try.func55 (by decide +kernel) rfl (by kernel_rfl) rfl (by kernel_rfl)
theorem ContainsFunc_s (l : List Int) (g : FuncId) (caps : List AV) (q : Int → Bool) (h : Heap) (hl : l.length ≤ 1048576) (hq : ∀ a ∈ l, ACalls Try.prog g (.int .i64 a :: caps) h (fun v h' => v = .bool (q a) ∧ h' = h)) :
    ACalls Try.prog 55 [.snap 1 (l.map iv), .fn g caps] h (fun v h' => v = .bool (l.any q) ∧ h' = h) := by
  refine k55_of0 rfl noPure fun I => ?_
  refine Run2.of I 1000 ?_
  simp -implicitDefEqProofs
  refine (IndexFunc_s l g caps q h hl hq).mono ?_
  rintro v h' ⟨rfl, rfl⟩
  refine gK.go ?_
  simp -implicitDefEqProofs [idxf_ge]
  rw [Bool.eq_iff_iff]
  simp
abbrev k129_o0 : List AJ := [.o ⟨(some 2), none, false, .mv (.c (.bool false)), (some [0])⟩]
abbrev k129_o1 : List AJ := [.o ⟨(some 3), none, false, .mv (.c (.int .i64 1)), (some [0, 3])⟩]
abbrev k129_o2 : List AJ := [.o ⟨(some 4), none, false, .mv (.t 3), none⟩, .o ⟨(some 5), none, false, .mv (.t 0), none⟩, .o ⟨(some 6), none, false, .len (.t 5), none⟩, .o ⟨(some 7), none, false, .bin .lss (.t 4) (.t 6), (some [0, 3, 7])⟩]
def k129_3 : ACode := .cond (.t 7) .skip (.exit 0)
def k129_4 : ACode := .seq (.region k129_o2) k129_3
abbrev k129_o3 : List AI := [⟨(some 10), none, false, .mv (.t 0), none⟩, ⟨(some 11), none, false, .mv (.t 3), none⟩, ⟨(some 12), none, true, .bin .sub (.t 11) (.c (.int .i64 1)), none⟩, ⟨(some 13), none, false, .idxA 1 (.t 10) (.t 12), none⟩, ⟨(some 14), none, false, .load 1 false (.t 13), none⟩, ⟨(some 15), none, false, .mv (.t 0), none⟩, ⟨(some 16), none, false, .mv (.t 3), none⟩, ⟨(some 17), none, false, .idxA 1 (.t 15) (.t 16), none⟩, ⟨(some 18), none, false, .load 1 false (.t 17), none⟩, ⟨(some 19), none, false, .bin .geq (.t 14) (.t 18), (some [0, 3, 19])⟩]
abbrev k129_o4 : List AJ := [.o ⟨(some 2), none, false, .mv (.c (.bool false)), (some [2])⟩]
def k129_7 : ACode := .seq (.region k129_o4) .ret
def k129_8 : ACode := .cond (.t 19) k129_7 .skip
def k129_9 : ACode := .seq (.draw k129_o3 [] rfl) k129_8
abbrev k129_o5 : List AJ := [.o ⟨(some 8), none, false, .mv (.t 3), none⟩, .o ⟨(some 9), none, true, .bin .add (.t 8) (.c (.int .i64 1)), none⟩, .o ⟨(some 3), none, false, .mv (.t 9), (some [0, 3])⟩]
def k129_11 : ACode := .region k129_o5
def k129_12 : ACode := .seq (.block 1 k129_9) k129_11
def k129_13 : ACode := .seq k129_4 k129_12
def k129_14 : ACode := .loop k129_13
def k129_15 : ACode := .block 0 k129_14
def k129_16 : ACode := .seq (.region k129_o1) k129_15
abbrev k129_o6 : List AJ := [.o ⟨(some 2), none, false, .mv (.c (.bool true)), (some [2])⟩]
def k129_18 : ACode := .seq (.region k129_o6) .ret
def k129_19 : ACode := .seq k129_16 k129_18
def k129_20 : ACode := .seq (.region k129_o0) k129_19
@[simp, simp ↓] theorem k129_3r : rC k129_3 (.t 7) .skip (.exit 0) := zC rfl
@[simp, simp ↓] theorem k129_4r : sR k129_4 k129_o2 k129_3 := yR rfl
@[simp, simp ↓] theorem k129_7r : sR k129_7 k129_o4 .ret := yR rfl
@[simp, simp ↓] theorem k129_8r : rC k129_8 (.t 19) k129_7 .skip := zC rfl
@[simp, simp ↓] theorem k129_9r : sD k129_9 k129_o3 [] k129_8 := yD rfl
@[simp, simp ↓] theorem k129_11r : rR k129_11 k129_o5 := zR rfl
@[simp, simp ↓] theorem k129_12r : sB k129_12 1 k129_9 k129_11 := yB rfl
@[simp, simp ↓] theorem k129_13r : rS k129_13 k129_4 k129_12 := zS rfl
@[simp, simp ↓] theorem k129_14r : rL k129_14 k129_13 := zL rfl
@[simp, simp ↓] theorem k129_15r : rB k129_15 0 k129_14 := zB rfl
@[simp, simp ↓] theorem k129_16r : sR k129_16 k129_o1 k129_15 := yR rfl
@[simp, simp ↓] theorem k129_18r : sR k129_18 k129_o6 .ret := yR rfl
@[simp, simp ↓] theorem k129_19r : rS k129_19 k129_16 k129_18 := zS rfl
@[simp, simp ↓] theorem k129_20r : sR k129_20 k129_o0 k129_19 := yR rfl
noncomputable abbrev k129_C : Orc → Cx := mkC Try.prog [] 129 20 [.tmp 2]
theorem k129_of0 : OfP0 Try.prog Try.f129 129 20 k129_C k129_20 := @ofP0 _ _ _ _ _ _ _ _ Try.func129 (by decide +kernel) rfl (by kernel_rfl) rfl (by kernel_rfl)
theorem isRising_s (l : List Int) (h : Heap) (hl : l.length ≤ 1048576) : ACalls Try.prog 129 [.snap 1 (l.map iv)] h (fun v h' => v = .bool (decide (riseS l)) ∧ h' = h) := by
  refine k129_of0 rfl noPure fun I => ?_
  refine Run2.of I 1000 ?_
  simp -implicitDefEqProofs
  refine Run2.loopE (fun i => [(0, .snap 1 (l.map iv)), (3, .int .i64 (i + 1 : Nat))]) (fun i => h) (fun i => l.length - i) (fun i => (i = 0 ∨ i < l.length) ∧ ∀ j (hj : j + 1 < l.length), j + 1 < i + 1 → l[j] < l[j + 1]) 0 (by simp) rfl ⟨.inl rfl, fun _ _ h => by omega⟩ fun i hi ih => ?_
  by_cases hlt : i + 1 < l.length
  · have hlt' : i < l.length := by omega
    have hc : ((i : Int) + 1 - 1).toNat = i := by omega
    have go := fun (h1 : l[i] < l[i + 1]) => ih (i + 1) ⟨.inr (by omega), fun j hj hji => by
      rcases Nat.lt_or_ge j i with h | h
      · exact hi.2 j hj (by omega)
      · obtain rfl : j = i := by omega
        exact h1⟩ (by omega)
    have hbad : l[i + 1] ≤ l[i] → ¬ riseS l := fun h1 h2 => by have := h2 i hlt; omega
    clear ih
    refine Run2.of I 1000 ?_
    simp -implicitDefEqProofs [hlt, hlt', hc]
    simp at go
    repeat' (first | refine And.intro ?_ ?_ | intro _)
    all_goals first | omega | (unfold in64; omega) | exact absurd ‹riseS l› (hbad (by omega)) | exact go (by omega)
  · have hr := rising_to (r := l) (i + 1) hi.2 (by omega)
    have hlt2 : ¬ ((i : Int) + 1 < l.length) := by omega
    refine Run2.of I 1000 ?_
    simp -implicitDefEqProofs [hlt, hlt2]
    exact hr
noncomputable def o_isRising : List AV → Option (Prop × AV) := tab (fun (x : List Int) => match x with | l => [.snap 1 (l.map iv)]) (fun x => match x with | l => l.length ≤ 1048576) (fun x => match x with | l => .bool (decide (riseS l)))
@[simp] theorem o_isRising_e (l : List Int) : o_isRising [.snap 1 (l.map iv)] = some (l.length ≤ 1048576, .bool (decide (riseS l))) := tab_at (enc := fun (x : List Int) => match x with | l => [.snap 1 (l.map iv)]) (fun x y h => by
  simp at h; simp [h] <;> omega) _ _ l
theorem o_isRising_k : Knows Try.prog 129 o_isRising := tab_knows fun x hx h => by
  exact isRising_s x h hx
abbrev k139_o0 : List AJ := [.o ⟨(some 6), none, false, .mv (.c (.bool false)), (some [0, 1, 2])⟩]
abbrev k139_o1 : List AJ := [.o ⟨(some 7), none, false, .mv (.c (.int .i64 0)), (some [0, 1, 2, 7])⟩]
abbrev k139_o2 : List AJ := [.o ⟨(some 8), none, false, .mv (.t 7), none⟩, .o ⟨(some 9), none, false, .mv (.t 0), none⟩, .o ⟨(some 10), none, false, .len (.t 9), none⟩, .o ⟨(some 11), none, false, .bin .lss (.t 8) (.t 10), (some [0, 1, 2, 7, 11])⟩]
def k139_3 : ACode := .cond (.t 11) .skip (.exit 0)
def k139_4 : ACode := .seq (.region k139_o2) k139_3
abbrev k139_o3 : List AI := [⟨(some 14), none, false, .mv (.t 0), none⟩, ⟨(some 15), none, false, .mv (.t 7), none⟩, ⟨(some 16), none, false, .idxA 1 (.t 14) (.t 15), none⟩, ⟨(some 17), none, false, .load 1 false (.t 16), none⟩, ⟨(some 18), none, false, .mv (.t 1), none⟩, ⟨(some 19), none, false, .mv (.t 2), none⟩, ⟨(some 20), none, false, .call 67 [(.t 17), (.t 18), (.t 19)], none⟩, ⟨(some 21), none, false, .un .not (.t 20), none⟩, ⟨(some 22), none, false, .mv (.t 21), none⟩, ⟨(some 23), (some (22, false)), false, .mv (.t 7), none⟩, ⟨(some 24), (some (22, false)), false, .bin .gtr (.t 23) (.c (.int .i64 0)), none⟩, ⟨(some 25), (some (22, false)), false, .mv (.t 24), (some [0, 1, 2, 7, 22, 25])⟩, ⟨(some 26), (some (25, true)), false, .mv (.t 0), none⟩, ⟨(some 27), (some (25, true)), false, .mv (.t 7), none⟩, ⟨(some 28), (some (25, true)), true, .bin .sub (.t 27) (.c (.int .i64 1)), none⟩, ⟨(some 29), (some (25, true)), false, .idxA 1 (.t 26) (.t 28), none⟩, ⟨(some 30), (some (25, true)), false, .load 1 false (.t 29), none⟩, ⟨(some 31), (some (25, true)), false, .mv (.t 0), none⟩, ⟨(some 32), (some (25, true)), false, .mv (.t 7), (some [0, 1, 2, 7, 22, 25, 30, 31, 32])⟩, ⟨(some 33), (some (25, true)), false, .idxA 1 (.t 31) (.t 32), none⟩, ⟨(some 34), (some (25, true)), false, .load 1 false (.t 33), none⟩, ⟨(some 35), (some (25, true)), false, .bin .geq (.t 30) (.t 34), none⟩, ⟨(some 36), (some (22, false)), false, .pick (.t 25) (.t 35) (.c (.bool false)), none⟩, ⟨(some 37), none, false, .pick (.t 22) (.c (.bool true)) (.t 36), (some [0, 1, 2, 7, 37])⟩]
abbrev k139_o4 : List AJ := [.o ⟨(some 6), none, false, .mv (.c (.bool false)), (some [6])⟩]
def k139_7 : ACode := .seq (.region k139_o4) .ret
def k139_8 : ACode := .cond (.t 37) k139_7 .skip
def k139_9 : ACode := .seq (.draw k139_o3 [] rfl) k139_8
abbrev k139_o5 : List AJ := [.o ⟨(some 12), none, false, .mv (.t 7), none⟩, .o ⟨(some 13), none, true, .bin .add (.t 12) (.c (.int .i64 1)), none⟩, .o ⟨(some 7), none, false, .mv (.t 13), (some [0, 1, 2, 7])⟩]
def k139_11 : ACode := .region k139_o5
def k139_12 : ACode := .seq (.block 1 k139_9) k139_11
def k139_13 : ACode := .seq k139_4 k139_12
def k139_14 : ACode := .loop k139_13
def k139_15 : ACode := .block 0 k139_14
def k139_16 : ACode := .seq (.region k139_o1) k139_15
abbrev k139_o6 : List AJ := [.o ⟨(some 6), none, false, .mv (.c (.bool true)), (some [6])⟩]
def k139_18 : ACode := .seq (.region k139_o6) .ret
def k139_19 : ACode := .seq k139_16 k139_18
def k139_20 : ACode := .seq (.region k139_o0) k139_19
@[simp, simp ↓] theorem k139_3r : rC k139_3 (.t 11) .skip (.exit 0) := zC rfl
@[simp, simp ↓] theorem k139_4r : sR k139_4 k139_o2 k139_3 := yR rfl
@[simp, simp ↓] theorem k139_7r : sR k139_7 k139_o4 .ret := yR rfl
@[simp, simp ↓] theorem k139_8r : rC k139_8 (.t 37) k139_7 .skip := zC rfl
@[simp, simp ↓] theorem k139_9r : sD k139_9 k139_o3 [] k139_8 := yD rfl
@[simp, simp ↓] theorem k139_11r : rR k139_11 k139_o5 := zR rfl
@[simp, simp ↓] theorem k139_12r : sB k139_12 1 k139_9 k139_11 := yB rfl
@[simp, simp ↓] theorem k139_13r : rS k139_13 k139_4 k139_12 := zS rfl
@[simp, simp ↓] theorem k139_14r : rL k139_14 k139_13 := zL rfl
@[simp, simp ↓] theorem k139_15r : rB k139_15 0 k139_14 := zB rfl
@[simp, simp ↓] theorem k139_16r : sR k139_16 k139_o1 k139_15 := yR rfl
@[simp, simp ↓] theorem k139_18r : sR k139_18 k139_o6 .ret := yR rfl
@[simp, simp ↓] theorem k139_19r : rS k139_19 k139_16 k139_18 := zS rfl
@[simp, simp ↓] theorem k139_20r : sR k139_20 k139_o0 k139_19 := yR rfl
noncomputable abbrev k139_C : Orc → Cx := mkC Try.prog [] 139 38 [.tmp 6]
theorem k139_of0 : OfP0 Try.prog Try.f139 139 38 k139_C k139_20 := @ofP0 _ _ _ _ _ _ _ _ Try.func139 (by decide +kernel) rfl (by kernel_rfl) rfl (by kernel_rfl)
theorem l00Rises_s (l : List Int) (a b : Int) (h : Heap) (hl : l.length ≤ 1048576) : ACalls Try.prog 139 [.snap 1 (l.map iv), .int .i64 a, .int .i64 b] h (fun v h' => v = .bool (decide (btw l a b ∧ riseS l)) ∧ h' = h) := by
  refine k139_of0 rfl orc1_p fun I => ?_
  refine Run2.of I 1000 ?_
  simp -implicitDefEqProofs
  refine Run2.loopE (fun (i : Nat) => [(0, .snap 1 (l.map iv)), (1, .int .i64 a), (2, .int .i64 b), (7, .int .i64 i)]) (fun i => h) (fun i => l.length - i) (fun i => i ≤ l.length ∧ (∀ j (hj : j < l.length), j < i → a ≤ l[j] ∧ l[j] ≤ b) ∧ ∀ j (hj : j + 1 < l.length), j + 1 < i → l[j] < l[j + 1]) 0 (by simp) rfl ⟨Nat.zero_le _, fun _ _ h => by omega, fun _ _ h => by omega⟩ fun i hi ih => ?_
  by_cases hlt : i < l.length
  · have hbad1 : ¬ (a ≤ l[i] ∧ l[i] ≤ b) → ¬ (btw l a b ∧ riseS l) := fun h1 h2 => h1 (h2.1 _ (List.getElem_mem hlt))
    cases i with
    | zero =>
      have go := fun (h1 : a ≤ l[0] ∧ l[0] ≤ b) => ih 1 ⟨by omega, fun j hj hji => by
        obtain rfl : j = 0 := by omega
        exact h1, fun j hj hji => by omega⟩ (by omega)
      clear ih
      refine Run2.of I 1000 ?_
      simp -implicitDefEqProofs [hlt]
      simp at go hbad1
      repeat' (first | refine And.intro ?_ ?_ | intro _)
      all_goals first | omega | grind
    | succ i =>
      have hlt' : i < l.length := by omega
      have hc : ((i : Int) + 1 - 1).toNat = i := by omega
      have hbad2 : ¬ l[i] < l[i + 1] → ¬ (btw l a b ∧ riseS l) := fun h1 h2 => h1 (h2.2 i hlt)
      have go := fun (h1 : a ≤ l[i + 1] ∧ l[i + 1] ≤ b) (h2 : l[i] < l[i + 1]) => ih (i + 1 + 1) ⟨by omega, fun j hj hji => by
        rcases Nat.lt_or_ge j (i + 1) with h | h
        · exact hi.2.1 j hj h
        · obtain rfl : j = i + 1 := by omega
          exact h1, fun j hj hji => by
        rcases Nat.lt_or_ge (j + 1) (i + 1) with h | h
        · exact hi.2.2 j hj h
        · obtain rfl : j = i := by omega
          exact h2⟩ (by omega)
      clear ih
      refine Run2.of I 1000 ?_
      simp -implicitDefEqProofs [hlt, hlt', hc]
      simp at go hbad1 hbad2
      repeat' (first | refine And.intro ?_ ?_ | intro _)
      all_goals first | omega | (unfold in64; omega) | grind
  · obtain rfl : i = l.length := by omega
    have h1 : ∀ k ∈ l, a ≤ k ∧ k ≤ b := fun k hk => by
      obtain ⟨j, hj, rfl⟩ := List.mem_iff_getElem.1 hk
      exact hi.2.1 j hj hj
    have h2 : riseS l := fun j hj => hi.2.2 j hj hj
    refine Run2.of I 1000 ?_
    simp -implicitDefEqProofs
    exact ⟨h1, h2⟩
noncomputable def o_l00Rises : List AV → Option (Prop × AV) := tab (fun (x : List Int × Int × Int) => match x with | (l, a, b) => [.snap 1 (l.map iv), .int .i64 a, .int .i64 b]) (fun x => match x with | (l, a, b) => l.length ≤ 1048576) (fun x => match x with | (l, a, b) => .bool (decide (btw l a b ∧ riseS l)))
@[simp] theorem o_l00Rises_e (l : List Int) (a : Int) (b : Int) : o_l00Rises [.snap 1 (l.map iv), .int .i64 a, .int .i64 b] = some (l.length ≤ 1048576, .bool (decide (btw l a b ∧ riseS l))) := tab_at (enc := fun (x : List Int × Int × Int) => match x with | (l, a, b) => [.snap 1 (l.map iv), .int .i64 a, .int .i64 b]) (fun x y h => by
  obtain ⟨l1, a1, b1⟩ := x; obtain ⟨l2, a2, b2⟩ := y; simp at h; simp [h] <;> omega) _ _ (l, a, b)
theorem o_l00Rises_k : Knows Try.prog 139 o_l00Rises := tab_knows fun x hx h => by
  obtain ⟨l, a, b⟩ := x; exact l00Rises_s l a b h hx
abbrev k89_o0 : List AJ := [.o ⟨(some 2), none, false, .mv (.c .nilsl), (some [0])⟩]
abbrev k89_o1 : List AJ := [.e 3 1 none, .o ⟨(some 4), none, false, .mv (.t 0), none⟩, .o ⟨(some 5), none, false, .append 1 8 (.t 3) (.t 4), none⟩, .o ⟨(some 2), none, false, .mv (.t 5), (some [2])⟩]
def k89_2 : ACode := .seq (.region k89_o1) .ret
def k89_3 : ACode := .seq (.region k89_o0) k89_2
@[simp, simp ↓] theorem k89_2r : sR k89_2 k89_o1 .ret := yR rfl
@[simp, simp ↓] theorem k89_3r : sR k89_3 k89_o0 k89_2 := yR rfl
noncomputable abbrev k89_C : Orc → Cx := mkC Try.prog [3] 89 6 [.tmp 2]
theorem k89_of0 : OfP0 Try.prog Try.f89 89 6 k89_C k89_3 := @ofP0 _ _ _ _ _ _ _ _ Try.func89 (by decide +kernel) rfl (by kernel_rfl) rfl (by kernel_rfl)
theorem l00Own_g (l : List Int) (h : Heap) (hl : l.length ≤ 1048576) : ACalls Try.prog 89 [.snap 1 (l.map iv)] h (fun v h' => ∃ hp, Grow 1 v (l.map iv) hp ∧ h' = hp ++ h) := by
  refine k89_of0 rfl noPure fun I => ?_
  cases l with
  | nil =>
    refine Run2.of I 1000 ?_
    simp -implicitDefEqProofs
    exact .emp
  | cons a l =>
    refine Run2.of I 1000 ?_
    simp -implicitDefEqProofs
    refine ⟨by simp at hl; omega, fun id hid => ⟨[(id, _)], .sl id _ _ (by simp), rfl⟩⟩
/-- A slice that is only appended to, with room behind it. -/
inductive GrowX (sz : Nat) : AV → List AV → Heap → Prop
  | nil : GrowX sz .nilsl [] []
  | sl (id : Nat) (l ex : List AV) (n : Nat) (hn : n = l.length) : GrowX sz (.sl id sz 0 n none) l [(id, ⟨sz, l ++ ex⟩)]
theorem GrowX.cell {sz : Nat} {w : AV} {l : List AV} {hp : Heap} (h : GrowX sz w l hp) : isCell w = true := by cases h <;> rfl
theorem GrowX.len {sz : Nat} {w : AV} {l : List AV} {hp : Heap} (h : GrowX sz w l hp) : lenR w = .val (.int .i64 l.length) := by
  cases h with
  | nil => simp
  | sl id l ex n hn => subst hn; simp
theorem GrowX.app {sz : Nat} {w : AV} {l new : List AV} {hp h : Heap} {C : Cx} {n : Nat} {d : Option Nat} {ks : Option (List Nat)} {is : List AJ} {sk : List AItem} {R : AV → Heap → Prop} {e : Env} {bytes : Nat} (g : GrowX sz w l hp) (hb : (2 * (l.length + new.length)) * bytes ≤ 281474976710656)
    (k : ∀ w' hp', GrowX sz w' (l ++ new) hp' → vc2 C n is sk (kp (put e d w') ks) (hp' ++ h) R) : resK C n d ks is sk R e (hp ++ h) (appR (hp ++ h) sz bytes w new) := by
  cases g with
  | nil =>
    simp only [appR_n, List.nil_append]
    refine ⟨fun he => ?_, fun _ => ⟨by simpa using hb, fun id _ => ?_⟩⟩
    · have : new = [] := by cases new <;> simp_all
      subst this
      exact k _ _ .nil
    · have := k _ _ (.sl id new [] new.length rfl)
      simpa using this
  | sl id l ex m hm =>
    subst hm
    have hd : hdel ((id, ⟨sz, l ++ ex⟩) :: h) id = h := by simp [hdel]
    rw [appR_ln]
    refine ⟨rfl, ⟨sz, l ++ ex⟩, by simp [hget], rfl, by simp, rfl, hb, fun id' _ => ?_⟩
    have := k _ _ (.sl id' (l ++ new) [] (l.length + new.length) (by simp))
    simpa [hd] using this
/-- Lent: it reads as frozen. -/
theorem GrowX.lent {w : AV} {l : List AV} {hp : Heap} (h : GrowX 1 w l hp) : Wk (lend1 hp w) (.snap 1 l) := by
  cases h with
  | nil => exact Wk.nil 1
  | sl id l ex n hn =>
    subst hn
    have : lend1 [(id, (⟨1, l ++ ex⟩ : Blk))] (.sl id 1 0 l.length none) = .snap 1 l := by simp [lend1, fz]
    rw [this]
    exact Wk.refl _
abbrev k144_o0 : List AJ := [.o ⟨(some 4), none, false, .mv (.c .nilsl), (some [0, 1])⟩]
abbrev k144_o1 : List AJ := [.o ⟨(some 5), none, false, .mv (.t 1), none⟩, .o ⟨(some 6), none, false, .bin .lss (.t 5) (.c (.int .i64 0)), (some [0, 1, 6])⟩]
def k144_2 : ACode := .cond (.t 6) .bad .skip
def k144_3 : ACode := .seq (.region k144_o1) k144_2
abbrev k144_o2 : List AJ := [.o ⟨(some 8), none, false, .mv (.t 1), none⟩, .o ⟨(some 9), none, false, .mv (.t 0), none⟩, .o ⟨(some 10), none, false, .capk (.t 9), none⟩, .o ⟨(some 11), none, false, .mv (.t 0), none⟩, .o ⟨(some 12), none, false, .len (.t 11), none⟩, .o ⟨(some 13), none, true, .bin .sub (.t 10) (.t 12), none⟩, .o ⟨(some 14), none, true, .bin .sub (.t 8) (.t 13), none⟩, .o ⟨(some 1), none, false, .mv (.t 14), (some [0, 1])⟩]
abbrev k144_o3 : List AJ := [.o ⟨(some 15), none, false, .mv (.t 1), none⟩, .o ⟨(some 16), none, false, .bin .gtr (.t 15) (.c (.int .i64 0)), (some [0, 1, 16])⟩]
abbrev k144_o4 : List AJ := [.o ⟨(some 17), none, false, .mv (.t 0), none⟩, .o ⟨(some 18), none, false, .mv (.t 0), none⟩, .o ⟨(some 19), none, false, .capk (.t 18), none⟩, .o ⟨(some 20), none, false, .slice 1 (.t 17) none (some (.t 19)) none, none⟩, .o ⟨(some 21), none, false, .mv (.t 1), none⟩, .o ⟨(some 22), none, false, .appendz 1 8 (.int .i64 0) (.t 20) (.t 21), none⟩, .o ⟨(some 23), none, false, .mv (.t 0), none⟩, .o ⟨(some 24), none, false, .len (.t 23), none⟩, .o ⟨(some 25), none, false, .slice 1 (.t 22) none (some (.t 24)) none, none⟩, .o ⟨(some 0), none, false, .mv (.t 25), (some [0])⟩]
def k144_6 : ACode := .region k144_o4
def k144_7 : ACode := .cond (.t 16) k144_6 .skip
def k144_8 : ACode := .seq (.region k144_o3) k144_7
def k144_9 : ACode := .seq (.region k144_o2) k144_8
abbrev k144_o5 : List AJ := [.o ⟨(some 26), none, false, .mv (.t 0), none⟩, .o ⟨(some 4), none, false, .mv (.t 26), (some [4])⟩]
def k144_11 : ACode := .seq (.region k144_o5) .ret
def k144_12 : ACode := .seq k144_9 k144_11
def k144_13 : ACode := .seq k144_3 k144_12
def k144_14 : ACode := .seq (.region k144_o0) k144_13
@[simp, simp ↓] theorem k144_2r : rC k144_2 (.t 6) .bad .skip := zC rfl
@[simp, simp ↓] theorem k144_3r : sR k144_3 k144_o1 k144_2 := yR rfl
@[simp, simp ↓] theorem k144_6r : rR k144_6 k144_o4 := zR rfl
@[simp, simp ↓] theorem k144_7r : rC k144_7 (.t 16) k144_6 .skip := zC rfl
@[simp, simp ↓] theorem k144_8r : sR k144_8 k144_o3 k144_7 := yR rfl
@[simp, simp ↓] theorem k144_9r : sR k144_9 k144_o2 k144_8 := yR rfl
@[simp, simp ↓] theorem k144_11r : sR k144_11 k144_o5 .ret := yR rfl
@[simp, simp ↓] theorem k144_12r : rS k144_12 k144_9 k144_11 := zS rfl
@[simp, simp ↓] theorem k144_13r : rS k144_13 k144_3 k144_12 := zS rfl
@[simp, simp ↓] theorem k144_14r : sR k144_14 k144_o0 k144_13 := yR rfl
noncomputable abbrev k144_C : Orc → Cx := mkC Try.prog [] 144 27 [.tmp 4]
theorem k144_of0 : OfP0 Try.prog Try.f144 144 27 k144_C k144_14 := @ofP0 _ _ _ _ _ _ _ _ Try.func144 (by decide +kernel) rfl (by kernel_rfl) rfl (by kernel_rfl)
theorem GrowI_g (n : Nat) (h : Heap) (hn : n ≤ 1048576) : ACalls Try.prog 144 [.nilsl, .int .i64 n] h (fun v h' => ∃ hp, GrowX 1 v [] hp ∧ h' = hp ++ h) := by
  refine k144_of0 rfl noPure fun I => ?_
  refine Run2.of I 1000 ?_
  simp -implicitDefEqProofs
  refine ⟨by omega, fun h1 => ⟨h1, by omega, fun id _ => ⟨[(id, ⟨1, [] ++ List.replicate n (.int .i64 0)⟩)], .sl id [] _ 0 rfl, by simp⟩⟩, fun _ => .nil⟩
abbrev k136_o0 : List AJ := [.o ⟨(some 2), none, false, .mv (.c .nilsl), (some [0])⟩]
abbrev k136_o1 : List AJ := [.o ⟨(some 3), none, false, .mv (.c (.int .i64 0)), (some [0, 3])⟩]
abbrev k136_o2 : List AJ := [.o ⟨(some 9), none, false, .mv (.t 0), none⟩, .o ⟨(some 10), none, false, .len (.t 9), none⟩, .o ⟨(some 11), none, false, .mv (.c (.int .i64 0)), (some [0, 3, 9, 10, 11])⟩]
abbrev k136_o3 : List AJ := [.o ⟨(some 12), none, false, .bin .lss (.t 11) (.t 10), (some [0, 3, 9, 10, 11, 12])⟩]
abbrev k136_o4 : List AJ := [.o ⟨(some 13), none, false, .idxA 1 (.t 9) (.t 11), none⟩, .o ⟨(some 14), none, false, .load 1 false (.t 13), none⟩, .o ⟨(some 5), none, false, .mv (.t 14), (some [0, 3, 5, 9, 10, 11])⟩]
abbrev k136_o5 : List AJ := [.o ⟨(some 15), none, false, .mv (.t 3), none⟩, .o ⟨(some 16), none, false, .mv (.t 5), none⟩, .o ⟨(some 17), none, false, .len (.t 16), none⟩, .o ⟨(some 18), none, true, .bin .add (.t 15) (.t 17), none⟩, .o ⟨(some 3), none, false, .mv (.t 18), (some [0, 3, 9, 10, 11])⟩]
abbrev k136_o6 : List AJ := [.o ⟨(some 19), none, false, .mv (.t 3), none⟩, .o ⟨(some 20), none, false, .bin .lss (.t 19) (.c (.int .i64 0)), (some [0, 3, 9, 10, 11, 20])⟩]
def k136_8 : ACode := .cond (.t 20) .bad .skip
def k136_9 : ACode := .seq (.region k136_o6) k136_8
def k136_10 : ACode := .seq (.region k136_o5) k136_9
def k136_11 : ACode := .seq (.region k136_o4) k136_10
abbrev k136_o7 : List AJ := [.o ⟨(some 22), none, true, .bin .add (.t 11) (.c (.int .i64 1)), none⟩, .o ⟨(some 11), none, false, .mv (.t 22), (some [0, 3, 9, 10, 11])⟩]
def k136_13 : ACode := .region k136_o7
def k136_14 : ACode := .seq (.block 1 k136_11) k136_13
def k136_15 : ACode := .seq (.cond (.t 12) .skip (.exit 0)) k136_14
def k136_16 : ACode := .seq (.region k136_o3) k136_15
def k136_17 : ACode := .loop k136_16
def k136_18 : ACode := .block 0 k136_17
def k136_19 : ACode := .seq (.region k136_o2) k136_18
abbrev k136_o8 : List AJ := [.o ⟨(some 23), none, false, .mv (.t 3), none⟩, .o ⟨(some 24), none, false, .call 144 [(.c .nilsl), (.t 23)], none⟩, .o ⟨(some 6), none, false, .mv (.t 24), (some [0, 6])⟩]
abbrev k136_o9 : List AJ := [.o ⟨(some 25), none, false, .mv (.t 0), none⟩, .o ⟨(some 26), none, false, .len (.t 25), none⟩, .o ⟨(some 27), none, false, .mv (.c (.int .i64 0)), (some [6, 25, 26, 27])⟩]
abbrev k136_o10 : List AJ := [.o ⟨(some 28), none, false, .bin .lss (.t 27) (.t 26), (some [6, 25, 26, 27, 28])⟩]
abbrev k136_o11 : List AJ := [.o ⟨(some 29), none, false, .idxA 1 (.t 25) (.t 27), none⟩, .o ⟨(some 30), none, false, .load 1 false (.t 29), none⟩, .o ⟨(some 8), none, false, .mv (.t 30), (some [6, 8, 25, 26, 27])⟩]
abbrev k136_o12 : List AJ := [.o ⟨(some 31), none, false, .mv (.t 6), none⟩, .o ⟨(some 32), none, false, .mv (.t 8), none⟩, .o ⟨(some 33), none, false, .append 1 8 (.t 31) (.t 32), none⟩, .o ⟨(some 6), none, false, .mv (.t 33), (some [6, 25, 26, 27])⟩]
def k136_25 : ACode := .region k136_o12
def k136_26 : ACode := .seq (.region k136_o11) k136_25
abbrev k136_o13 : List AJ := [.o ⟨(some 34), none, true, .bin .add (.t 27) (.c (.int .i64 1)), none⟩, .o ⟨(some 27), none, false, .mv (.t 34), (some [6, 25, 26, 27])⟩]
def k136_28 : ACode := .region k136_o13
def k136_29 : ACode := .seq (.block 3 k136_26) k136_28
def k136_30 : ACode := .seq (.cond (.t 28) .skip (.exit 2)) k136_29
def k136_31 : ACode := .seq (.region k136_o10) k136_30
def k136_32 : ACode := .loop k136_31
def k136_33 : ACode := .block 2 k136_32
def k136_34 : ACode := .seq (.region k136_o9) k136_33
abbrev k136_o14 : List AJ := [.o ⟨(some 35), none, false, .mv (.t 6), none⟩, .o ⟨(some 2), none, false, .mv (.t 35), (some [2])⟩]
def k136_36 : ACode := .seq (.region k136_o14) .ret
def k136_37 : ACode := .seq k136_34 k136_36
def k136_38 : ACode := .seq (.region k136_o8) k136_37
def k136_39 : ACode := .seq k136_19 k136_38
def k136_40 : ACode := .seq (.region k136_o1) k136_39
def k136_41 : ACode := .seq (.region k136_o0) k136_40
@[simp, simp ↓] theorem k136_8r : rC k136_8 (.t 20) .bad .skip := zC rfl
@[simp, simp ↓] theorem k136_9r : sR k136_9 k136_o6 k136_8 := yR rfl
@[simp, simp ↓] theorem k136_10r : sR k136_10 k136_o5 k136_9 := yR rfl
@[simp, simp ↓] theorem k136_11r : sR k136_11 k136_o4 k136_10 := yR rfl
@[simp, simp ↓] theorem k136_13r : rR k136_13 k136_o7 := zR rfl
@[simp, simp ↓] theorem k136_14r : sB k136_14 1 k136_11 k136_13 := yB rfl
@[simp, simp ↓] theorem k136_15r : sC k136_15 (.t 12) .skip (.exit 0) k136_14 := yC rfl
@[simp, simp ↓] theorem k136_16r : sR k136_16 k136_o3 k136_15 := yR rfl
@[simp, simp ↓] theorem k136_17r : rL k136_17 k136_16 := zL rfl
@[simp, simp ↓] theorem k136_18r : rB k136_18 0 k136_17 := zB rfl
@[simp, simp ↓] theorem k136_19r : sR k136_19 k136_o2 k136_18 := yR rfl
@[simp, simp ↓] theorem k136_25r : rR k136_25 k136_o12 := zR rfl
@[simp, simp ↓] theorem k136_26r : sR k136_26 k136_o11 k136_25 := yR rfl
@[simp, simp ↓] theorem k136_28r : rR k136_28 k136_o13 := zR rfl
@[simp, simp ↓] theorem k136_29r : sB k136_29 3 k136_26 k136_28 := yB rfl
@[simp, simp ↓] theorem k136_30r : sC k136_30 (.t 28) .skip (.exit 2) k136_29 := yC rfl
@[simp, simp ↓] theorem k136_31r : sR k136_31 k136_o10 k136_30 := yR rfl
@[simp, simp ↓] theorem k136_32r : rL k136_32 k136_31 := zL rfl
@[simp, simp ↓] theorem k136_33r : rB k136_33 2 k136_32 := zB rfl
@[simp, simp ↓] theorem k136_34r : sR k136_34 k136_o9 k136_33 := yR rfl
@[simp, simp ↓] theorem k136_36r : sR k136_36 k136_o14 .ret := yR rfl
@[simp, simp ↓] theorem k136_37r : rS k136_37 k136_34 k136_36 := zS rfl
@[simp, simp ↓] theorem k136_38r : sR k136_38 k136_o8 k136_37 := yR rfl
@[simp, simp ↓] theorem k136_39r : rS k136_39 k136_19 k136_38 := zS rfl
@[simp, simp ↓] theorem k136_40r : sR k136_40 k136_o1 k136_39 := yR rfl
@[simp, simp ↓] theorem k136_41r : sR k136_41 k136_o0 k136_40 := yR rfl
noncomputable abbrev k136_C : Orc → Cx := mkC Try.prog [] 136 36 [.tmp 2]
theorem k136_of0 : OfP0 Try.prog Try.f136 136 36 k136_C k136_41 := @ofP0 _ _ _ _ _ _ _ _ Try.func136 (by decide +kernel) rfl (by kernel_rfl) rfl (by kernel_rfl)
theorem ConcatI_g (parts : List (List AV)) (h : Heap) (hl : parts.length ≤ 1048576) (ht : parts.flatten.length ≤ 1048576) : ACalls Try.prog 136 [.snap 1 (parts.map (.snap 1))] h (fun v h' => ∃ hp, GrowX 1 v parts.flatten hp ∧ h' = hp ++ h) := by
  have hfl : ∀ i, (parts.take i).flatten.length ≤ parts.flatten.length := fun i => by
    conv => rhs; rw [← List.take_append_drop i parts]
    rw [List.flatten_append, List.length_append]; omega
  have hfs : ∀ i (hi : i < parts.length), (parts.take (i + 1)).flatten = (parts.take i).flatten ++ parts[i] := fun i hi => by
    rw [List.take_succ_eq_append_getElem hi, List.flatten_append]; simp
  refine k136_of0 rfl noPure fun I => ?_
  refine Run2.of I 1000 ?_
  simp -implicitDefEqProofs
  refine Run2.loopE (fun (i : Nat) => [(0, .snap 1 (parts.map (.snap 1))), (3, .int .i64 ((parts.take i).flatten.length : Nat)), (9, .snap 1 (parts.map (.snap 1))), (10, .int .i64 parts.length), (11, .int .i64 i)]) (fun i => h) (fun i => parts.length - i) (fun i => i ≤ parts.length) 0 (by simp) rfl (Nat.zero_le _) fun i hi ih => ?_
  by_cases hlt : i < parts.length
  · have go := ih (i + 1) (by omega) (by omega)
    have h1 := hfl (i + 1)
    rw [hfs i hlt, List.length_append] at go h1
    clear ih
    generalize hL : (parts.take i).flatten.length = L at *
    generalize hP : parts[i] = p at *
    refine Run2.of I 1000 ?_
    simp -implicitDefEqProofs [hlt, hP]
    refine ⟨by omega, by omega, fun _ => ⟨by omega, ?_⟩⟩
    simpa using go
  · obtain rfl : i = parts.length := by omega
    rw [List.take_length]
    refine Run2.of I 1000 ?_
    simp -implicitDefEqProofs
    have hS : (parts.map List.length).sum ≤ 1048576 := by rw [← List.length_flatten]; exact ht
    refine (GrowI_g _ h hS).mono ?_
    rintro v h' ⟨hp0, g0, rfl⟩
    have hcell0 := g0.cell
    refine gK.go ?_
    simp -implicitDefEqProofs [hcell0]
    refine Run2.loopE (α := Nat × AV × Heap) (fun s => [(6, s.2.1), (25, .snap 1 (parts.map (.snap 1))), (26, .int .i64 parts.length), (27, .int .i64 (s.1 : Nat))]) (fun s => s.2.2 ++ h) (fun s => parts.length - s.1) (fun s => s.1 ≤ parts.length ∧ GrowX 1 s.2.1 (parts.take s.1).flatten s.2.2) (0, v, hp0) (by simp) rfl ⟨Nat.zero_le _, by simpa using g0⟩ ?_
    rintro ⟨i, w, hp⟩ ⟨hi2, hg⟩ ih2
    simp only at hi2 hg
    have hcell := hg.cell
    by_cases hlt : i < parts.length
    · have go := fun w' hp' (g : GrowX 1 w' ((parts.take i).flatten ++ parts[i]) hp') => ih2 (i + 1, w', hp') ⟨hlt, by simp only; rw [hfs i hlt]; exact g⟩ (by simp; omega)
      have h1 := hfl (i + 1)
      rw [hfs i hlt, List.length_append] at h1
      clear ih2
      generalize hP : parts[i] = p at *
      refine Run2.of I 1000 ?_
      simp -implicitDefEqProofs [hlt, hP, hcell]
      refine hg.app (by omega) fun w' hp' hg' => ?_
      have hcell' := hg'.cell
      simp -implicitDefEqProofs [hcell']
      refine ⟨by omega, ?_⟩
      simpa using go w' hp' hg'
    · obtain rfl : i = parts.length := by omega
      rw [List.take_length] at hg
      refine Run2.of I 1000 ?_
      simp -implicitDefEqProofs [hcell]
      exact hg
theorem flatten2 (a b : List AV) : [a, b].flatten = a ++ b := by simp
theorem ConcatI_f (a b : List Int) (h : Heap) (ha : a.length + b.length ≤ 1048576) : ACalls Try.prog 136 [.snap 1 [.snap 1 (a.map iv), .snap 1 (b.map iv)]] h (fun v h' => v = il (a ++ b) ∧ h' = h) := by
  have := ConcatI_g [a.map iv, b.map iv] h (by simp) (by simpa using ha)
  rw [flatten2] at this
  refine ACalls.post (ACalls.mono (by simpa using this) ?_)
  rintro v h' ⟨hp, g, rfl⟩
  refine Post.lend (.wk g.lent (.base ⟨?_, rfl⟩))
  simp
end Go.AG
