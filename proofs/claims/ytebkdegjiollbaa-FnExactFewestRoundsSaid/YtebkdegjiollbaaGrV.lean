/- Small functions of graphs that have no effect, and what they give. No statement is made here. -/
import Derived.Test.YtebkdegjiollbaaGrA
namespace Go.AG
open Go.Proofs Go.Proofs.Ytebkdegjiollbaa
set_option linter.unusedSimpArgs false
set_option linter.unusedVariables false
set_option maxRecDepth 4000
abbrev k45_o0 : List AJ := [.o ⟨(some 6), none, false, .mv (.c (.bool false)), (some [0, 1, 2])⟩]
abbrev k45_o1 : List AJ := [.o ⟨(some 7), none, false, .mv (.t 0), none⟩, .o ⟨(some 8), none, false, .mv (.t 1), none⟩, .o ⟨(some 9), none, false, .bin .geq (.t 7) (.t 8), none⟩, .o ⟨(some 10), none, false, .mv (.t 9), none⟩, .o ⟨(some 11), (some (10, true)), false, .mv (.t 0), none⟩, .o ⟨(some 12), (some (10, true)), false, .mv (.t 2), none⟩, .o ⟨(some 13), (some (10, true)), false, .bin .leq (.t 11) (.t 12), none⟩, .o ⟨(some 14), none, false, .pick (.t 10) (.t 13) (.c (.bool false)), none⟩, .o ⟨(some 6), none, false, .mv (.t 14), (some [6])⟩]
def k45_2 : ACode := .seq (.region k45_o1) .ret
def k45_3 : ACode := .seq (.region k45_o0) k45_2
@[simp, simp ↓] theorem k45_2r : sR k45_2 k45_o1 .ret := yR rfl
@[simp, simp ↓] theorem k45_3r : sR k45_3 k45_o0 k45_2 := yR rfl
noncomputable abbrev k45_C : Orc → Cx := mkC Try.prog [] 45 15 [.tmp 6]
theorem k45_of0 : OfP0 Try.prog Try.f45 45 15 k45_C k45_3 := @ofP0 _ _ _ _ _ _ _ _ Try.func45 (by decide +kernel) rfl (by kernel_rfl) rfl (by kernel_rfl)
theorem l00In_c (a b c : Int) (h : Heap) : ACalls Try.prog 45 [.int .i64 a, .int .i64 b, .int .i64 c] h (fun v h' => v = .bool (decide (b ≤ a) && decide (a ≤ c)) ∧ h' = h) := by
  refine k45_of0 rfl noPure fun I => ?_
  refine Run2.of I 1000 ?_
  simp -implicitDefEqProofs
  grind
noncomputable def o_l00In : List AV → Option (Prop × AV) := tab (fun (x : Int × Int × Int) => match x with | (a, b, c) => [.int .i64 a, .int .i64 b, .int .i64 c]) (fun x => match x with | (a, b, c) => True) (fun x => match x with | (a, b, c) => .bool (decide (b ≤ a) && decide (a ≤ c)))
@[simp] theorem o_l00In_e (a : Int) (b : Int) (c : Int) : o_l00In [.int .i64 a, .int .i64 b, .int .i64 c] = some (True, .bool (decide (b ≤ a) && decide (a ≤ c))) := tab_at (enc := fun (x : Int × Int × Int) => match x with | (a, b, c) => [.int .i64 a, .int .i64 b, .int .i64 c]) (fun x y h => by
  obtain ⟨a1, b1, c1⟩ := x; obtain ⟨a2, b2, c2⟩ := y; simp at h; simp [h] <;> omega) _ _ (a, b, c)
theorem o_l00In_k : Knows Try.prog 45 o_l00In := tab_knows fun x hx h => by
  obtain ⟨a, b, c⟩ := x; exact l00In_c _ _ _ h
abbrev k91_o0 : List AJ := [.o ⟨(some 6), none, false, .mv (.c (.bool false)), (some [0, 1, 2])⟩]
abbrev k91_o1 : List AJ := [.o ⟨(some 7), none, false, .mv (.t 0), none⟩, .o ⟨(some 8), none, false, .mv (.t 1), none⟩, .o ⟨(some 9), none, false, .bin .geq (.t 7) (.t 8), none⟩, .o ⟨(some 10), none, false, .mv (.t 9), none⟩, .o ⟨(some 11), (some (10, true)), false, .mv (.t 0), none⟩, .o ⟨(some 12), (some (10, true)), false, .mv (.t 2), none⟩, .o ⟨(some 13), (some (10, true)), false, .bin .leq (.t 11) (.t 12), none⟩, .o ⟨(some 14), none, false, .pick (.t 10) (.t 13) (.c (.bool false)), none⟩, .o ⟨(some 6), none, false, .mv (.t 14), (some [6])⟩]
def k91_2 : ACode := .seq (.region k91_o1) .ret
def k91_3 : ACode := .seq (.region k91_o0) k91_2
@[simp, simp ↓] theorem k91_2r : sR k91_2 k91_o1 .ret := yR rfl
@[simp, simp ↓] theorem k91_3r : sR k91_3 k91_o0 k91_2 := yR rfl
noncomputable abbrev k91_C : Orc → Cx := mkC Try.prog [] 91 15 [.tmp 6]
theorem k91_of0 : OfP0 Try.prog Try.f91 91 15 k91_C k91_3 := @ofP0 _ _ _ _ _ _ _ _ Try.func91 (by decide +kernel) rfl (by kernel_rfl) rfl (by kernel_rfl)
theorem within_c (a b c : Int) (h : Heap) : ACalls Try.prog 91 [.int .i64 a, .int .i64 b, .int .i64 c] h (fun v h' => v = .bool (decide (b ≤ a) && decide (a ≤ c)) ∧ h' = h) := by
  refine k91_of0 rfl noPure fun I => ?_
  refine Run2.of I 1000 ?_
  simp -implicitDefEqProofs
  grind
noncomputable def o_within : List AV → Option (Prop × AV) := tab (fun (x : Int × Int × Int) => match x with | (a, b, c) => [.int .i64 a, .int .i64 b, .int .i64 c]) (fun x => match x with | (a, b, c) => True) (fun x => match x with | (a, b, c) => .bool (decide (b ≤ a) && decide (a ≤ c)))
@[simp] theorem o_within_e (a : Int) (b : Int) (c : Int) : o_within [.int .i64 a, .int .i64 b, .int .i64 c] = some (True, .bool (decide (b ≤ a) && decide (a ≤ c))) := tab_at (enc := fun (x : Int × Int × Int) => match x with | (a, b, c) => [.int .i64 a, .int .i64 b, .int .i64 c]) (fun x y h => by
  obtain ⟨a1, b1, c1⟩ := x; obtain ⟨a2, b2, c2⟩ := y; simp at h; simp [h] <;> omega) _ _ (a, b, c)
theorem o_within_k : Knows Try.prog 91 o_within := tab_knows fun x hx h => by
  obtain ⟨a, b, c⟩ := x; exact within_c _ _ _ h
abbrev k158_o0 : List AJ := [.o ⟨(some 2), none, false, .mv (.c (.bool false)), (some [0])⟩]
abbrev k158_o1 : List AJ := [.o ⟨(some 3), none, false, .mv (.t 0), none⟩, .o ⟨(some 4), none, false, .mv (.t 0), none⟩, .o ⟨(some 5), none, false, .bin .neq (.t 3) (.t 4), none⟩, .o ⟨(some 2), none, false, .mv (.t 5), (some [2])⟩]
def k158_2 : ACode := .seq (.region k158_o1) .ret
def k158_3 : ACode := .seq (.region k158_o0) k158_2
@[simp, simp ↓] theorem k158_2r : sR k158_2 k158_o1 .ret := yR rfl
@[simp, simp ↓] theorem k158_3r : sR k158_3 k158_o0 k158_2 := yR rfl
noncomputable abbrev k158_C : Orc → Cx := mkC Try.prog [] 158 6 [.tmp 2]
theorem k158_of0 : OfP0 Try.prog Try.f158 158 6 k158_C k158_3 := @ofP0 _ _ _ _ _ _ _ _ Try.func158 (by decide +kernel) rfl (by kernel_rfl) rfl (by kernel_rfl)
theorem isNaN_c (a : Int) (h : Heap) : ACalls Try.prog 158 [.int .i64 a] h (fun v h' => v = .bool false ∧ h' = h) := by
  refine k158_of0 rfl noPure fun I => ?_
  refine Run2.of I 1000 ?_
  simp -implicitDefEqProofs
noncomputable def o_isNaN : List AV → Option (Prop × AV) := tab (fun (x : Int) => match x with | a => [.int .i64 a]) (fun x => match x with | a => True) (fun x => match x with | a => .bool false)
@[simp] theorem o_isNaN_e (a : Int) : o_isNaN [.int .i64 a] = some (True, .bool false) := tab_at (enc := fun (x : Int) => match x with | a => [.int .i64 a]) (fun x y h => by
  simp at h; simp [h] <;> omega) _ _ a
theorem o_isNaN_k : Knows Try.prog 158 o_isNaN := tab_knows fun x hx h => by
  exact isNaN_c _ h
noncomputable def orc1 : List (Nat × (List AV → Option (Prop × AV))) := (45, o_l00In) :: (91, o_within) :: (158, o_isNaN) :: []
theorem orc1_p : Pure Try.prog (lk orc1) := (lk_pure o_l00In_k (lk_pure o_within_k (lk_pure o_isNaN_k lk_pure0)))
@[simp] theorem orc1_l (b : Bool) (g : FuncId) (l : List AV) : lk orc1 b g l = if g = 45 then o_l00In l else if g = 91 then o_within l else if g = 158 then o_isNaN l else none := nr rfl
def cmpI (a b : Int) : Int := if a < b then -1 else if b < a then 1 else 0
abbrev k129_o0 : List AJ := [.o ⟨(some 4), none, false, .mv (.c (.int .i64 0)), (some [0, 1])⟩]
abbrev k129_o1 : List AJ := [.o ⟨(some 7), none, false, .mv (.t 0), none⟩, .o ⟨(some 8), none, false, .call 158 [(.t 7)], none⟩, .o ⟨(some 5), none, false, .mv (.t 8), (some [0, 1, 5])⟩]
abbrev k129_o2 : List AJ := [.o ⟨(some 9), none, false, .mv (.t 1), none⟩, .o ⟨(some 10), none, false, .call 158 [(.t 9)], none⟩, .o ⟨(some 6), none, false, .mv (.t 10), (some [0, 1, 5, 6])⟩]
abbrev k129_o3 : List AJ := [.o ⟨(some 11), none, false, .mv (.t 5), (some [0, 1, 6, 11])⟩]
abbrev k129_o4 : List AJ := [.o ⟨(some 12), none, false, .mv (.t 6), (some [12])⟩]
abbrev k129_o5 : List AJ := [.o ⟨(some 4), none, false, .mv (.c (.int .i64 0)), (some [4])⟩]
def k129_6 : ACode := .seq (.region k129_o5) .ret
def k129_7 : ACode := .cond (.t 12) k129_6 .skip
def k129_8 : ACode := .seq (.region k129_o4) k129_7
abbrev k129_o6 : List AJ := [.o ⟨(some 4), none, false, .mv (.c (.int .i64 (-1))), (some [4])⟩]
def k129_10 : ACode := .seq (.region k129_o6) .ret
def k129_11 : ACode := .seq k129_8 k129_10
def k129_12 : ACode := .cond (.t 11) k129_11 .skip
def k129_13 : ACode := .seq (.region k129_o3) k129_12
abbrev k129_o7 : List AJ := [.o ⟨(some 13), none, false, .mv (.t 6), (some [0, 1, 13])⟩]
abbrev k129_o8 : List AJ := [.o ⟨(some 4), none, false, .mv (.c (.int .i64 1)), (some [4])⟩]
def k129_16 : ACode := .seq (.region k129_o8) .ret
def k129_17 : ACode := .cond (.t 13) k129_16 .skip
def k129_18 : ACode := .seq (.region k129_o7) k129_17
abbrev k129_o9 : List AJ := [.o ⟨(some 14), none, false, .mv (.t 0), none⟩, .o ⟨(some 15), none, false, .mv (.t 1), none⟩, .o ⟨(some 16), none, false, .bin .lss (.t 14) (.t 15), (some [0, 1, 16])⟩]
abbrev k129_o10 : List AJ := [.o ⟨(some 4), none, false, .mv (.c (.int .i64 (-1))), (some [4])⟩]
def k129_21 : ACode := .seq (.region k129_o10) .ret
def k129_22 : ACode := .cond (.t 16) k129_21 .skip
def k129_23 : ACode := .seq (.region k129_o9) k129_22
abbrev k129_o11 : List AJ := [.o ⟨(some 17), none, false, .mv (.t 0), none⟩, .o ⟨(some 18), none, false, .mv (.t 1), none⟩, .o ⟨(some 19), none, false, .bin .gtr (.t 17) (.t 18), (some [19])⟩]
abbrev k129_o12 : List AJ := [.o ⟨(some 4), none, false, .mv (.c (.int .i64 1)), (some [4])⟩]
def k129_26 : ACode := .seq (.region k129_o12) .ret
def k129_27 : ACode := .cond (.t 19) k129_26 .skip
def k129_28 : ACode := .seq (.region k129_o11) k129_27
abbrev k129_o13 : List AJ := [.o ⟨(some 4), none, false, .mv (.c (.int .i64 0)), (some [4])⟩]
def k129_30 : ACode := .seq (.region k129_o13) .ret
def k129_31 : ACode := .seq k129_28 k129_30
def k129_32 : ACode := .seq k129_23 k129_31
def k129_33 : ACode := .seq k129_18 k129_32
def k129_34 : ACode := .seq k129_13 k129_33
def k129_35 : ACode := .seq (.region k129_o2) k129_34
def k129_36 : ACode := .seq (.region k129_o1) k129_35
def k129_37 : ACode := .seq (.region k129_o0) k129_36
@[simp, simp ↓] theorem k129_6r : sR k129_6 k129_o5 .ret := yR rfl
@[simp, simp ↓] theorem k129_7r : rC k129_7 (.t 12) k129_6 .skip := zC rfl
@[simp, simp ↓] theorem k129_8r : sR k129_8 k129_o4 k129_7 := yR rfl
@[simp, simp ↓] theorem k129_10r : sR k129_10 k129_o6 .ret := yR rfl
@[simp, simp ↓] theorem k129_11r : rS k129_11 k129_8 k129_10 := zS rfl
@[simp, simp ↓] theorem k129_12r : rC k129_12 (.t 11) k129_11 .skip := zC rfl
@[simp, simp ↓] theorem k129_13r : sR k129_13 k129_o3 k129_12 := yR rfl
@[simp, simp ↓] theorem k129_16r : sR k129_16 k129_o8 .ret := yR rfl
@[simp, simp ↓] theorem k129_17r : rC k129_17 (.t 13) k129_16 .skip := zC rfl
@[simp, simp ↓] theorem k129_18r : sR k129_18 k129_o7 k129_17 := yR rfl
@[simp, simp ↓] theorem k129_21r : sR k129_21 k129_o10 .ret := yR rfl
@[simp, simp ↓] theorem k129_22r : rC k129_22 (.t 16) k129_21 .skip := zC rfl
@[simp, simp ↓] theorem k129_23r : sR k129_23 k129_o9 k129_22 := yR rfl
@[simp, simp ↓] theorem k129_26r : sR k129_26 k129_o12 .ret := yR rfl
@[simp, simp ↓] theorem k129_27r : rC k129_27 (.t 19) k129_26 .skip := zC rfl
@[simp, simp ↓] theorem k129_28r : sR k129_28 k129_o11 k129_27 := yR rfl
@[simp, simp ↓] theorem k129_30r : sR k129_30 k129_o13 .ret := yR rfl
@[simp, simp ↓] theorem k129_31r : rS k129_31 k129_28 k129_30 := zS rfl
@[simp, simp ↓] theorem k129_32r : rS k129_32 k129_23 k129_31 := zS rfl
@[simp, simp ↓] theorem k129_33r : rS k129_33 k129_18 k129_32 := zS rfl
@[simp, simp ↓] theorem k129_34r : rS k129_34 k129_13 k129_33 := zS rfl
@[simp, simp ↓] theorem k129_35r : sR k129_35 k129_o2 k129_34 := yR rfl
@[simp, simp ↓] theorem k129_36r : sR k129_36 k129_o1 k129_35 := yR rfl
@[simp, simp ↓] theorem k129_37r : sR k129_37 k129_o0 k129_36 := yR rfl
noncomputable abbrev k129_C : Orc → Cx := mkC Try.prog [] 129 20 [.tmp 4]
theorem k129_of0 : OfP0 Try.prog Try.f129 129 20 k129_C k129_37 := @ofP0 _ _ _ _ _ _ _ _ Try.func129 (by decide +kernel) rfl (by kernel_rfl) rfl (by kernel_rfl)
theorem compare_c (a b : Int) (h : Heap) : ACalls Try.prog 129 [.int .i64 a, .int .i64 b] h (fun v h' => v = .int .i64 (cmpI a b) ∧ h' = h) := by
  refine k129_of0 rfl orc1_p fun I => ?_
  refine Run2.of I 1000 ?_
  simp -implicitDefEqProofs [cmpI]
  grind
noncomputable def o_compare : List AV → Option (Prop × AV) := tab (fun (x : Int × Int) => match x with | (a, b) => [.int .i64 a, .int .i64 b]) (fun x => match x with | (a, b) => True) (fun x => match x with | (a, b) => .int .i64 (cmpI a b))
@[simp] theorem o_compare_e (a : Int) (b : Int) : o_compare [.int .i64 a, .int .i64 b] = some (True, .int .i64 (cmpI a b)) := tab_at (enc := fun (x : Int × Int) => match x with | (a, b) => [.int .i64 a, .int .i64 b]) (fun x y h => by
  obtain ⟨a1, b1⟩ := x; obtain ⟨a2, b2⟩ := y; simp at h; simp [h] <;> omega) _ _ (a, b)
theorem o_compare_k : Knows Try.prog 129 o_compare := tab_knows fun x hx h => by
  obtain ⟨a, b⟩ := x; exact compare_c _ _ h
def orI : List Int → Int
  | [] => 0
  | x :: xs => if x = 0 then orI xs else x
abbrev k128_o0 : List AJ := [.o ⟨(some 2), none, false, .mv (.c (.int .i64 0)), (some [0])⟩]
abbrev k128_o1 : List AJ := [.o ⟨(some 3), none, false, .mv (.c (.int .i64 0)), (some [0, 3])⟩]
abbrev k128_o2 : List AJ := [.o ⟨(some 6), none, false, .mv (.t 0), none⟩, .o ⟨(some 7), none, false, .len (.t 6), none⟩, .o ⟨(some 8), none, false, .mv (.c (.int .i64 0)), (some [3, 6, 7, 8])⟩]
abbrev k128_o3 : List AJ := [.o ⟨(some 9), none, false, .bin .lss (.t 8) (.t 7), (some [3, 6, 7, 8, 9])⟩]
abbrev k128_o4 : List AJ := [.o ⟨(some 10), none, false, .idxA 1 (.t 6) (.t 8), none⟩, .o ⟨(some 11), none, false, .load 1 false (.t 10), none⟩, .o ⟨(some 5), none, false, .mv (.t 11), (some [3, 5, 6, 7, 8])⟩]
abbrev k128_o5 : List AJ := [.o ⟨(some 12), none, false, .mv (.t 5), none⟩, .o ⟨(some 13), none, false, .mv (.t 3), none⟩, .o ⟨(some 14), none, false, .bin .neq (.t 12) (.t 13), (some [3, 5, 6, 7, 8, 14])⟩]
abbrev k128_o6 : List AJ := [.o ⟨(some 15), none, false, .mv (.t 5), none⟩, .o ⟨(some 2), none, false, .mv (.t 15), (some [2])⟩]
def k128_8 : ACode := .seq (.region k128_o6) .ret
def k128_9 : ACode := .cond (.t 14) k128_8 .skip
def k128_10 : ACode := .seq (.region k128_o5) k128_9
def k128_11 : ACode := .seq (.region k128_o4) k128_10
abbrev k128_o7 : List AJ := [.o ⟨(some 16), none, true, .bin .add (.t 8) (.c (.int .i64 1)), none⟩, .o ⟨(some 8), none, false, .mv (.t 16), (some [3, 6, 7, 8])⟩]
def k128_13 : ACode := .region k128_o7
def k128_14 : ACode := .seq (.block 1 k128_11) k128_13
def k128_15 : ACode := .seq (.cond (.t 9) .skip (.exit 0)) k128_14
def k128_16 : ACode := .seq (.region k128_o3) k128_15
def k128_17 : ACode := .loop k128_16
def k128_18 : ACode := .block 0 k128_17
def k128_19 : ACode := .seq (.region k128_o2) k128_18
abbrev k128_o8 : List AJ := [.o ⟨(some 17), none, false, .mv (.t 3), none⟩, .o ⟨(some 2), none, false, .mv (.t 17), (some [2])⟩]
def k128_21 : ACode := .seq (.region k128_o8) .ret
def k128_22 : ACode := .seq k128_19 k128_21
def k128_23 : ACode := .seq (.region k128_o1) k128_22
def k128_24 : ACode := .seq (.region k128_o0) k128_23
@[simp, simp ↓] theorem k128_8r : sR k128_8 k128_o6 .ret := yR rfl
@[simp, simp ↓] theorem k128_9r : rC k128_9 (.t 14) k128_8 .skip := zC rfl
@[simp, simp ↓] theorem k128_10r : sR k128_10 k128_o5 k128_9 := yR rfl
@[simp, simp ↓] theorem k128_11r : sR k128_11 k128_o4 k128_10 := yR rfl
@[simp, simp ↓] theorem k128_13r : rR k128_13 k128_o7 := zR rfl
@[simp, simp ↓] theorem k128_14r : sB k128_14 1 k128_11 k128_13 := yB rfl
@[simp, simp ↓] theorem k128_15r : sC k128_15 (.t 9) .skip (.exit 0) k128_14 := yC rfl
@[simp, simp ↓] theorem k128_16r : sR k128_16 k128_o3 k128_15 := yR rfl
@[simp, simp ↓] theorem k128_17r : rL k128_17 k128_16 := zL rfl
@[simp, simp ↓] theorem k128_18r : rB k128_18 0 k128_17 := zB rfl
@[simp, simp ↓] theorem k128_19r : sR k128_19 k128_o2 k128_18 := yR rfl
@[simp, simp ↓] theorem k128_21r : sR k128_21 k128_o8 .ret := yR rfl
@[simp, simp ↓] theorem k128_22r : rS k128_22 k128_19 k128_21 := zS rfl
@[simp, simp ↓] theorem k128_23r : sR k128_23 k128_o1 k128_22 := yR rfl
@[simp, simp ↓] theorem k128_24r : sR k128_24 k128_o0 k128_23 := yR rfl
noncomputable abbrev k128_C : Orc → Cx := mkC Try.prog [] 128 18 [.tmp 2]
theorem k128_of0 : OfP0 Try.prog Try.f128 128 18 k128_C k128_24 := @ofP0 _ _ _ _ _ _ _ _ Try.func128 (by decide +kernel) rfl (by kernel_rfl) rfl (by kernel_rfl)
theorem or_c (l : List Int) (h : Heap) (hl : l.length ≤ 1048576) : ACalls Try.prog 128 [.snap 1 (l.map fun n => .int .i64 n)] h (fun v h' => v = .int .i64 (orI l) ∧ h' = h) := by
  refine k128_of0 rfl noPure fun I => ?_
  refine Run2.of I 1000 ?_
  simp -implicitDefEqProofs
  refine Run2.loop (fun i => [(3, .int .i64 0), (6, .snap 1 (l.map fun n => .int .i64 n)), (7, .int .i64 l.length), (8, .int .i64 (i : Nat))]) (fun i => h) (fun i => l.length - i) (fun i => i ≤ l.length ∧ orI (l.drop i) = orI l) 0 (by simp) fun i hi ih => ?_
  by_cases hlt : i < l.length
  · have hd : l.drop i = l[i] :: l.drop (i + 1) := List.drop_eq_getElem_cons hlt
    refine Run2.of I 1000 ?_
    simp -implicitDefEqProofs [hlt]
    constructor
    · intro hne
      rw [← hi.2, hd, orI, if_neg hne]
    · intro he
      refine ⟨by omega, ?_⟩
      have := ih (i + 1) ⟨by omega, by rw [← hi.2, hd, orI, if_pos he]⟩ (by omega)
      simpa using this
  · have : i = l.length := by omega
    have h2 := hi.2
    rw [List.drop_of_length_le (by omega)] at h2
    refine Run2.of I 1000 ?_
    simp -implicitDefEqProofs [hlt]
    exact h2
noncomputable def o_or2 : List AV → Option (Prop × AV) := tab (fun (x : Int × Int) => match x with | (a, b) => [.snap 1 [.int .i64 a, .int .i64 b]]) (fun x => match x with | (a, b) => True) (fun x => match x with | (a, b) => .int .i64 (orI [a, b]))
@[simp] theorem o_or2_e (a : Int) (b : Int) : o_or2 [.snap 1 [.int .i64 a, .int .i64 b]] = some (True, .int .i64 (orI [a, b])) := tab_at (enc := fun (x : Int × Int) => match x with | (a, b) => [.snap 1 [.int .i64 a, .int .i64 b]]) (fun x y h => by
  obtain ⟨a1, b1⟩ := x; obtain ⟨a2, b2⟩ := y; simp at h; simp [h] <;> omega) _ _ (a, b)
theorem o_or2_k : Knows Try.prog 128 o_or2 := tab_knows fun x hx h => by
  obtain ⟨a, b⟩ := x; exact or_c [a, b] h (by simp)
noncomputable def orc2 : List (Nat × (List AV → Option (Prop × AV))) := (129, o_compare) :: (128, o_or2) :: orc1
theorem orc2_p : Pure Try.prog (lk orc2) := (lk_pure o_compare_k (lk_pure o_or2_k orc1_p))
@[simp] theorem orc2_l (b : Bool) (g : FuncId) (l : List AV) : lk orc2 b g l = if g = 129 then o_compare l else if g = 128 then o_or2 l else lk orc1 b g l := nr rfl
theorem orI2 (a b c d : Int) : (0 ≤ orI [cmpI a b, cmpI c d]) ↔ ¬ (a < b ∨ a = b ∧ c < d) := by
  simp only [orI, cmpI]
  grind
theorem orI2' (a b c d : Int) : (orI [cmpI a b, cmpI c d] < 0) ↔ (a < b ∨ a = b ∧ c < d) := by
  simp only [orI, cmpI]
  grind
def T.lt (a b : T) : Prop := a.f < b.f ∨ a.f = b.f ∧ a.t < b.t
instance (a b : T) : Decidable (a.lt b) := by unfold T.lt; infer_instance
abbrev k92_o0 : List AJ := [.o ⟨(some 2), none, false, .box false 3 (.t 0), none⟩, .o ⟨(some 3), none, false, .box false 3 (.t 1), none⟩, .o ⟨(some 4), none, false, .mv (.c (.int .i64 0)), (some [2, 3])⟩]
abbrev k92_o1 : List AI := [⟨(some 5), none, false, .fieldA 0 (.t 2), none⟩, ⟨(some 6), none, false, .load 1 false (.t 5), none⟩, ⟨(some 7), none, false, .fieldA 0 (.t 3), none⟩, ⟨(some 8), none, false, .load 1 false (.t 7), none⟩, ⟨(some 9), none, false, .call 129 [(.t 6), (.t 8)], none⟩, ⟨(some 10), none, false, .fieldA 1 (.t 2), none⟩, ⟨(some 11), none, false, .load 1 false (.t 10), none⟩, ⟨(some 12), none, false, .fieldA 1 (.t 3), none⟩, ⟨(some 13), none, false, .load 1 false (.t 12), none⟩, ⟨(some 14), none, false, .call 129 [(.t 11), (.t 13)], none⟩, ⟨(some 15), none, false, .bsl false 1 [(.t 9), (.t 14)], none⟩, ⟨(some 16), none, false, .call 128 [(.t 15)], none⟩, ⟨(some 4), none, false, .mv (.t 16), (some [4])⟩]
def k92_2 : ACode := .seq (.draw k92_o1 [] rfl) .ret
def k92_3 : ACode := .seq (.region k92_o0) k92_2
@[simp, simp ↓] theorem k92_2r : sD k92_2 k92_o1 [] .ret := yD rfl
@[simp, simp ↓] theorem k92_3r : sR k92_3 k92_o0 k92_2 := yR rfl
noncomputable abbrev k92_C : Orc → Cx := mkC Try.prog [] 92 17 [.tmp 4]
theorem k92_of0 : OfP0 Try.prog Try.f92 92 17 k92_C k92_3 := @ofP0 _ _ _ _ _ _ _ _ Try.func92 (by decide +kernel) rfl (by kernel_rfl) rfl (by kernel_rfl)
theorem compareEdges_c (x y : T) (h : Heap) : ACalls Try.prog 92 [x.av, y.av] h (fun v h' => v = .int .i64 (orI [cmpI x.f y.f, cmpI x.t y.t]) ∧ h' = h) := by
  refine k92_of0 rfl orc2_p fun I => ?_
  refine Run2.of I 1000 ?_
  simp -implicitDefEqProofs
noncomputable def o_compareEdges : List AV → Option (Prop × AV) := tab (fun (x : Int × Int × Int × Int × Int × Int) => match x with | (f, t, s, f', t', s') => [.agg [.int .i64 f, .int .i64 t, .int .i64 s], .agg [.int .i64 f', .int .i64 t', .int .i64 s']]) (fun x => match x with | (f, t, s, f', t', s') => True) (fun x => match x with | (f, t, s, f', t', s') => .int .i64 (orI [cmpI f f', cmpI t t']))
@[simp] theorem o_compareEdges_e (f : Int) (t : Int) (s : Int) (f' : Int) (t' : Int) (s' : Int) : o_compareEdges [.agg [.int .i64 f, .int .i64 t, .int .i64 s], .agg [.int .i64 f', .int .i64 t', .int .i64 s']] = some (True, .int .i64 (orI [cmpI f f', cmpI t t'])) := tab_at (enc := fun (x : Int × Int × Int × Int × Int × Int) => match x with | (f, t, s, f', t', s') => [.agg [.int .i64 f, .int .i64 t, .int .i64 s], .agg [.int .i64 f', .int .i64 t', .int .i64 s']]) (fun x y h => by
  obtain ⟨f1, t1, s1, f'1, t'1, s'1⟩ := x; obtain ⟨f2, t2, s2, f'2, t'2, s'2⟩ := y; simp at h; simp [h] <;> omega) _ _ (f, t, s, f', t', s')
theorem o_compareEdges_k : Knows Try.prog 92 o_compareEdges := tab_knows fun x hx h => by
  obtain ⟨f, t, s, f', t', s'⟩ := x; exact compareEdges_c ⟨f, t, s⟩ ⟨f', t', s'⟩ h
noncomputable def orc3 : List (Nat × (List AV → Option (Prop × AV))) := (92, o_compareEdges) :: orc2
theorem orc3_p : Pure Try.prog (lk orc3) := (lk_pure o_compareEdges_k orc2_p)
@[simp] theorem orc3_l (b : Bool) (g : FuncId) (l : List AV) : lk orc3 b g l = if g = 92 then o_compareEdges l else lk orc2 b g l := nr rfl
end Go.AG
