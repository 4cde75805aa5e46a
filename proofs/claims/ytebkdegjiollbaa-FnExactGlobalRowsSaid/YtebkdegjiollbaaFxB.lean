/- Small functions of complexes, and what they give. No statement is made here. -/
import Derived.Test.YtebkdegjiollbaaFilA
import Derived.Test.YtebkdegjiollbaaFxB0
import Derived.Test.YtebkdegjiollbaaAGLists2
namespace Go.AG
open Go.Proofs Go.Proofs.Ytebkdegjiollbaa
set_option linter.unusedSimpArgs false
set_option linter.unusedVariables false
set_option maxRecDepth 4000
abbrev k158_o0 : List AJ := [.o ⟨(some 2), none, false, .mv (.c (.bool false)), (some [0])⟩]
abbrev k158_o1 : List AJ := [.o ⟨(some 3), none, false, .mv (.t 0), none⟩, .o ⟨(some 4), none, false, .mv (.t 0), none⟩, .o ⟨(some 5), none, false, .bin .neq (.t 3) (.t 4), none⟩, .o ⟨(some 2), none, false, .mv (.t 5), (some [2])⟩]
def k158_2 : ACode := .seq (.region k158_o1) .ret
def k158_3 : ACode := .seq (.region k158_o0) k158_2
@[simp, simp ↓] theorem k158_2r : sR k158_2 k158_o1 .ret := yR rfl
@[simp, simp ↓] theorem k158_3r : sR k158_3 k158_o0 k158_2 := yR rfl
noncomputable abbrev k158_C : Orc → Cx := mkC Try.prog [] 158 6 [.tmp 2]
theorem k158_of0 : OfP0 Try.prog Try.f158 158 6 k158_C k158_3 := @ofP0 _ _ _ _ _ _ _ _ Try.func158 (by decide +kernel) rfl (by kernel_rfl) rfl (by kernel_rfl)
theorem isNaN_c (a : Int) (h : Heap) : ACalls Try.prog 158 [.int .i64 a] h (fun v h' => v = .bool false ∧ h' = h) := by
  refine k158_of0 rfl noPure fun I => ?_
  refine Run2.of I 1000 ?_
  simp -implicitDefEqProofs
noncomputable def o_isNaN : List AV → Option (Prop × AV) := tab (fun (x : Int) => match x with | a => [.int .i64 a]) (fun x => match x with | a => True) (fun x => match x with | a => .bool false)
@[simp] theorem o_isNaN_e (a : Int) : o_isNaN [.int .i64 a] = some (True, .bool false) := tab_at (enc := fun (x : Int) => match x with | a => [.int .i64 a]) (fun x y h => by
  simp at h; simp [h] <;> omega) _ _ a
theorem o_isNaN_k : Knows Try.prog 158 o_isNaN := tab_knows fun x hx h => by
  exact isNaN_c _ h
abbrev k161_o0 : List AJ := [.o ⟨(some 2), none, false, .mv (.c (.bool false)), (some [0])⟩]
abbrev k161_o1 : List AJ := [.o ⟨(some 3), none, false, .mv (.t 0), none⟩, .o ⟨(some 4), none, false, .mv (.t 0), none⟩, .o ⟨(some 5), none, false, .bin .neq (.t 3) (.t 4), none⟩, .o ⟨(some 2), none, false, .mv (.t 5), (some [2])⟩]
def k161_2 : ACode := .seq (.region k161_o1) .ret
def k161_3 : ACode := .seq (.region k161_o0) k161_2
@[simp, simp ↓] theorem k161_2r : sR k161_2 k161_o1 .ret := yR rfl
@[simp, simp ↓] theorem k161_3r : sR k161_3 k161_o0 k161_2 := yR rfl
noncomputable abbrev k161_C : Orc → Cx := mkC Try.prog [] 161 6 [.tmp 2]
theorem k161_of0 : OfP0 Try.prog Try.f161 161 6 k161_C k161_3 := @ofP0 _ _ _ _ _ _ _ _ Try.func161 (by decide +kernel) rfl (by kernel_rfl) rfl (by kernel_rfl)
theorem isNaNi_c (a : Int) (h : Heap) : ACalls Try.prog 161 [.int .i64 a] h (fun v h' => v = .bool false ∧ h' = h) := by
  refine k161_of0 rfl noPure fun I => ?_
  refine Run2.of I 1000 ?_
  simp -implicitDefEqProofs
noncomputable def o_isNaNi : List AV → Option (Prop × AV) := tab (fun (x : Int) => match x with | a => [.int .i64 a]) (fun x => match x with | a => True) (fun x => match x with | a => .bool false)
@[simp] theorem o_isNaNi_e (a : Int) : o_isNaNi [.int .i64 a] = some (True, .bool false) := tab_at (enc := fun (x : Int) => match x with | a => [.int .i64 a]) (fun x y h => by
  simp at h; simp [h] <;> omega) _ _ a
theorem o_isNaNi_k : Knows Try.prog 161 o_isNaNi := tab_knows fun x hx h => by
  exact isNaNi_c _ h
noncomputable def orc1 : List (Nat × (List AV → Option (Prop × AV))) := (45, o_l00In) :: (91, o_within) :: (158, o_isNaN) :: (161, o_isNaNi) :: []
theorem orc1_p : Pure Try.prog (lk orc1) := (lk_pure o_l00In_k (lk_pure o_within_k (lk_pure o_isNaN_k (lk_pure o_isNaNi_k lk_pure0))))
@[simp] theorem orc1_l (b : Bool) (g : FuncId) (l : List AV) : lk orc1 b g l = if g = 45 then o_l00In l else if g = 91 then o_within l else if g = 158 then o_isNaN l else if g = 161 then o_isNaNi l else none := nr rfl
abbrev k129_o0 : List AJ := [.o ⟨(some 4), none, false, .mv (.c (.int .i64 0)), (some [0, 1])⟩]
abbrev k129_o1 : List AJ := [.o ⟨(some 7), none, false, .mv (.t 0), none⟩, .o ⟨(some 8), none, false, .call 158 [(.t 7)], none⟩, .o ⟨(some 5), none, false, .mv (.t 8), (some [0, 1, 5])⟩]
abbrev k129_o2 : List AJ := [.o ⟨(some 9), none, false, .mv (.t 1), none⟩, .o ⟨(some 10), none, false, .call 158 [(.t 9)], none⟩, .o ⟨(some 6), none, false, .mv (.t 10), (some [0, 1, 5, 6])⟩]
abbrev k129_o3 : List AJ := [.o ⟨(some 11), none, false, .mv (.t 5), (some [0, 1, 6, 11])⟩]
abbrev k129_o4 : List AJ := [.o ⟨(some 12), none, false, .mv (.t 6), (some [12])⟩]
abbrev k129_o5 : List AJ := [.o ⟨(some 4), none, false, .mv (.c (.int .i64 0)), (some [4])⟩]
def k129_6 : ACode := .seq (.region k129_o5) .ret
def k129_7 : ACode := .cond (.t 12) k129_6 .skip
def k129_8 : ACode := .seq (.region k129_o4) k129_7
abbrev k129_o6 : List AJ := [.o ⟨(some 4), none, false, .mv (.c (.int .i64 (-1))), (some [4])⟩]
def k129_10 : ACode := .seq (.region k129_o6) .ret
def k129_11 : ACode := .seq k129_8 k129_10
def k129_12 : ACode := .cond (.t 11) k129_11 .skip
def k129_13 : ACode := .seq (.region k129_o3) k129_12
abbrev k129_o7 : List AJ := [.o ⟨(some 13), none, false, .mv (.t 6), (some [0, 1, 13])⟩]
abbrev k129_o8 : List AJ := [.o ⟨(some 4), none, false, .mv (.c (.int .i64 1)), (some [4])⟩]
def k129_16 : ACode := .seq (.region k129_o8) .ret
def k129_17 : ACode := .cond (.t 13) k129_16 .skip
def k129_18 : ACode := .seq (.region k129_o7) k129_17
abbrev k129_o9 : List AJ := [.o ⟨(some 14), none, false, .mv (.t 0), none⟩, .o ⟨(some 15), none, false, .mv (.t 1), none⟩, .o ⟨(some 16), none, false, .bin .lss (.t 14) (.t 15), (some [0, 1, 16])⟩]
abbrev k129_o10 : List AJ := [.o ⟨(some 4), none, false, .mv (.c (.int .i64 (-1))), (some [4])⟩]
def k129_21 : ACode := .seq (.region k129_o10) .ret
def k129_22 : ACode := .cond (.t 16) k129_21 .skip
def k129_23 : ACode := .seq (.region k129_o9) k129_22
abbrev k129_o11 : List AJ := [.o ⟨(some 17), none, false, .mv (.t 0), none⟩, .o ⟨(some 18), none, false, .mv (.t 1), none⟩, .o ⟨(some 19), none, false, .bin .gtr (.t 17) (.t 18), (some [19])⟩]
abbrev k129_o12 : List AJ := [.o ⟨(some 4), none, false, .mv (.c (.int .i64 1)), (some [4])⟩]
def k129_26 : ACode := .seq (.region k129_o12) .ret
def k129_27 : ACode := .cond (.t 19) k129_26 .skip
def k129_28 : ACode := .seq (.region k129_o11) k129_27
abbrev k129_o13 : List AJ := [.o ⟨(some 4), none, false, .mv (.c (.int .i64 0)), (some [4])⟩]
def k129_30 : ACode := .seq (.region k129_o13) .ret
def k129_31 : ACode := .seq k129_28 k129_30
def k129_32 : ACode := .seq k129_23 k129_31
def k129_33 : ACode := .seq k129_18 k129_32
def k129_34 : ACode := .seq k129_13 k129_33
def k129_35 : ACode := .seq (.region k129_o2) k129_34
def k129_36 : ACode := .seq (.region k129_o1) k129_35
def k129_37 : ACode := .seq (.region k129_o0) k129_36
@[simp, simp ↓] theorem k129_6r : sR k129_6 k129_o5 .ret := yR rfl
@[simp, simp ↓] theorem k129_7r : rC k129_7 (.t 12) k129_6 .skip := zC rfl
@[simp, simp ↓] theorem k129_8r : sR k129_8 k129_o4 k129_7 := yR rfl
@[simp, simp ↓] theorem k129_10r : sR k129_10 k129_o6 .ret := yR rfl
@[simp, simp ↓] theorem k129_11r : rS k129_11 k129_8 k129_10 := zS rfl
@[simp, simp ↓] theorem k129_12r : rC k129_12 (.t 11) k129_11 .skip := zC rfl
@[simp, simp ↓] theorem k129_13r : sR k129_13 k129_o3 k129_12 := yR rfl
@[simp, simp ↓] theorem k129_16r : sR k129_16 k129_o8 .ret := yR rfl
@[simp, simp ↓] theorem k129_17r : rC k129_17 (.t 13) k129_16 .skip := zC rfl
@[simp, simp ↓] theorem k129_18r : sR k129_18 k129_o7 k129_17 := yR rfl
@[simp, simp ↓] theorem k129_21r : sR k129_21 k129_o10 .ret := yR rfl
@[simp, simp ↓] theorem k129_22r : rC k129_22 (.t 16) k129_21 .skip := zC rfl
@[simp, simp ↓] theorem k129_23r : sR k129_23 k129_o9 k129_22 := yR rfl
@[simp, simp ↓] theorem k129_26r : sR k129_26 k129_o12 .ret := yR rfl
@[simp, simp ↓] theorem k129_27r : rC k129_27 (.t 19) k129_26 .skip := zC rfl
@[simp, simp ↓] theorem k129_28r : sR k129_28 k129_o11 k129_27 := yR rfl
@[simp, simp ↓] theorem k129_30r : sR k129_30 k129_o13 .ret := yR rfl
@[simp, simp ↓] theorem k129_31r : rS k129_31 k129_28 k129_30 := zS rfl
@[simp, simp ↓] theorem k129_32r : rS k129_32 k129_23 k129_31 := zS rfl
@[simp, simp ↓] theorem k129_33r : rS k129_33 k129_18 k129_32 := zS rfl
@[simp, simp ↓] theorem k129_34r : rS k129_34 k129_13 k129_33 := zS rfl
@[simp, simp ↓] theorem k129_35r : sR k129_35 k129_o2 k129_34 := yR rfl
@[simp, simp ↓] theorem k129_36r : sR k129_36 k129_o1 k129_35 := yR rfl
@[simp, simp ↓] theorem k129_37r : sR k129_37 k129_o0 k129_36 := yR rfl
noncomputable abbrev k129_C : Orc → Cx := mkC Try.prog [] 129 20 [.tmp 4]
theorem k129_of0 : OfP0 Try.prog Try.f129 129 20 k129_C k129_37 := @ofP0 _ _ _ _ _ _ _ _ Try.func129 (by decide +kernel) rfl (by kernel_rfl) rfl (by kernel_rfl)
theorem compare_c (a b : Int) (h : Heap) : ACalls Try.prog 129 [.int .i64 a, .int .i64 b] h (fun v h' => v = .int .i64 (cmpZ a b) ∧ h' = h) := by
  refine k129_of0 rfl orc1_p fun I => ?_
  refine Run2.of I 1000 ?_
  simp -implicitDefEqProofs [cmpZ]
  grind
noncomputable def o_compare : List AV → Option (Prop × AV) := tab (fun (x : Int × Int) => match x with | (a, b) => [.int .i64 a, .int .i64 b]) (fun x => match x with | (a, b) => True) (fun x => match x with | (a, b) => .int .i64 (cmpZ a b))
@[simp] theorem o_compare_e (a : Int) (b : Int) : o_compare [.int .i64 a, .int .i64 b] = some (True, .int .i64 (cmpZ a b)) := tab_at (enc := fun (x : Int × Int) => match x with | (a, b) => [.int .i64 a, .int .i64 b]) (fun x y h => by
  obtain ⟨a1, b1⟩ := x; obtain ⟨a2, b2⟩ := y; simp at h; simp [h] <;> omega) _ _ (a, b)
theorem o_compare_k : Knows Try.prog 129 o_compare := tab_knows fun x hx h => by
  obtain ⟨a, b⟩ := x; exact compare_c _ _ h
abbrev k138_o0 : List AJ := [.o ⟨(some 4), none, false, .mv (.c (.int .i64 0)), (some [0, 1])⟩]
abbrev k138_o1 : List AJ := [.o ⟨(some 7), none, false, .mv (.t 0), none⟩, .o ⟨(some 8), none, false, .call 161 [(.t 7)], none⟩, .o ⟨(some 5), none, false, .mv (.t 8), (some [0, 1, 5])⟩]
abbrev k138_o2 : List AJ := [.o ⟨(some 9), none, false, .mv (.t 1), none⟩, .o ⟨(some 10), none, false, .call 161 [(.t 9)], none⟩, .o ⟨(some 6), none, false, .mv (.t 10), (some [0, 1, 5, 6])⟩]
abbrev k138_o3 : List AJ := [.o ⟨(some 11), none, false, .mv (.t 5), (some [0, 1, 6, 11])⟩]
abbrev k138_o4 : List AJ := [.o ⟨(some 12), none, false, .mv (.t 6), (some [12])⟩]
abbrev k138_o5 : List AJ := [.o ⟨(some 4), none, false, .mv (.c (.int .i64 0)), (some [4])⟩]
def k138_6 : ACode := .seq (.region k138_o5) .ret
def k138_7 : ACode := .cond (.t 12) k138_6 .skip
def k138_8 : ACode := .seq (.region k138_o4) k138_7
abbrev k138_o6 : List AJ := [.o ⟨(some 4), none, false, .mv (.c (.int .i64 (-1))), (some [4])⟩]
def k138_10 : ACode := .seq (.region k138_o6) .ret
def k138_11 : ACode := .seq k138_8 k138_10
def k138_12 : ACode := .cond (.t 11) k138_11 .skip
def k138_13 : ACode := .seq (.region k138_o3) k138_12
abbrev k138_o7 : List AJ := [.o ⟨(some 13), none, false, .mv (.t 6), (some [0, 1, 13])⟩]
abbrev k138_o8 : List AJ := [.o ⟨(some 4), none, false, .mv (.c (.int .i64 1)), (some [4])⟩]
def k138_16 : ACode := .seq (.region k138_o8) .ret
def k138_17 : ACode := .cond (.t 13) k138_16 .skip
def k138_18 : ACode := .seq (.region k138_o7) k138_17
abbrev k138_o9 : List AJ := [.o ⟨(some 14), none, false, .mv (.t 0), none⟩, .o ⟨(some 15), none, false, .mv (.t 1), none⟩, .o ⟨(some 16), none, false, .bin .lss (.t 14) (.t 15), (some [0, 1, 16])⟩]
abbrev k138_o10 : List AJ := [.o ⟨(some 4), none, false, .mv (.c (.int .i64 (-1))), (some [4])⟩]
def k138_21 : ACode := .seq (.region k138_o10) .ret
def k138_22 : ACode := .cond (.t 16) k138_21 .skip
def k138_23 : ACode := .seq (.region k138_o9) k138_22
abbrev k138_o11 : List AJ := [.o ⟨(some 17), none, false, .mv (.t 0), none⟩, .o ⟨(some 18), none, false, .mv (.t 1), none⟩, .o ⟨(some 19), none, false, .bin .gtr (.t 17) (.t 18), (some [19])⟩]
abbrev k138_o12 : List AJ := [.o ⟨(some 4), none, false, .mv (.c (.int .i64 1)), (some [4])⟩]
def k138_26 : ACode := .seq (.region k138_o12) .ret
def k138_27 : ACode := .cond (.t 19) k138_26 .skip
def k138_28 : ACode := .seq (.region k138_o11) k138_27
abbrev k138_o13 : List AJ := [.o ⟨(some 4), none, false, .mv (.c (.int .i64 0)), (some [4])⟩]
def k138_30 : ACode := .seq (.region k138_o13) .ret
def k138_31 : ACode := .seq k138_28 k138_30
def k138_32 : ACode := .seq k138_23 k138_31
def k138_33 : ACode := .seq k138_18 k138_32
def k138_34 : ACode := .seq k138_13 k138_33
def k138_35 : ACode := .seq (.region k138_o2) k138_34
def k138_36 : ACode := .seq (.region k138_o1) k138_35
def k138_37 : ACode := .seq (.region k138_o0) k138_36
@[simp, simp ↓] theorem k138_6r : sR k138_6 k138_o5 .ret := yR rfl
@[simp, simp ↓] theorem k138_7r : rC k138_7 (.t 12) k138_6 .skip := zC rfl
@[simp, simp ↓] theorem k138_8r : sR k138_8 k138_o4 k138_7 := yR rfl
@[simp, simp ↓] theorem k138_10r : sR k138_10 k138_o6 .ret := yR rfl
@[simp, simp ↓] theorem k138_11r : rS k138_11 k138_8 k138_10 := zS rfl
@[simp, simp ↓] theorem k138_12r : rC k138_12 (.t 11) k138_11 .skip := zC rfl
@[simp, simp ↓] theorem k138_13r : sR k138_13 k138_o3 k138_12 := yR rfl
@[simp, simp ↓] theorem k138_16r : sR k138_16 k138_o8 .ret := yR rfl
@[simp, simp ↓] theorem k138_17r : rC k138_17 (.t 13) k138_16 .skip := zC rfl
@[simp, simp ↓] theorem k138_18r : sR k138_18 k138_o7 k138_17 := yR rfl
@[simp, simp ↓] theorem k138_21r : sR k138_21 k138_o10 .ret := yR rfl
@[simp, simp ↓] theorem k138_22r : rC k138_22 (.t 16) k138_21 .skip := zC rfl
@[simp, simp ↓] theorem k138_23r : sR k138_23 k138_o9 k138_22 := yR rfl
@[simp, simp ↓] theorem k138_26r : sR k138_26 k138_o12 .ret := yR rfl
@[simp, simp ↓] theorem k138_27r : rC k138_27 (.t 19) k138_26 .skip := zC rfl
@[simp, simp ↓] theorem k138_28r : sR k138_28 k138_o11 k138_27 := yR rfl
@[simp, simp ↓] theorem k138_30r : sR k138_30 k138_o13 .ret := yR rfl
@[simp, simp ↓] theorem k138_31r : rS k138_31 k138_28 k138_30 := zS rfl
@[simp, simp ↓] theorem k138_32r : rS k138_32 k138_23 k138_31 := zS rfl
@[simp, simp ↓] theorem k138_33r : rS k138_33 k138_18 k138_32 := zS rfl
@[simp, simp ↓] theorem k138_34r : rS k138_34 k138_13 k138_33 := zS rfl
@[simp, simp ↓] theorem k138_35r : sR k138_35 k138_o2 k138_34 := yR rfl
@[simp, simp ↓] theorem k138_36r : sR k138_36 k138_o1 k138_35 := yR rfl
@[simp, simp ↓] theorem k138_37r : sR k138_37 k138_o0 k138_36 := yR rfl
noncomputable abbrev k138_C : Orc → Cx := mkC Try.prog [] 138 20 [.tmp 4]
theorem k138_of0 : OfP0 Try.prog Try.f138 138 20 k138_C k138_37 := @ofP0 _ _ _ _ _ _ _ _ Try.func138 (by decide +kernel) rfl (by kernel_rfl) rfl (by kernel_rfl)
theorem comparei_c (a b : Int) (h : Heap) : ACalls Try.prog 138 [.int .i64 a, .int .i64 b] h (fun v h' => v = .int .i64 (cmpZ a b) ∧ h' = h) := by
  refine k138_of0 rfl orc1_p fun I => ?_
  refine Run2.of I 1000 ?_
  simp -implicitDefEqProofs [cmpZ]
  grind
noncomputable def o_comparei : List AV → Option (Prop × AV) := tab (fun (x : Int × Int) => match x with | (a, b) => [.int .i64 a, .int .i64 b]) (fun x => match x with | (a, b) => True) (fun x => match x with | (a, b) => .int .i64 (cmpZ a b))
@[simp] theorem o_comparei_e (a : Int) (b : Int) : o_comparei [.int .i64 a, .int .i64 b] = some (True, .int .i64 (cmpZ a b)) := tab_at (enc := fun (x : Int × Int) => match x with | (a, b) => [.int .i64 a, .int .i64 b]) (fun x y h => by
  obtain ⟨a1, b1⟩ := x; obtain ⟨a2, b2⟩ := y; simp at h; simp [h] <;> omega) _ _ (a, b)
theorem o_comparei_k : Knows Try.prog 138 o_comparei := tab_knows fun x hx h => by
  obtain ⟨a, b⟩ := x; exact comparei_c _ _ h
def orI : List Int → Int
  | [] => 0
  | x :: xs => if x = 0 then orI xs else x
abbrev k128_o0 : List AJ := [.o ⟨(some 2), none, false, .mv (.c (.int .i64 0)), (some [0])⟩]
abbrev k128_o1 : List AJ := [.o ⟨(some 3), none, false, .mv (.c (.int .i64 0)), (some [0, 3])⟩]
abbrev k128_o2 : List AJ := [.o ⟨(some 6), none, false, .mv (.t 0), none⟩, .o ⟨(some 7), none, false, .len (.t 6), none⟩, .o ⟨(some 8), none, false, .mv (.c (.int .i64 0)), (some [3, 6, 7, 8])⟩]
abbrev k128_o3 : List AJ := [.o ⟨(some 9), none, false, .bin .lss (.t 8) (.t 7), (some [3, 6, 7, 8, 9])⟩]
abbrev k128_o4 : List AJ := [.o ⟨(some 10), none, false, .idxA 1 (.t 6) (.t 8), none⟩, .o ⟨(some 11), none, false, .load 1 false (.t 10), none⟩, .o ⟨(some 5), none, false, .mv (.t 11), (some [3, 5, 6, 7, 8])⟩]
abbrev k128_o5 : List AJ := [.o ⟨(some 12), none, false, .mv (.t 5), none⟩, .o ⟨(some 13), none, false, .mv (.t 3), none⟩, .o ⟨(some 14), none, false, .bin .neq (.t 12) (.t 13), (some [3, 5, 6, 7, 8, 14])⟩]
abbrev k128_o6 : List AJ := [.o ⟨(some 15), none, false, .mv (.t 5), none⟩, .o ⟨(some 2), none, false, .mv (.t 15), (some [2])⟩]
def k128_8 : ACode := .seq (.region k128_o6) .ret
def k128_9 : ACode := .cond (.t 14) k128_8 .skip
def k128_10 : ACode := .seq (.region k128_o5) k128_9
def k128_11 : ACode := .seq (.region k128_o4) k128_10
abbrev k128_o7 : List AJ := [.o ⟨(some 16), none, true, .bin .add (.t 8) (.c (.int .i64 1)), none⟩, .o ⟨(some 8), none, false, .mv (.t 16), (some [3, 6, 7, 8])⟩]
def k128_13 : ACode := .region k128_o7
def k128_14 : ACode := .seq (.block 1 k128_11) k128_13
def k128_15 : ACode := .seq (.cond (.t 9) .skip (.exit 0)) k128_14
def k128_16 : ACode := .seq (.region k128_o3) k128_15
def k128_17 : ACode := .loop k128_16
def k128_18 : ACode := .block 0 k128_17
def k128_19 : ACode := .seq (.region k128_o2) k128_18
abbrev k128_o8 : List AJ := [.o ⟨(some 17), none, false, .mv (.t 3), none⟩, .o ⟨(some 2), none, false, .mv (.t 17), (some [2])⟩]
def k128_21 : ACode := .seq (.region k128_o8) .ret
def k128_22 : ACode := .seq k128_19 k128_21
def k128_23 : ACode := .seq (.region k128_o1) k128_22
def k128_24 : ACode := .seq (.region k128_o0) k128_23
@[simp, simp ↓] theorem k128_8r : sR k128_8 k128_o6 .ret := yR rfl
@[simp, simp ↓] theorem k128_9r : rC k128_9 (.t 14) k128_8 .skip := zC rfl
@[simp, simp ↓] theorem k128_10r : sR k128_10 k128_o5 k128_9 := yR rfl
@[simp, simp ↓] theorem k128_11r : sR k128_11 k128_o4 k128_10 := yR rfl
@[simp, simp ↓] theorem k128_13r : rR k128_13 k128_o7 := zR rfl
@[simp, simp ↓] theorem k128_14r : sB k128_14 1 k128_11 k128_13 := yB rfl
@[simp, simp ↓] theorem k128_15r : sC k128_15 (.t 9) .skip (.exit 0) k128_14 := yC rfl
@[simp, simp ↓] theorem k128_16r : sR k128_16 k128_o3 k128_15 := yR rfl
@[simp, simp ↓] theorem k128_17r : rL k128_17 k128_16 := zL rfl
@[simp, simp ↓] theorem k128_18r : rB k128_18 0 k128_17 := zB rfl
@[simp, simp ↓] theorem k128_19r : sR k128_19 k128_o2 k128_18 := yR rfl
@[simp, simp ↓] theorem k128_21r : sR k128_21 k128_o8 .ret := yR rfl
@[simp, simp ↓] theorem k128_22r : rS k128_22 k128_19 k128_21 := zS rfl
@[simp, simp ↓] theorem k128_23r : sR k128_23 k128_o1 k128_22 := yR rfl
@[simp, simp ↓] theorem k128_24r : sR k128_24 k128_o0 k128_23 := yR rfl
noncomputable abbrev k128_C : Orc → Cx := mkC Try.prog [] 128 18 [.tmp 2]
theorem k128_of0 : OfP0 Try.prog Try.f128 128 18 k128_C k128_24 := @ofP0 _ _ _ _ _ _ _ _ Try.func128 (by decide +kernel) rfl (by kernel_rfl) rfl (by kernel_rfl)
theorem or_c (l : List Int) (h : Heap) (hl : l.length ≤ 1048576) : ACalls Try.prog 128 [.snap 1 (l.map fun n => .int .i64 n)] h (fun v h' => v = .int .i64 (orI l) ∧ h' = h) := by
  refine k128_of0 rfl noPure fun I => ?_
  refine Run2.of I 1000 ?_
  simp -implicitDefEqProofs
  refine Run2.loop (fun i => [(3, .int .i64 0), (6, .snap 1 (l.map fun n => .int .i64 n)), (7, .int .i64 l.length), (8, .int .i64 (i : Nat))]) (fun i => h) (fun i => l.length - i) (fun i => i ≤ l.length ∧ orI (l.drop i) = orI l) 0 (by simp) fun i hi ih => ?_
  by_cases hlt : i < l.length
  · have hd : l.drop i = l[i] :: l.drop (i + 1) := List.drop_eq_getElem_cons hlt
    refine Run2.of I 1000 ?_
    simp -implicitDefEqProofs [hlt]
    constructor
    · intro hne
      rw [← hi.2, hd, orI, if_neg hne]
    · intro he
      refine ⟨by omega, ?_⟩
      have := ih (i + 1) ⟨by omega, by rw [← hi.2, hd, orI, if_pos he]⟩ (by omega)
      simpa using this
  · have : i = l.length := by omega
    have h2 := hi.2
    rw [List.drop_of_length_le (by omega)] at h2
    refine Run2.of I 1000 ?_
    simp -implicitDefEqProofs [hlt]
    exact h2
noncomputable def o_or2 : List AV → Option (Prop × AV) := tab (fun (x : Int × Int) => match x with | (a, b) => [.snap 1 [.int .i64 a, .int .i64 b]]) (fun x => match x with | (a, b) => True) (fun x => match x with | (a, b) => .int .i64 (orI [a, b]))
@[simp] theorem o_or2_e (a : Int) (b : Int) : o_or2 [.snap 1 [.int .i64 a, .int .i64 b]] = some (True, .int .i64 (orI [a, b])) := tab_at (enc := fun (x : Int × Int) => match x with | (a, b) => [.snap 1 [.int .i64 a, .int .i64 b]]) (fun x y h => by
  obtain ⟨a1, b1⟩ := x; obtain ⟨a2, b2⟩ := y; simp at h; simp [h] <;> omega) _ _ (a, b)
theorem o_or2_k : Knows Try.prog 128 o_or2 := tab_knows fun x hx h => by
  obtain ⟨a, b⟩ := x; exact or_c [a, b] h (by simp)
noncomputable def orc2 : List (Nat × (List AV → Option (Prop × AV))) := (129, o_compare) :: (138, o_comparei) :: (128, o_or2) :: orc1
theorem orc2_p : Pure Try.prog (lk orc2) := (lk_pure o_compare_k (lk_pure o_comparei_k (lk_pure o_or2_k orc1_p)))
@[simp] theorem orc2_l (b : Bool) (g : FuncId) (l : List AV) : lk orc2 b g l = if g = 129 then o_compare l else if g = 138 then o_comparei l else if g = 128 then o_or2 l else lk orc1 b g l := nr rfl
def btw (l : List Int) (a b : Int) : Prop := ∀ k ∈ l, a ≤ k ∧ k ≤ b
noncomputable instance (l : List Int) (a b : Int) : Decidable (btw l a b ∧ riseS l) := Classical.propDecidable _
theorem rising_to {r : List Int} (i : Nat) (h : ∀ j (h : j + 1 < r.length), j + 1 < i → r[j] < r[j + 1]) (hi : r.length ≤ i) : riseS r := fun j hj => h j hj (by omega)
abbrev k135_o0 : List AJ := [.o ⟨(some 2), none, false, .mv (.c (.bool false)), (some [0])⟩]
abbrev k135_o1 : List AJ := [.o ⟨(some 3), none, false, .mv (.c (.int .i64 1)), (some [0, 3])⟩]
abbrev k135_o2 : List AJ := [.o ⟨(some 4), none, false, .mv (.t 3), none⟩, .o ⟨(some 5), none, false, .mv (.t 0), none⟩, .o ⟨(some 6), none, false, .len (.t 5), none⟩, .o ⟨(some 7), none, false, .bin .lss (.t 4) (.t 6), (some [0, 3, 7])⟩]
def k135_3 : ACode := .cond (.t 7) .skip (.exit 0)
def k135_4 : ACode := .seq (.region k135_o2) k135_3
abbrev k135_o3 : List AI := [⟨(some 10), none, false, .mv (.t 0), none⟩, ⟨(some 11), none, false, .mv (.t 3), none⟩, ⟨(some 12), none, true, .bin .sub (.t 11) (.c (.int .i64 1)), none⟩, ⟨(some 13), none, false, .idxA 1 (.t 10) (.t 12), none⟩, ⟨(some 14), none, false, .load 1 false (.t 13), none⟩, ⟨(some 15), none, false, .mv (.t 0), none⟩, ⟨(some 16), none, false, .mv (.t 3), none⟩, ⟨(some 17), none, false, .idxA 1 (.t 15) (.t 16), none⟩, ⟨(some 18), none, false, .load 1 false (.t 17), none⟩, ⟨(some 19), none, false, .bin .geq (.t 14) (.t 18), (some [0, 3, 19])⟩]
abbrev k135_o4 : List AJ := [.o ⟨(some 2), none, false, .mv (.c (.bool false)), (some [2])⟩]
def k135_7 : ACode := .seq (.region k135_o4) .ret
def k135_8 : ACode := .cond (.t 19) k135_7 .skip
def k135_9 : ACode := .seq (.draw k135_o3 [] rfl) k135_8
abbrev k135_o5 : List AJ := [.o ⟨(some 8), none, false, .mv (.t 3), none⟩, .o ⟨(some 9), none, true, .bin .add (.t 8) (.c (.int .i64 1)), none⟩, .o ⟨(some 3), none, false, .mv (.t 9), (some [0, 3])⟩]
def k135_11 : ACode := .region k135_o5
def k135_12 : ACode := .seq (.block 1 k135_9) k135_11
def k135_13 : ACode := .seq k135_4 k135_12
def k135_14 : ACode := .loop k135_13
def k135_15 : ACode := .block 0 k135_14
def k135_16 : ACode := .seq (.region k135_o1) k135_15
abbrev k135_o6 : List AJ := [.o ⟨(some 2), none, false, .mv (.c (.bool true)), (some [2])⟩]
def k135_18 : ACode := .seq (.region k135_o6) .ret
def k135_19 : ACode := .seq k135_16 k135_18
def k135_20 : ACode := .seq (.region k135_o0) k135_19
@[simp, simp ↓] theorem k135_3r : rC k135_3 (.t 7) .skip (.exit 0) := zC rfl
@[simp, simp ↓] theorem k135_4r : sR k135_4 k135_o2 k135_3 := yR rfl
@[simp, simp ↓] theorem k135_7r : sR k135_7 k135_o4 .ret := yR rfl
@[simp, simp ↓] theorem k135_8r : rC k135_8 (.t 19) k135_7 .skip := zC rfl
@[simp, simp ↓] theorem k135_9r : sD k135_9 k135_o3 [] k135_8 := yD rfl
@[simp, simp ↓] theorem k135_11r : rR k135_11 k135_o5 := zR rfl
@[simp, simp ↓] theorem k135_12r : sB k135_12 1 k135_9 k135_11 := yB rfl
@[simp, simp ↓] theorem k135_13r : rS k135_13 k135_4 k135_12 := zS rfl
@[simp, simp ↓] theorem k135_14r : rL k135_14 k135_13 := zL rfl
@[simp, simp ↓] theorem k135_15r : rB k135_15 0 k135_14 := zB rfl
@[simp, simp ↓] theorem k135_16r : sR k135_16 k135_o1 k135_15 := yR rfl
@[simp, simp ↓] theorem k135_18r : sR k135_18 k135_o6 .ret := yR rfl
@[simp, simp ↓] theorem k135_19r : rS k135_19 k135_16 k135_18 := zS rfl
@[simp, simp ↓] theorem k135_20r : sR k135_20 k135_o0 k135_19 := yR rfl
noncomputable abbrev k135_C : Orc → Cx := mkC Try.prog [] 135 20 [.tmp 2]
theorem k135_of0 : OfP0 Try.prog Try.f135 135 20 k135_C k135_20 := @ofP0 _ _ _ _ _ _ _ _ Try.func135 (by decide +kernel) rfl (by kernel_rfl) rfl (by kernel_rfl)
theorem isRising_s (l : List Int) (h : Heap) (hl : l.length ≤ 1048576) : ACalls Try.prog 135 [.snap 1 (l.map iv)] h (fun v h' => v = .bool (decide (riseS l)) ∧ h' = h) := by
  refine k135_of0 rfl noPure fun I => ?_
  refine Run2.of I 1000 ?_
  simp -implicitDefEqProofs
  refine Run2.loopE (fun i => [(0, .snap 1 (l.map iv)), (3, .int .i64 (i + 1 : Nat))]) (fun i => h) (fun i => l.length - i) (fun i => (i = 0 ∨ i < l.length) ∧ ∀ j (hj : j + 1 < l.length), j + 1 < i + 1 → l[j] < l[j + 1]) 0 (by simp) rfl ⟨.inl rfl, fun _ _ h => by omega⟩ fun i hi ih => ?_
  by_cases hlt : i + 1 < l.length
  · have hlt' : i < l.length := by omega
    have hc : ((i : Int) + 1 - 1).toNat = i := by omega
    have go := fun (h1 : l[i] < l[i + 1]) => ih (i + 1) ⟨.inr (by omega), fun j hj hji => by
      rcases Nat.lt_or_ge j i with h | h
      · exact hi.2 j hj (by omega)
      · obtain rfl : j = i := by omega
        exact h1⟩ (by omega)
    have hbad : l[i + 1] ≤ l[i] → ¬ riseS l := fun h1 h2 => by have := h2 i hlt; omega
    clear ih
    refine Run2.of I 1000 ?_
    simp -implicitDefEqProofs [hlt, hlt', hc]
    simp at go
    repeat' (first | refine And.intro ?_ ?_ | intro _)
    all_goals first | omega | (unfold in64; omega) | exact absurd ‹riseS l› (hbad (by omega)) | exact go (by omega)
  · have hr := rising_to (r := l) (i + 1) hi.2 (by omega)
    have hlt2 : ¬ ((i : Int) + 1 < l.length) := by omega
    refine Run2.of I 1000 ?_
    simp -implicitDefEqProofs [hlt, hlt2]
    exact hr
noncomputable def o_isRising : List AV → Option (Prop × AV) := tab (fun (x : List Int) => match x with | l => [.snap 1 (l.map iv)]) (fun x => match x with | l => l.length ≤ 1048576) (fun x => match x with | l => .bool (decide (riseS l)))
@[simp] theorem o_isRising_e (l : List Int) : o_isRising [.snap 1 (l.map iv)] = some (l.length ≤ 1048576, .bool (decide (riseS l))) := tab_at (enc := fun (x : List Int) => match x with | l => [.snap 1 (l.map iv)]) (fun x y h => by
  simp at h; simp [h] <;> omega) _ _ l
theorem o_isRising_k : Knows Try.prog 135 o_isRising := tab_knows fun x hx h => by
  exact isRising_s x h hx
abbrev k132_o0 : List AJ := [.o ⟨(some 6), none, false, .mv (.c (.bool false)), (some [0, 1, 2])⟩]
abbrev k132_o1 : List AJ := [.o ⟨(some 7), none, false, .mv (.c (.int .i64 0)), (some [0, 1, 2, 7])⟩]
abbrev k132_o2 : List AJ := [.o ⟨(some 8), none, false, .mv (.t 7), none⟩, .o ⟨(some 9), none, false, .mv (.t 0), none⟩, .o ⟨(some 10), none, false, .len (.t 9), none⟩, .o ⟨(some 11), none, false, .bin .lss (.t 8) (.t 10), (some [0, 1, 2, 7, 11])⟩]
def k132_3 : ACode := .cond (.t 11) .skip (.exit 0)
def k132_4 : ACode := .seq (.region k132_o2) k132_3
abbrev k132_o3 : List AI := [⟨(some 14), none, false, .mv (.t 0), none⟩, ⟨(some 15), none, false, .mv (.t 7), none⟩, ⟨(some 16), none, false, .idxA 1 (.t 14) (.t 15), none⟩, ⟨(some 17), none, false, .load 1 false (.t 16), none⟩, ⟨(some 18), none, false, .mv (.t 1), none⟩, ⟨(some 19), none, false, .mv (.t 2), none⟩, ⟨(some 20), none, false, .call 45 [(.t 17), (.t 18), (.t 19)], none⟩, ⟨(some 21), none, false, .un .not (.t 20), none⟩, ⟨(some 22), none, false, .mv (.t 21), none⟩, ⟨(some 23), (some (22, false)), false, .mv (.t 7), none⟩, ⟨(some 24), (some (22, false)), false, .bin .gtr (.t 23) (.c (.int .i64 0)), none⟩, ⟨(some 25), (some (22, false)), false, .mv (.t 24), (some [0, 1, 2, 7, 22, 25])⟩, ⟨(some 26), (some (25, true)), false, .mv (.t 0), none⟩, ⟨(some 27), (some (25, true)), false, .mv (.t 7), none⟩, ⟨(some 28), (some (25, true)), true, .bin .sub (.t 27) (.c (.int .i64 1)), none⟩, ⟨(some 29), (some (25, true)), false, .idxA 1 (.t 26) (.t 28), none⟩, ⟨(some 30), (some (25, true)), false, .load 1 false (.t 29), none⟩, ⟨(some 31), (some (25, true)), false, .mv (.t 0), none⟩, ⟨(some 32), (some (25, true)), false, .mv (.t 7), (some [0, 1, 2, 7, 22, 25, 30, 31, 32])⟩, ⟨(some 33), (some (25, true)), false, .idxA 1 (.t 31) (.t 32), none⟩, ⟨(some 34), (some (25, true)), false, .load 1 false (.t 33), none⟩, ⟨(some 35), (some (25, true)), false, .bin .geq (.t 30) (.t 34), none⟩, ⟨(some 36), (some (22, false)), false, .pick (.t 25) (.t 35) (.c (.bool false)), none⟩, ⟨(some 37), none, false, .pick (.t 22) (.c (.bool true)) (.t 36), (some [0, 1, 2, 7, 37])⟩]
abbrev k132_o4 : List AJ := [.o ⟨(some 6), none, false, .mv (.c (.bool false)), (some [6])⟩]
def k132_7 : ACode := .seq (.region k132_o4) .ret
def k132_8 : ACode := .cond (.t 37) k132_7 .skip
def k132_9 : ACode := .seq (.draw k132_o3 [] rfl) k132_8
abbrev k132_o5 : List AJ := [.o ⟨(some 12), none, false, .mv (.t 7), none⟩, .o ⟨(some 13), none, true, .bin .add (.t 12) (.c (.int .i64 1)), none⟩, .o ⟨(some 7), none, false, .mv (.t 13), (some [0, 1, 2, 7])⟩]
def k132_11 : ACode := .region k132_o5
def k132_12 : ACode := .seq (.block 1 k132_9) k132_11
def k132_13 : ACode := .seq k132_4 k132_12
def k132_14 : ACode := .loop k132_13
def k132_15 : ACode := .block 0 k132_14
def k132_16 : ACode := .seq (.region k132_o1) k132_15
abbrev k132_o6 : List AJ := [.o ⟨(some 6), none, false, .mv (.c (.bool true)), (some [6])⟩]
def k132_18 : ACode := .seq (.region k132_o6) .ret
def k132_19 : ACode := .seq k132_16 k132_18
def k132_20 : ACode := .seq (.region k132_o0) k132_19
@[simp, simp ↓] theorem k132_3r : rC k132_3 (.t 11) .skip (.exit 0) := zC rfl
@[simp, simp ↓] theorem k132_4r : sR k132_4 k132_o2 k132_3 := yR rfl
@[simp, simp ↓] theorem k132_7r : sR k132_7 k132_o4 .ret := yR rfl
@[simp, simp ↓] theorem k132_8r : rC k132_8 (.t 37) k132_7 .skip := zC rfl
@[simp, simp ↓] theorem k132_9r : sD k132_9 k132_o3 [] k132_8 := yD rfl
@[simp, simp ↓] theorem k132_11r : rR k132_11 k132_o5 := zR rfl
@[simp, simp ↓] theorem k132_12r : sB k132_12 1 k132_9 k132_11 := yB rfl
@[simp, simp ↓] theorem k132_13r : rS k132_13 k132_4 k132_12 := zS rfl
@[simp, simp ↓] theorem k132_14r : rL k132_14 k132_13 := zL rfl
@[simp, simp ↓] theorem k132_15r : rB k132_15 0 k132_14 := zB rfl
@[simp, simp ↓] theorem k132_16r : sR k132_16 k132_o1 k132_15 := yR rfl
@[simp, simp ↓] theorem k132_18r : sR k132_18 k132_o6 .ret := yR rfl
@[simp, simp ↓] theorem k132_19r : rS k132_19 k132_16 k132_18 := zS rfl
@[simp, simp ↓] theorem k132_20r : sR k132_20 k132_o0 k132_19 := yR rfl
noncomputable abbrev k132_C : Orc → Cx := mkC Try.prog [] 132 38 [.tmp 6]
theorem k132_of0 : OfP0 Try.prog Try.f132 132 38 k132_C k132_20 := @ofP0 _ _ _ _ _ _ _ _ Try.func132 (by decide +kernel) rfl (by kernel_rfl) rfl (by kernel_rfl)
theorem l00Rises_s (l : List Int) (a b : Int) (h : Heap) (hl : l.length ≤ 1048576) : ACalls Try.prog 132 [.snap 1 (l.map iv), .int .i64 a, .int .i64 b] h (fun v h' => v = .bool (decide (btw l a b ∧ riseS l)) ∧ h' = h) := by
  refine k132_of0 rfl orc1_p fun I => ?_
  refine Run2.of I 1000 ?_
  simp -implicitDefEqProofs
  refine Run2.loopE (fun (i : Nat) => [(0, .snap 1 (l.map iv)), (1, .int .i64 a), (2, .int .i64 b), (7, .int .i64 i)]) (fun i => h) (fun i => l.length - i) (fun i => i ≤ l.length ∧ (∀ j (hj : j < l.length), j < i → a ≤ l[j] ∧ l[j] ≤ b) ∧ ∀ j (hj : j + 1 < l.length), j + 1 < i → l[j] < l[j + 1]) 0 (by simp) rfl ⟨Nat.zero_le _, fun _ _ h => by omega, fun _ _ h => by omega⟩ fun i hi ih => ?_
  by_cases hlt : i < l.length
  · have hbad1 : ¬ (a ≤ l[i] ∧ l[i] ≤ b) → ¬ (btw l a b ∧ riseS l) := fun h1 h2 => h1 (h2.1 _ (List.getElem_mem hlt))
    cases i with
    | zero =>
      have go := fun (h1 : a ≤ l[0] ∧ l[0] ≤ b) => ih 1 ⟨by omega, fun j hj hji => by
        obtain rfl : j = 0 := by omega
        exact h1, fun j hj hji => by omega⟩ (by omega)
      clear ih
      refine Run2.of I 1000 ?_
      simp -implicitDefEqProofs [hlt]
      simp at go hbad1
      repeat' (first | refine And.intro ?_ ?_ | intro _)
      all_goals first | omega | grind
    | succ i =>
      have hlt' : i < l.length := by omega
      have hc : ((i : Int) + 1 - 1).toNat = i := by omega
      have hbad2 : ¬ l[i] < l[i + 1] → ¬ (btw l a b ∧ riseS l) := fun h1 h2 => h1 (h2.2 i hlt)
      have go := fun (h1 : a ≤ l[i + 1] ∧ l[i + 1] ≤ b) (h2 : l[i] < l[i + 1]) => ih (i + 1 + 1) ⟨by omega, fun j hj hji => by
        rcases Nat.lt_or_ge j (i + 1) with h | h
        · exact hi.2.1 j hj h
        · obtain rfl : j = i + 1 := by omega
          exact h1, fun j hj hji => by
        rcases Nat.lt_or_ge (j + 1) (i + 1) with h | h
        · exact hi.2.2 j hj h
        · obtain rfl : j = i := by omega
          exact h2⟩ (by omega)
      clear ih
      refine Run2.of I 1000 ?_
      simp -implicitDefEqProofs [hlt, hlt', hc]
      simp at go hbad1 hbad2
      repeat' (first | refine And.intro ?_ ?_ | intro _)
      all_goals first | omega | (unfold in64; omega) | grind
  · obtain rfl : i = l.length := by omega
    have h1 : ∀ k ∈ l, a ≤ k ∧ k ≤ b := fun k hk => by
      obtain ⟨j, hj, rfl⟩ := List.mem_iff_getElem.1 hk
      exact hi.2.1 j hj hj
    have h2 : riseS l := fun j hj => hi.2.2 j hj hj
    refine Run2.of I 1000 ?_
    simp -implicitDefEqProofs
    exact ⟨h1, h2⟩
noncomputable def o_l00Rises : List AV → Option (Prop × AV) := tab (fun (x : List Int × Int × Int) => match x with | (l, a, b) => [.snap 1 (l.map iv), .int .i64 a, .int .i64 b]) (fun x => match x with | (l, a, b) => l.length ≤ 1048576) (fun x => match x with | (l, a, b) => .bool (decide (btw l a b ∧ riseS l)))
@[simp] theorem o_l00Rises_e (l : List Int) (a : Int) (b : Int) : o_l00Rises [.snap 1 (l.map iv), .int .i64 a, .int .i64 b] = some (l.length ≤ 1048576, .bool (decide (btw l a b ∧ riseS l))) := tab_at (enc := fun (x : List Int × Int × Int) => match x with | (l, a, b) => [.snap 1 (l.map iv), .int .i64 a, .int .i64 b]) (fun x y h => by
  obtain ⟨l1, a1, b1⟩ := x; obtain ⟨l2, a2, b2⟩ := y; simp at h; simp [h] <;> omega) _ _ (l, a, b)
theorem o_l00Rises_k : Knows Try.prog 132 o_l00Rises := tab_knows fun x hx h => by
  obtain ⟨l, a, b⟩ := x; exact l00Rises_s l a b h hx
abbrev k47_o0 : List AJ := [.o ⟨(some 2), none, false, .mv (.c .nilsl), (some [0])⟩]
abbrev k47_o1 : List AJ := [.e 3 1 none, .o ⟨(some 4), none, false, .mv (.t 0), none⟩, .o ⟨(some 5), none, false, .append 1 8 (.t 3) (.t 4), none⟩, .o ⟨(some 2), none, false, .mv (.t 5), (some [2])⟩]
def k47_2 : ACode := .seq (.region k47_o1) .ret
def k47_3 : ACode := .seq (.region k47_o0) k47_2
@[simp, simp ↓] theorem k47_2r : sR k47_2 k47_o1 .ret := yR rfl
@[simp, simp ↓] theorem k47_3r : sR k47_3 k47_o0 k47_2 := yR rfl
noncomputable abbrev k47_C : Orc → Cx := mkC Try.prog [3] 47 6 [.tmp 2]
theorem k47_of0 : OfP0 Try.prog Try.f47 47 6 k47_C k47_3 := @ofP0 _ _ _ _ _ _ _ _ Try.func47 (by decide +kernel) rfl (by kernel_rfl) rfl (by kernel_rfl)
theorem l00Own_g (l : List Int) (h : Heap) (hl : l.length ≤ 1048576) : ACalls Try.prog 47 [.snap 1 (l.map iv)] h (fun v h' => ∃ hp, Grow 1 v (l.map iv) hp ∧ h' = hp ++ h) := by
  refine k47_of0 rfl noPure fun I => ?_
  cases l with
  | nil =>
    refine Run2.of I 1000 ?_
    simp -implicitDefEqProofs
    exact .emp
  | cons a l =>
    refine Run2.of I 1000 ?_
    simp -implicitDefEqProofs
    refine ⟨by simp at hl; omega, fun id hid => ⟨[(id, _)], .sl id _ _ (by simp), rfl⟩⟩
/-- A slice that is only appended to, with room behind it. -/
inductive GrowX (sz : Nat) : AV → List AV → Heap → Prop
  | nil : GrowX sz .nilsl [] []
  | sl (id : Nat) (l ex : List AV) (n : Nat) (hn : n = l.length) : GrowX sz (.sl id sz 0 n none) l [(id, ⟨sz, l ++ ex⟩)]
theorem GrowX.cell {sz : Nat} {w : AV} {l : List AV} {hp : Heap} (h : GrowX sz w l hp) : isCell w = true := by cases h <;> rfl
theorem GrowX.len {sz : Nat} {w : AV} {l : List AV} {hp : Heap} (h : GrowX sz w l hp) : lenR w = .val (.int .i64 l.length) := by
  cases h with
  | nil => simp
  | sl id l ex n hn => subst hn; simp
theorem GrowX.app {sz : Nat} {w : AV} {l new : List AV} {hp h : Heap} {C : Cx} {n : Nat} {d : Option Nat} {ks : Option (List Nat)} {is : List AJ} {sk : List AItem} {R : AV → Heap → Prop} {e : Env} {bytes : Nat} (g : GrowX sz w l hp) (hb : (2 * (l.length + new.length)) * bytes ≤ 281474976710656)
    (k : ∀ w' hp', GrowX sz w' (l ++ new) hp' → vc2 C n is sk (kp (put e d w') ks) (hp' ++ h) R) : resK C n d ks is sk R e (hp ++ h) (appR (hp ++ h) sz bytes w new) := by
  cases g with
  | nil =>
    simp only [appR_n, List.nil_append]
    refine ⟨fun he => ?_, fun _ => ⟨by simpa using hb, fun id _ => ?_⟩⟩
    · have : new = [] := by cases new <;> simp_all
      subst this
      exact k _ _ .nil
    · have := k _ _ (.sl id new [] new.length rfl)
      simpa using this
  | sl id l ex m hm =>
    subst hm
    have hd : hdel ((id, ⟨sz, l ++ ex⟩) :: h) id = h := by simp [hdel]
    rw [appR_ln]
    refine ⟨rfl, ⟨sz, l ++ ex⟩, by simp [hget], rfl, by simp, rfl, hb, fun id' _ => ?_⟩
    have := k _ _ (.sl id' (l ++ new) [] (l.length + new.length) (by simp))
    simpa [hd] using this
/-- Lent: it reads as frozen. -/
theorem GrowX.lent {w : AV} {l : List AV} {hp : Heap} (h : GrowX 1 w l hp) : Wk (lend1 hp w) (.snap 1 l) := by
  cases h with
  | nil => exact Wk.nil 1
  | sl id l ex n hn =>
    subst hn
    have : lend1 [(id, (⟨1, l ++ ex⟩ : Blk))] (.sl id 1 0 l.length none) = .snap 1 l := by simp [lend1, fz]
    rw [this]
    exact Wk.refl _
abbrev k162_o0 : List AJ := [.o ⟨(some 4), none, false, .mv (.c .nilsl), (some [0, 1])⟩]
abbrev k162_o1 : List AJ := [.o ⟨(some 5), none, false, .mv (.t 1), none⟩, .o ⟨(some 6), none, false, .bin .lss (.t 5) (.c (.int .i64 0)), (some [0, 1, 6])⟩]
def k162_2 : ACode := .cond (.t 6) .bad .skip
def k162_3 : ACode := .seq (.region k162_o1) k162_2
abbrev k162_o2 : List AJ := [.o ⟨(some 8), none, false, .mv (.t 1), none⟩, .o ⟨(some 9), none, false, .mv (.t 0), none⟩, .o ⟨(some 10), none, false, .capk (.t 9), none⟩, .o ⟨(some 11), none, false, .mv (.t 0), none⟩, .o ⟨(some 12), none, false, .len (.t 11), none⟩, .o ⟨(some 13), none, true, .bin .sub (.t 10) (.t 12), none⟩, .o ⟨(some 14), none, true, .bin .sub (.t 8) (.t 13), none⟩, .o ⟨(some 1), none, false, .mv (.t 14), (some [0, 1])⟩]
abbrev k162_o3 : List AJ := [.o ⟨(some 15), none, false, .mv (.t 1), none⟩, .o ⟨(some 16), none, false, .bin .gtr (.t 15) (.c (.int .i64 0)), (some [0, 1, 16])⟩]
abbrev k162_o4 : List AJ := [.o ⟨(some 17), none, false, .mv (.t 0), none⟩, .o ⟨(some 18), none, false, .mv (.t 0), none⟩, .o ⟨(some 19), none, false, .capk (.t 18), none⟩, .o ⟨(some 20), none, false, .slice 1 (.t 17) none (some (.t 19)) none, none⟩, .o ⟨(some 21), none, false, .mv (.t 1), none⟩, .o ⟨(some 22), none, false, .appendz 1 8 (.int .i64 0) (.t 20) (.t 21), none⟩, .o ⟨(some 23), none, false, .mv (.t 0), none⟩, .o ⟨(some 24), none, false, .len (.t 23), none⟩, .o ⟨(some 25), none, false, .slice 1 (.t 22) none (some (.t 24)) none, none⟩, .o ⟨(some 0), none, false, .mv (.t 25), (some [0])⟩]
def k162_6 : ACode := .region k162_o4
def k162_7 : ACode := .cond (.t 16) k162_6 .skip
def k162_8 : ACode := .seq (.region k162_o3) k162_7
def k162_9 : ACode := .seq (.region k162_o2) k162_8
abbrev k162_o5 : List AJ := [.o ⟨(some 26), none, false, .mv (.t 0), none⟩, .o ⟨(some 4), none, false, .mv (.t 26), (some [4])⟩]
def k162_11 : ACode := .seq (.region k162_o5) .ret
def k162_12 : ACode := .seq k162_9 k162_11
def k162_13 : ACode := .seq k162_3 k162_12
def k162_14 : ACode := .seq (.region k162_o0) k162_13
@[simp, simp ↓] theorem k162_2r : rC k162_2 (.t 6) .bad .skip := zC rfl
@[simp, simp ↓] theorem k162_3r : sR k162_3 k162_o1 k162_2 := yR rfl
@[simp, simp ↓] theorem k162_6r : rR k162_6 k162_o4 := zR rfl
@[simp, simp ↓] theorem k162_7r : rC k162_7 (.t 16) k162_6 .skip := zC rfl
@[simp, simp ↓] theorem k162_8r : sR k162_8 k162_o3 k162_7 := yR rfl
@[simp, simp ↓] theorem k162_9r : sR k162_9 k162_o2 k162_8 := yR rfl
@[simp, simp ↓] theorem k162_11r : sR k162_11 k162_o5 .ret := yR rfl
@[simp, simp ↓] theorem k162_12r : rS k162_12 k162_9 k162_11 := zS rfl
@[simp, simp ↓] theorem k162_13r : rS k162_13 k162_3 k162_12 := zS rfl
@[simp, simp ↓] theorem k162_14r : sR k162_14 k162_o0 k162_13 := yR rfl
noncomputable abbrev k162_C : Orc → Cx := mkC Try.prog [] 162 27 [.tmp 4]
theorem k162_of0 : OfP0 Try.prog Try.f162 162 27 k162_C k162_14 := @ofP0 _ _ _ _ _ _ _ _ Try.func162 (by decide +kernel) rfl (by kernel_rfl) rfl (by kernel_rfl)
theorem GrowI_g (n : Nat) (h : Heap) (hn : n ≤ 1048576) : ACalls Try.prog 162 [.nilsl, .int .i64 n] h (fun v h' => ∃ hp, GrowX 1 v [] hp ∧ h' = hp ++ h) := by
  refine k162_of0 rfl noPure fun I => ?_
  refine Run2.of I 1000 ?_
  simp -implicitDefEqProofs
  refine ⟨by omega, fun h1 => ⟨h1, by omega, fun id _ => ⟨[(id, ⟨1, [] ++ List.replicate n (.int .i64 0)⟩)], .sl id [] _ 0 rfl, by simp⟩⟩, fun _ => .nil⟩
abbrev k141_o0 : List AJ := [.o ⟨(some 2), none, false, .mv (.c .nilsl), (some [0])⟩]
abbrev k141_o1 : List AJ := [.o ⟨(some 3), none, false, .mv (.c (.int .i64 0)), (some [0, 3])⟩]
abbrev k141_o2 : List AJ := [.o ⟨(some 9), none, false, .mv (.t 0), none⟩, .o ⟨(some 10), none, false, .len (.t 9), none⟩, .o ⟨(some 11), none, false, .mv (.c (.int .i64 0)), (some [0, 3, 9, 10, 11])⟩]
abbrev k141_o3 : List AJ := [.o ⟨(some 12), none, false, .bin .lss (.t 11) (.t 10), (some [0, 3, 9, 10, 11, 12])⟩]
abbrev k141_o4 : List AJ := [.o ⟨(some 13), none, false, .idxA 1 (.t 9) (.t 11), none⟩, .o ⟨(some 14), none, false, .load 1 false (.t 13), none⟩, .o ⟨(some 5), none, false, .mv (.t 14), (some [0, 3, 5, 9, 10, 11])⟩]
abbrev k141_o5 : List AJ := [.o ⟨(some 15), none, false, .mv (.t 3), none⟩, .o ⟨(some 16), none, false, .mv (.t 5), none⟩, .o ⟨(some 17), none, false, .len (.t 16), none⟩, .o ⟨(some 18), none, true, .bin .add (.t 15) (.t 17), none⟩, .o ⟨(some 3), none, false, .mv (.t 18), (some [0, 3, 9, 10, 11])⟩]
abbrev k141_o6 : List AJ := [.o ⟨(some 19), none, false, .mv (.t 3), none⟩, .o ⟨(some 20), none, false, .bin .lss (.t 19) (.c (.int .i64 0)), (some [0, 3, 9, 10, 11, 20])⟩]
def k141_8 : ACode := .cond (.t 20) .bad .skip
def k141_9 : ACode := .seq (.region k141_o6) k141_8
def k141_10 : ACode := .seq (.region k141_o5) k141_9
def k141_11 : ACode := .seq (.region k141_o4) k141_10
abbrev k141_o7 : List AJ := [.o ⟨(some 22), none, true, .bin .add (.t 11) (.c (.int .i64 1)), none⟩, .o ⟨(some 11), none, false, .mv (.t 22), (some [0, 3, 9, 10, 11])⟩]
def k141_13 : ACode := .region k141_o7
def k141_14 : ACode := .seq (.block 1 k141_11) k141_13
def k141_15 : ACode := .seq (.cond (.t 12) .skip (.exit 0)) k141_14
def k141_16 : ACode := .seq (.region k141_o3) k141_15
def k141_17 : ACode := .loop k141_16
def k141_18 : ACode := .block 0 k141_17
def k141_19 : ACode := .seq (.region k141_o2) k141_18
abbrev k141_o8 : List AJ := [.o ⟨(some 23), none, false, .mv (.t 3), none⟩, .o ⟨(some 24), none, false, .call 162 [(.c .nilsl), (.t 23)], none⟩, .o ⟨(some 6), none, false, .mv (.t 24), (some [0, 6])⟩]
abbrev k141_o9 : List AJ := [.o ⟨(some 25), none, false, .mv (.t 0), none⟩, .o ⟨(some 26), none, false, .len (.t 25), none⟩, .o ⟨(some 27), none, false, .mv (.c (.int .i64 0)), (some [6, 25, 26, 27])⟩]
abbrev k141_o10 : List AJ := [.o ⟨(some 28), none, false, .bin .lss (.t 27) (.t 26), (some [6, 25, 26, 27, 28])⟩]
abbrev k141_o11 : List AJ := [.o ⟨(some 29), none, false, .idxA 1 (.t 25) (.t 27), none⟩, .o ⟨(some 30), none, false, .load 1 false (.t 29), none⟩, .o ⟨(some 8), none, false, .mv (.t 30), (some [6, 8, 25, 26, 27])⟩]
abbrev k141_o12 : List AJ := [.o ⟨(some 31), none, false, .mv (.t 6), none⟩, .o ⟨(some 32), none, false, .mv (.t 8), none⟩, .o ⟨(some 33), none, false, .append 1 8 (.t 31) (.t 32), none⟩, .o ⟨(some 6), none, false, .mv (.t 33), (some [6, 25, 26, 27])⟩]
def k141_25 : ACode := .region k141_o12
def k141_26 : ACode := .seq (.region k141_o11) k141_25
abbrev k141_o13 : List AJ := [.o ⟨(some 34), none, true, .bin .add (.t 27) (.c (.int .i64 1)), none⟩, .o ⟨(some 27), none, false, .mv (.t 34), (some [6, 25, 26, 27])⟩]
def k141_28 : ACode := .region k141_o13
def k141_29 : ACode := .seq (.block 3 k141_26) k141_28
def k141_30 : ACode := .seq (.cond (.t 28) .skip (.exit 2)) k141_29
def k141_31 : ACode := .seq (.region k141_o10) k141_30
def k141_32 : ACode := .loop k141_31
def k141_33 : ACode := .block 2 k141_32
def k141_34 : ACode := .seq (.region k141_o9) k141_33
abbrev k141_o14 : List AJ := [.o ⟨(some 35), none, false, .mv (.t 6), none⟩, .o ⟨(some 2), none, false, .mv (.t 35), (some [2])⟩]
def k141_36 : ACode := .seq (.region k141_o14) .ret
def k141_37 : ACode := .seq k141_34 k141_36
def k141_38 : ACode := .seq (.region k141_o8) k141_37
def k141_39 : ACode := .seq k141_19 k141_38
def k141_40 : ACode := .seq (.region k141_o1) k141_39
def k141_41 : ACode := .seq (.region k141_o0) k141_40
@[simp, simp ↓] theorem k141_8r : rC k141_8 (.t 20) .bad .skip := zC rfl
@[simp, simp ↓] theorem k141_9r : sR k141_9 k141_o6 k141_8 := yR rfl
@[simp, simp ↓] theorem k141_10r : sR k141_10 k141_o5 k141_9 := yR rfl
@[simp, simp ↓] theorem k141_11r : sR k141_11 k141_o4 k141_10 := yR rfl
@[simp, simp ↓] theorem k141_13r : rR k141_13 k141_o7 := zR rfl
@[simp, simp ↓] theorem k141_14r : sB k141_14 1 k141_11 k141_13 := yB rfl
@[simp, simp ↓] theorem k141_15r : sC k141_15 (.t 12) .skip (.exit 0) k141_14 := yC rfl
@[simp, simp ↓] theorem k141_16r : sR k141_16 k141_o3 k141_15 := yR rfl
@[simp, simp ↓] theorem k141_17r : rL k141_17 k141_16 := zL rfl
@[simp, simp ↓] theorem k141_18r : rB k141_18 0 k141_17 := zB rfl
@[simp, simp ↓] theorem k141_19r : sR k141_19 k141_o2 k141_18 := yR rfl
@[simp, simp ↓] theorem k141_25r : rR k141_25 k141_o12 := zR rfl
@[simp, simp ↓] theorem k141_26r : sR k141_26 k141_o11 k141_25 := yR rfl
@[simp, simp ↓] theorem k141_28r : rR k141_28 k141_o13 := zR rfl
@[simp, simp ↓] theorem k141_29r : sB k141_29 3 k141_26 k141_28 := yB rfl
@[simp, simp ↓] theorem k141_30r : sC k141_30 (.t 28) .skip (.exit 2) k141_29 := yC rfl
@[simp, simp ↓] theorem k141_31r : sR k141_31 k141_o10 k141_30 := yR rfl
@[simp, simp ↓] theorem k141_32r : rL k141_32 k141_31 := zL rfl
@[simp, simp ↓] theorem k141_33r : rB k141_33 2 k141_32 := zB rfl
@[simp, simp ↓] theorem k141_34r : sR k141_34 k141_o9 k141_33 := yR rfl
@[simp, simp ↓] theorem k141_36r : sR k141_36 k141_o14 .ret := yR rfl
@[simp, simp ↓] theorem k141_37r : rS k141_37 k141_34 k141_36 := zS rfl
@[simp, simp ↓] theorem k141_38r : sR k141_38 k141_o8 k141_37 := yR rfl
@[simp, simp ↓] theorem k141_39r : rS k141_39 k141_19 k141_38 := zS rfl
@[simp, simp ↓] theorem k141_40r : sR k141_40 k141_o1 k141_39 := yR rfl
@[simp, simp ↓] theorem k141_41r : sR k141_41 k141_o0 k141_40 := yR rfl
noncomputable abbrev k141_C : Orc → Cx := mkC Try.prog [] 141 36 [.tmp 2]
theorem k141_of0 : OfP0 Try.prog Try.f141 141 36 k141_C k141_41 := @ofP0 _ _ _ _ _ _ _ _ Try.func141 (by decide +kernel) rfl (by kernel_rfl) rfl (by kernel_rfl)
theorem ConcatI_g (parts : List (List AV)) (h : Heap) (hl : parts.length ≤ 1048576) (ht : parts.flatten.length ≤ 1048576) : ACalls Try.prog 141 [.snap 1 (parts.map (.snap 1))] h (fun v h' => ∃ hp, GrowX 1 v parts.flatten hp ∧ h' = hp ++ h) := by
  have hfl : ∀ i, (parts.take i).flatten.length ≤ parts.flatten.length := fun i => by
    conv => rhs; rw [← List.take_append_drop i parts]
    rw [List.flatten_append, List.length_append]; omega
  have hfs : ∀ i (hi : i < parts.length), (parts.take (i + 1)).flatten = (parts.take i).flatten ++ parts[i] := fun i hi => by
    rw [List.take_succ_eq_append_getElem hi, List.flatten_append]; simp
  refine k141_of0 rfl noPure fun I => ?_
  refine Run2.of I 1000 ?_
  simp -implicitDefEqProofs
  refine Run2.loopE (fun (i : Nat) => [(0, .snap 1 (parts.map (.snap 1))), (3, .int .i64 ((parts.take i).flatten.length : Nat)), (9, .snap 1 (parts.map (.snap 1))), (10, .int .i64 parts.length), (11, .int .i64 i)]) (fun i => h) (fun i => parts.length - i) (fun i => i ≤ parts.length) 0 (by simp) rfl (Nat.zero_le _) fun i hi ih => ?_
  by_cases hlt : i < parts.length
  · have go := ih (i + 1) (by omega) (by omega)
    have h1 := hfl (i + 1)
    rw [hfs i hlt, List.length_append] at go h1
    clear ih
    generalize hL : (parts.take i).flatten.length = L at *
    generalize hP : parts[i] = p at *
    refine Run2.of I 1000 ?_
    simp -implicitDefEqProofs [hlt, hP]
    refine ⟨by omega, by omega, fun _ => ⟨by omega, ?_⟩⟩
    simpa using go
  · obtain rfl : i = parts.length := by omega
    rw [List.take_length]
    refine Run2.of I 1000 ?_
    simp -implicitDefEqProofs
    have hS : (parts.map List.length).sum ≤ 1048576 := by rw [← List.length_flatten]; exact ht
    refine (GrowI_g _ h hS).mono ?_
    rintro v h' ⟨hp0, g0, rfl⟩
    have hcell0 := g0.cell
    refine gK.go ?_
    simp -implicitDefEqProofs [hcell0]
    refine Run2.loopE (α := Nat × AV × Heap) (fun s => [(6, s.2.1), (25, .snap 1 (parts.map (.snap 1))), (26, .int .i64 parts.length), (27, .int .i64 (s.1 : Nat))]) (fun s => s.2.2 ++ h) (fun s => parts.length - s.1) (fun s => s.1 ≤ parts.length ∧ GrowX 1 s.2.1 (parts.take s.1).flatten s.2.2) (0, v, hp0) (by simp) rfl ⟨Nat.zero_le _, by simpa using g0⟩ ?_
    rintro ⟨i, w, hp⟩ ⟨hi2, hg⟩ ih2
    simp only at hi2 hg
    have hcell := hg.cell
    by_cases hlt : i < parts.length
    · have go := fun w' hp' (g : GrowX 1 w' ((parts.take i).flatten ++ parts[i]) hp') => ih2 (i + 1, w', hp') ⟨hlt, by simp only; rw [hfs i hlt]; exact g⟩ (by simp; omega)
      have h1 := hfl (i + 1)
      rw [hfs i hlt, List.length_append] at h1
      clear ih2
      generalize hP : parts[i] = p at *
      refine Run2.of I 1000 ?_
      simp -implicitDefEqProofs [hlt, hP, hcell]
      refine hg.app (by omega) fun w' hp' hg' => ?_
      have hcell' := hg'.cell
      simp -implicitDefEqProofs [hcell']
      refine ⟨by omega, ?_⟩
      simpa using go w' hp' hg'
    · obtain rfl : i = parts.length := by omega
      rw [List.take_length] at hg
      refine Run2.of I 1000 ?_
      simp -implicitDefEqProofs [hcell]
      exact hg
theorem flatten2 (a b : List AV) : [a, b].flatten = a ++ b := by simp
theorem ConcatI_f (a b : List Int) (h : Heap) (ha : a.length + b.length ≤ 1048576) : ACalls Try.prog 141 [.snap 1 [.snap 1 (a.map iv), .snap 1 (b.map iv)]] h (fun v h' => v = il (a ++ b) ∧ h' = h) := by
  have := ConcatI_g [a.map iv, b.map iv] h (by simp) (by simpa using ha)
  rw [flatten2] at this
  refine ACalls.post (ACalls.mono (by simpa using this) ?_)
  rintro v h' ⟨hp, g, rfl⟩
  refine Post.lend (.wk g.lent (.base ⟨?_, rfl⟩))
  simp
end Go.AG
