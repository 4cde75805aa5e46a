/- Small functions of graphs that have no effect, and what they give. No statement is made here. -/
import Derived.Test.YtpndpligcphonaaGrA
namespace Go.AG
open Go.Proofs Go.Proofs.Ytpndpligcphonaa
set_option linter.unusedSimpArgs false
set_option linter.unusedVariables false
set_option maxRecDepth 4000
abbrev k39_o0 : List AJ := [.o ⟨(some 6), none, false, .mv (.c (.bool false)), (some [0, 1, 2])⟩]
abbrev k39_o1 : List AJ := [.o ⟨(some 7), none, false, .mv (.t 0), none⟩, .o ⟨(some 8), none, false, .mv (.t 1), none⟩, .o ⟨(some 9), none, false, .bin .geq (.t 7) (.t 8), none⟩, .o ⟨(some 10), none, false, .mv (.t 9), none⟩, .o ⟨(some 11), (some (10, true)), false, .mv (.t 0), none⟩, .o ⟨(some 12), (some (10, true)), false, .mv (.t 2), none⟩, .o ⟨(some 13), (some (10, true)), false, .bin .leq (.t 11) (.t 12), none⟩, .o ⟨(some 14), none, false, .pick (.t 10) (.t 13) (.c (.bool false)), none⟩, .o ⟨(some 6), none, false, .mv (.t 14), (some [6])⟩]
def k39_2 : ACode := .seq (.region k39_o1) .ret
def k39_3 : ACode := .seq (.region k39_o0) k39_2
@[simp, simp ↓] theorem k39_2r : sR k39_2 k39_o1 .ret := yR rfl
@[simp, simp ↓] theorem k39_3r : sR k39_3 k39_o0 k39_2 := yR rfl
noncomputable abbrev k39_C : Orc → Cx := mkC Try.prog [] 39 15 [.tmp 6]
theorem k39_of0 : OfP0 Try.prog Try.f39 39 15 k39_C k39_3 := @ofP0 _ _ _ _ _ _ _ _ Try.func39 (by decide +kernel) rfl (by kernel_rfl) rfl (by kernel_rfl)
theorem l00In_c (a b c : Int) (h : Heap) : ACalls Try.prog 39 [.int .i64 a, .int .i64 b, .int .i64 c] h (fun v h' => v = .bool (decide (b ≤ a) && decide (a ≤ c)) ∧ h' = h) := by
  refine k39_of0 rfl noPure fun I => ?_
  refine Run2.of I 1000 ?_
  simp -implicitDefEqProofs
  grind
noncomputable def o_l00In : List AV → Option (Prop × AV) := tab (fun (x : Int × Int × Int) => match x with | (a, b, c) => [.int .i64 a, .int .i64 b, .int .i64 c]) (fun x => match x with | (a, b, c) => True) (fun x => match x with | (a, b, c) => .bool (decide (b ≤ a) && decide (a ≤ c)))
@[simp] theorem o_l00In_e (a : Int) (b : Int) (c : Int) : o_l00In [.int .i64 a, .int .i64 b, .int .i64 c] = some (True, .bool (decide (b ≤ a) && decide (a ≤ c))) := tab_at (enc := fun (x : Int × Int × Int) => match x with | (a, b, c) => [.int .i64 a, .int .i64 b, .int .i64 c]) (fun x y h => by
  obtain ⟨a1, b1, c1⟩ := x; obtain ⟨a2, b2, c2⟩ := y; simp at h; simp [h] <;> omega) _ _ (a, b, c)
theorem o_l00In_k : Knows Try.prog 39 o_l00In := tab_knows fun x hx h => by
  obtain ⟨a, b, c⟩ := x; exact l00In_c _ _ _ h
abbrev k32_o0 : List AJ := [.o ⟨(some 6), none, false, .mv (.c (.bool false)), (some [0, 1, 2])⟩]
abbrev k32_o1 : List AJ := [.o ⟨(some 7), none, false, .mv (.t 0), none⟩, .o ⟨(some 8), none, false, .mv (.t 1), none⟩, .o ⟨(some 9), none, false, .bin .geq (.t 7) (.t 8), none⟩, .o ⟨(some 10), none, false, .mv (.t 9), none⟩, .o ⟨(some 11), (some (10, true)), false, .mv (.t 0), none⟩, .o ⟨(some 12), (some (10, true)), false, .mv (.t 2), none⟩, .o ⟨(some 13), (some (10, true)), false, .bin .leq (.t 11) (.t 12), none⟩, .o ⟨(some 14), none, false, .pick (.t 10) (.t 13) (.c (.bool false)), none⟩, .o ⟨(some 6), none, false, .mv (.t 14), (some [6])⟩]
def k32_2 : ACode := .seq (.region k32_o1) .ret
def k32_3 : ACode := .seq (.region k32_o0) k32_2
@[simp, simp ↓] theorem k32_2r : sR k32_2 k32_o1 .ret := yR rfl
@[simp, simp ↓] theorem k32_3r : sR k32_3 k32_o0 k32_2 := yR rfl
noncomputable abbrev k32_C : Orc → Cx := mkC Try.prog [] 32 15 [.tmp 6]
theorem k32_of0 : OfP0 Try.prog Try.f32 32 15 k32_C k32_3 := @ofP0 _ _ _ _ _ _ _ _ Try.func32 (by decide +kernel) rfl (by kernel_rfl) rfl (by kernel_rfl)
theorem within_c (a b c : Int) (h : Heap) : ACalls Try.prog 32 [.int .i64 a, .int .i64 b, .int .i64 c] h (fun v h' => v = .bool (decide (b ≤ a) && decide (a ≤ c)) ∧ h' = h) := by
  refine k32_of0 rfl noPure fun I => ?_
  refine Run2.of I 1000 ?_
  simp -implicitDefEqProofs
  grind
noncomputable def o_within : List AV → Option (Prop × AV) := tab (fun (x : Int × Int × Int) => match x with | (a, b, c) => [.int .i64 a, .int .i64 b, .int .i64 c]) (fun x => match x with | (a, b, c) => True) (fun x => match x with | (a, b, c) => .bool (decide (b ≤ a) && decide (a ≤ c)))
@[simp] theorem o_within_e (a : Int) (b : Int) (c : Int) : o_within [.int .i64 a, .int .i64 b, .int .i64 c] = some (True, .bool (decide (b ≤ a) && decide (a ≤ c))) := tab_at (enc := fun (x : Int × Int × Int) => match x with | (a, b, c) => [.int .i64 a, .int .i64 b, .int .i64 c]) (fun x y h => by
  obtain ⟨a1, b1, c1⟩ := x; obtain ⟨a2, b2, c2⟩ := y; simp at h; simp [h] <;> omega) _ _ (a, b, c)
theorem o_within_k : Knows Try.prog 32 o_within := tab_knows fun x hx h => by
  obtain ⟨a, b, c⟩ := x; exact within_c _ _ _ h
abbrev k51_o0 : List AJ := [.o ⟨(some 2), none, false, .mv (.c (.bool false)), (some [0])⟩]
abbrev k51_o1 : List AJ := [.o ⟨(some 3), none, false, .mv (.t 0), none⟩, .o ⟨(some 4), none, false, .mv (.t 0), none⟩, .o ⟨(some 5), none, false, .bin .neq (.t 3) (.t 4), none⟩, .o ⟨(some 2), none, false, .mv (.t 5), (some [2])⟩]
def k51_2 : ACode := .seq (.region k51_o1) .ret
def k51_3 : ACode := .seq (.region k51_o0) k51_2
@[simp, simp ↓] theorem k51_2r : sR k51_2 k51_o1 .ret := yR rfl
@[simp, simp ↓] theorem k51_3r : sR k51_3 k51_o0 k51_2 := yR rfl
noncomputable abbrev k51_C : Orc → Cx := mkC Try.prog [] 51 6 [.tmp 2]
theorem k51_of0 : OfP0 Try.prog Try.f51 51 6 k51_C k51_3 := @ofP0 _ _ _ _ _ _ _ _ Try.func51 (by decide +kernel) rfl (by kernel_rfl) rfl (by kernel_rfl)
theorem isNaN_c (a : Int) (h : Heap) : ACalls Try.prog 51 [.int .i64 a] h (fun v h' => v = .bool false ∧ h' = h) := by
  refine k51_of0 rfl noPure fun I => ?_
  refine Run2.of I 1000 ?_
  simp -implicitDefEqProofs
noncomputable def o_isNaN : List AV → Option (Prop × AV) := tab (fun (x : Int) => match x with | a => [.int .i64 a]) (fun x => match x with | a => True) (fun x => match x with | a => .bool false)
@[simp] theorem o_isNaN_e (a : Int) : o_isNaN [.int .i64 a] = some (True, .bool false) := tab_at (enc := fun (x : Int) => match x with | a => [.int .i64 a]) (fun x y h => by
  simp at h; simp [h] <;> omega) _ _ a
theorem o_isNaN_k : Knows Try.prog 51 o_isNaN := tab_knows fun x hx h => by
  exact isNaN_c _ h
noncomputable def orc1 : List (Nat × (List AV → Option (Prop × AV))) := (39, o_l00In) :: (32, o_within) :: (51, o_isNaN) :: []
theorem orc1_p : Pure Try.prog (lk orc1) := (lk_pure o_l00In_k (lk_pure o_within_k (lk_pure o_isNaN_k lk_pure0)))
@[simp] theorem orc1_l (b : Bool) (g : FuncId) (l : List AV) : lk orc1 b g l = if g = 39 then o_l00In l else if g = 32 then o_within l else if g = 51 then o_isNaN l else none := nr rfl
def cmpI (a b : Int) : Int := if a < b then -1 else if b < a then 1 else 0
abbrev k54_o0 : List AJ := [.o ⟨(some 4), none, false, .mv (.c (.int .i64 0)), (some [0, 1])⟩]
abbrev k54_o1 : List AJ := [.o ⟨(some 7), none, false, .mv (.t 0), none⟩, .o ⟨(some 8), none, false, .call 51 [(.t 7)], none⟩, .o ⟨(some 5), none, false, .mv (.t 8), (some [0, 1, 5])⟩]
abbrev k54_o2 : List AJ := [.o ⟨(some 9), none, false, .mv (.t 1), none⟩, .o ⟨(some 10), none, false, .call 51 [(.t 9)], none⟩, .o ⟨(some 6), none, false, .mv (.t 10), (some [0, 1, 5, 6])⟩]
abbrev k54_o3 : List AJ := [.o ⟨(some 11), none, false, .mv (.t 5), (some [0, 1, 6, 11])⟩]
abbrev k54_o4 : List AJ := [.o ⟨(some 12), none, false, .mv (.t 6), (some [12])⟩]
abbrev k54_o5 : List AJ := [.o ⟨(some 4), none, false, .mv (.c (.int .i64 0)), (some [4])⟩]
def k54_6 : ACode := .seq (.region k54_o5) .ret
def k54_7 : ACode := .cond (.t 12) k54_6 .skip
def k54_8 : ACode := .seq (.region k54_o4) k54_7
abbrev k54_o6 : List AJ := [.o ⟨(some 4), none, false, .mv (.c (.int .i64 (-1))), (some [4])⟩]
def k54_10 : ACode := .seq (.region k54_o6) .ret
def k54_11 : ACode := .seq k54_8 k54_10
def k54_12 : ACode := .cond (.t 11) k54_11 .skip
def k54_13 : ACode := .seq (.region k54_o3) k54_12
abbrev k54_o7 : List AJ := [.o ⟨(some 13), none, false, .mv (.t 6), (some [0, 1, 13])⟩]
abbrev k54_o8 : List AJ := [.o ⟨(some 4), none, false, .mv (.c (.int .i64 1)), (some [4])⟩]
def k54_16 : ACode := .seq (.region k54_o8) .ret
def k54_17 : ACode := .cond (.t 13) k54_16 .skip
def k54_18 : ACode := .seq (.region k54_o7) k54_17
abbrev k54_o9 : List AJ := [.o ⟨(some 14), none, false, .mv (.t 0), none⟩, .o ⟨(some 15), none, false, .mv (.t 1), none⟩, .o ⟨(some 16), none, false, .bin .lss (.t 14) (.t 15), (some [0, 1, 16])⟩]
abbrev k54_o10 : List AJ := [.o ⟨(some 4), none, false, .mv (.c (.int .i64 (-1))), (some [4])⟩]
def k54_21 : ACode := .seq (.region k54_o10) .ret
def k54_22 : ACode := .cond (.t 16) k54_21 .skip
def k54_23 : ACode := .seq (.region k54_o9) k54_22
abbrev k54_o11 : List AJ := [.o ⟨(some 17), none, false, .mv (.t 0), none⟩, .o ⟨(some 18), none, false, .mv (.t 1), none⟩, .o ⟨(some 19), none, false, .bin .gtr (.t 17) (.t 18), (some [19])⟩]
abbrev k54_o12 : List AJ := [.o ⟨(some 4), none, false, .mv (.c (.int .i64 1)), (some [4])⟩]
def k54_26 : ACode := .seq (.region k54_o12) .ret
def k54_27 : ACode := .cond (.t 19) k54_26 .skip
def k54_28 : ACode := .seq (.region k54_o11) k54_27
abbrev k54_o13 : List AJ := [.o ⟨(some 4), none, false, .mv (.c (.int .i64 0)), (some [4])⟩]
def k54_30 : ACode := .seq (.region k54_o13) .ret
def k54_31 : ACode := .seq k54_28 k54_30
def k54_32 : ACode := .seq k54_23 k54_31
def k54_33 : ACode := .seq k54_18 k54_32
def k54_34 : ACode := .seq k54_13 k54_33
def k54_35 : ACode := .seq (.region k54_o2) k54_34
def k54_36 : ACode := .seq (.region k54_o1) k54_35
def k54_37 : ACode := .seq (.region k54_o0) k54_36
@[simp, simp ↓] theorem k54_6r : sR k54_6 k54_o5 .ret := yR rfl
@[simp, simp ↓] theorem k54_7r : rC k54_7 (.t 12) k54_6 .skip := zC rfl
@[simp, simp ↓] theorem k54_8r : sR k54_8 k54_o4 k54_7 := yR rfl
@[simp, simp ↓] theorem k54_10r : sR k54_10 k54_o6 .ret := yR rfl
@[simp, simp ↓] theorem k54_11r : rS k54_11 k54_8 k54_10 := zS rfl
@[simp, simp ↓] theorem k54_12r : rC k54_12 (.t 11) k54_11 .skip := zC rfl
@[simp, simp ↓] theorem k54_13r : sR k54_13 k54_o3 k54_12 := yR rfl
@[simp, simp ↓] theorem k54_16r : sR k54_16 k54_o8 .ret := yR rfl
@[simp, simp ↓] theorem k54_17r : rC k54_17 (.t 13) k54_16 .skip := zC rfl
@[simp, simp ↓] theorem k54_18r : sR k54_18 k54_o7 k54_17 := yR rfl
@[simp, simp ↓] theorem k54_21r : sR k54_21 k54_o10 .ret := yR rfl
@[simp, simp ↓] theorem k54_22r : rC k54_22 (.t 16) k54_21 .skip := zC rfl
@[simp, simp ↓] theorem k54_23r : sR k54_23 k54_o9 k54_22 := yR rfl
@[simp, simp ↓] theorem k54_26r : sR k54_26 k54_o12 .ret := yR rfl
@[simp, simp ↓] theorem k54_27r : rC k54_27 (.t 19) k54_26 .skip := zC rfl
@[simp, simp ↓] theorem k54_28r : sR k54_28 k54_o11 k54_27 := yR rfl
@[simp, simp ↓] theorem k54_30r : sR k54_30 k54_o13 .ret := yR rfl
@[simp, simp ↓] theorem k54_31r : rS k54_31 k54_28 k54_30 := zS rfl
@[simp, simp ↓] theorem k54_32r : rS k54_32 k54_23 k54_31 := zS rfl
@[simp, simp ↓] theorem k54_33r : rS k54_33 k54_18 k54_32 := zS rfl
@[simp, simp ↓] theorem k54_34r : rS k54_34 k54_13 k54_33 := zS rfl
@[simp, simp ↓] theorem k54_35r : sR k54_35 k54_o2 k54_34 := yR rfl
@[simp, simp ↓] theorem k54_36r : sR k54_36 k54_o1 k54_35 := yR rfl
@[simp, simp ↓] theorem k54_37r : sR k54_37 k54_o0 k54_36 := yR rfl
noncomputable abbrev k54_C : Orc → Cx := mkC Try.prog [] 54 20 [.tmp 4]
theorem k54_of0 : OfP0 Try.prog Try.f54 54 20 k54_C k54_37 := @ofP0 _ _ _ _ _ _ _ _ Try.func54 (by decide +kernel) rfl (by kernel_rfl) rfl (by kernel_rfl)
theorem compare_c (a b : Int) (h : Heap) : ACalls Try.prog 54 [.int .i64 a, .int .i64 b] h (fun v h' => v = .int .i64 (cmpI a b) ∧ h' = h) := by
  refine k54_of0 rfl orc1_p fun I => ?_
  refine Run2.of I 1000 ?_
  simp -implicitDefEqProofs [cmpI]
  grind
noncomputable def o_compare : List AV → Option (Prop × AV) := tab (fun (x : Int × Int) => match x with | (a, b) => [.int .i64 a, .int .i64 b]) (fun x => match x with | (a, b) => True) (fun x => match x with | (a, b) => .int .i64 (cmpI a b))
@[simp] theorem o_compare_e (a : Int) (b : Int) : o_compare [.int .i64 a, .int .i64 b] = some (True, .int .i64 (cmpI a b)) := tab_at (enc := fun (x : Int × Int) => match x with | (a, b) => [.int .i64 a, .int .i64 b]) (fun x y h => by
  obtain ⟨a1, b1⟩ := x; obtain ⟨a2, b2⟩ := y; simp at h; simp [h] <;> omega) _ _ (a, b)
theorem o_compare_k : Knows Try.prog 54 o_compare := tab_knows fun x hx h => by
  obtain ⟨a, b⟩ := x; exact compare_c _ _ h
def orI : List Int → Int
  | [] => 0
  | x :: xs => if x = 0 then orI xs else x
abbrev k53_o0 : List AJ := [.o ⟨(some 2), none, false, .mv (.c (.int .i64 0)), (some [0])⟩]
abbrev k53_o1 : List AJ := [.o ⟨(some 3), none, false, .mv (.c (.int .i64 0)), (some [0, 3])⟩]
abbrev k53_o2 : List AJ := [.o ⟨(some 6), none, false, .mv (.t 0), none⟩, .o ⟨(some 7), none, false, .len (.t 6), none⟩, .o ⟨(some 8), none, false, .mv (.c (.int .i64 0)), (some [3, 6, 7, 8])⟩]
abbrev k53_o3 : List AJ := [.o ⟨(some 9), none, false, .bin .lss (.t 8) (.t 7), (some [3, 6, 7, 8, 9])⟩]
abbrev k53_o4 : List AJ := [.o ⟨(some 10), none, false, .idxA 1 (.t 6) (.t 8), none⟩, .o ⟨(some 11), none, false, .load 1 false (.t 10), none⟩, .o ⟨(some 5), none, false, .mv (.t 11), (some [3, 5, 6, 7, 8])⟩]
abbrev k53_o5 : List AJ := [.o ⟨(some 12), none, false, .mv (.t 5), none⟩, .o ⟨(some 13), none, false, .mv (.t 3), none⟩, .o ⟨(some 14), none, false, .bin .neq (.t 12) (.t 13), (some [3, 5, 6, 7, 8, 14])⟩]
abbrev k53_o6 : List AJ := [.o ⟨(some 15), none, false, .mv (.t 5), none⟩, .o ⟨(some 2), none, false, .mv (.t 15), (some [2])⟩]
def k53_8 : ACode := .seq (.region k53_o6) .ret
def k53_9 : ACode := .cond (.t 14) k53_8 .skip
def k53_10 : ACode := .seq (.region k53_o5) k53_9
def k53_11 : ACode := .seq (.region k53_o4) k53_10
abbrev k53_o7 : List AJ := [.o ⟨(some 16), none, true, .bin .add (.t 8) (.c (.int .i64 1)), none⟩, .o ⟨(some 8), none, false, .mv (.t 16), (some [3, 6, 7, 8])⟩]
def k53_13 : ACode := .region k53_o7
def k53_14 : ACode := .seq (.block 1 k53_11) k53_13
def k53_15 : ACode := .seq (.cond (.t 9) .skip (.exit 0)) k53_14
def k53_16 : ACode := .seq (.region k53_o3) k53_15
def k53_17 : ACode := .loop k53_16
def k53_18 : ACode := .block 0 k53_17
def k53_19 : ACode := .seq (.region k53_o2) k53_18
abbrev k53_o8 : List AJ := [.o ⟨(some 17), none, false, .mv (.t 3), none⟩, .o ⟨(some 2), none, false, .mv (.t 17), (some [2])⟩]
def k53_21 : ACode := .seq (.region k53_o8) .ret
def k53_22 : ACode := .seq k53_19 k53_21
def k53_23 : ACode := .seq (.region k53_o1) k53_22
def k53_24 : ACode := .seq (.region k53_o0) k53_23
@[simp, simp ↓] theorem k53_8r : sR k53_8 k53_o6 .ret := yR rfl
@[simp, simp ↓] theorem k53_9r : rC k53_9 (.t 14) k53_8 .skip := zC rfl
@[simp, simp ↓] theorem k53_10r : sR k53_10 k53_o5 k53_9 := yR rfl
@[simp, simp ↓] theorem k53_11r : sR k53_11 k53_o4 k53_10 := yR rfl
@[simp, simp ↓] theorem k53_13r : rR k53_13 k53_o7 := zR rfl
@[simp, simp ↓] theorem k53_14r : sB k53_14 1 k53_11 k53_13 := yB rfl
@[simp, simp ↓] theorem k53_15r : sC k53_15 (.t 9) .skip (.exit 0) k53_14 := yC rfl
@[simp, simp ↓] theorem k53_16r : sR k53_16 k53_o3 k53_15 := yR rfl
@[simp, simp ↓] theorem k53_17r : rL k53_17 k53_16 := zL rfl
@[simp, simp ↓] theorem k53_18r : rB k53_18 0 k53_17 := zB rfl
@[simp, simp ↓] theorem k53_19r : sR k53_19 k53_o2 k53_18 := yR rfl
@[simp, simp ↓] theorem k53_21r : sR k53_21 k53_o8 .ret := yR rfl
@[simp, simp ↓] theorem k53_22r : rS k53_22 k53_19 k53_21 := zS rfl
@[simp, simp ↓] theorem k53_23r : sR k53_23 k53_o1 k53_22 := yR rfl
@[simp, simp ↓] theorem k53_24r : sR k53_24 k53_o0 k53_23 := yR rfl
noncomputable abbrev k53_C : Orc → Cx := mkC Try.prog [] 53 18 [.tmp 2]
theorem k53_of0 : OfP0 Try.prog Try.f53 53 18 k53_C k53_24 := @ofP0 _ _ _ _ _ _ _ _ Try.func53 (by decide +kernel) rfl (by kernel_rfl) rfl (by kernel_rfl)
theorem or_c (l : List Int) (h : Heap) (hl : l.length ≤ 1048576) : ACalls Try.prog 53 [.snap 1 (l.map fun n => .int .i64 n)] h (fun v h' => v = .int .i64 (orI l) ∧ h' = h) := by
  refine k53_of0 rfl noPure fun I => ?_
  refine Run2.of I 1000 ?_
  simp -implicitDefEqProofs
  refine Run2.loop (fun i => [(3, .int .i64 0), (6, .snap 1 (l.map fun n => .int .i64 n)), (7, .int .i64 l.length), (8, .int .i64 (i : Nat))]) (fun i => h) (fun i => l.length - i) (fun i => i ≤ l.length ∧ orI (l.drop i) = orI l) 0 (by simp) fun i hi ih => ?_
  by_cases hlt : i < l.length
  · have hd : l.drop i = l[i] :: l.drop (i + 1) := List.drop_eq_getElem_cons hlt
    refine Run2.of I 1000 ?_
    simp -implicitDefEqProofs [hlt]
    constructor
    · intro hne
      rw [← hi.2, hd, orI, if_neg hne]
    · intro he
      refine ⟨by omega, ?_⟩
      have := ih (i + 1) ⟨by omega, by rw [← hi.2, hd, orI, if_pos he]⟩ (by omega)
      simpa using this
  · have : i = l.length := by omega
    have h2 := hi.2
    rw [List.drop_of_length_le (by omega)] at h2
    refine Run2.of I 1000 ?_
    simp -implicitDefEqProofs [hlt]
    exact h2
noncomputable def o_or2 : List AV → Option (Prop × AV) := tab (fun (x : Int × Int) => match x with | (a, b) => [.snap 1 [.int .i64 a, .int .i64 b]]) (fun x => match x with | (a, b) => True) (fun x => match x with | (a, b) => .int .i64 (orI [a, b]))
@[simp] theorem o_or2_e (a : Int) (b : Int) : o_or2 [.snap 1 [.int .i64 a, .int .i64 b]] = some (True, .int .i64 (orI [a, b])) := tab_at (enc := fun (x : Int × Int) => match x with | (a, b) => [.snap 1 [.int .i64 a, .int .i64 b]]) (fun x y h => by
  obtain ⟨a1, b1⟩ := x; obtain ⟨a2, b2⟩ := y; simp at h; simp [h] <;> omega) _ _ (a, b)
theorem o_or2_k : Knows Try.prog 53 o_or2 := tab_knows fun x hx h => by
  obtain ⟨a, b⟩ := x; exact or_c [a, b] h (by simp)
noncomputable def orc2 : List (Nat × (List AV → Option (Prop × AV))) := (54, o_compare) :: (53, o_or2) :: orc1
theorem orc2_p : Pure Try.prog (lk orc2) := (lk_pure o_compare_k (lk_pure o_or2_k orc1_p))
@[simp] theorem orc2_l (b : Bool) (g : FuncId) (l : List AV) : lk orc2 b g l = if g = 54 then o_compare l else if g = 53 then o_or2 l else lk orc1 b g l := nr rfl
theorem orI2 (a b c d : Int) : (0 ≤ orI [cmpI a b, cmpI c d]) ↔ ¬ (a < b ∨ a = b ∧ c < d) := by
  simp only [orI, cmpI]
  grind
theorem orI2' (a b c d : Int) : (orI [cmpI a b, cmpI c d] < 0) ↔ (a < b ∨ a = b ∧ c < d) := by
  simp only [orI, cmpI]
  grind
def T.lt (a b : T) : Prop := a.f < b.f ∨ a.f = b.f ∧ a.t < b.t
instance (a b : T) : Decidable (a.lt b) := by unfold T.lt; infer_instance
abbrev k41_o0 : List AJ := [.o ⟨(some 2), none, false, .box false 3 (.t 0), none⟩, .o ⟨(some 3), none, false, .box false 3 (.t 1), none⟩, .o ⟨(some 4), none, false, .mv (.c (.int .i64 0)), (some [2, 3])⟩]
abbrev k41_o1 : List AI := [⟨(some 5), none, false, .fieldA 0 (.t 2), none⟩, ⟨(some 6), none, false, .load 1 false (.t 5), none⟩, ⟨(some 7), none, false, .fieldA 0 (.t 3), none⟩, ⟨(some 8), none, false, .load 1 false (.t 7), none⟩, ⟨(some 9), none, false, .call 54 [(.t 6), (.t 8)], none⟩, ⟨(some 10), none, false, .fieldA 1 (.t 2), none⟩, ⟨(some 11), none, false, .load 1 false (.t 10), none⟩, ⟨(some 12), none, false, .fieldA 1 (.t 3), none⟩, ⟨(some 13), none, false, .load 1 false (.t 12), none⟩, ⟨(some 14), none, false, .call 54 [(.t 11), (.t 13)], none⟩, ⟨(some 15), none, false, .bsl false 1 [(.t 9), (.t 14)], none⟩, ⟨(some 16), none, false, .call 53 [(.t 15)], none⟩, ⟨(some 4), none, false, .mv (.t 16), (some [4])⟩]
def k41_2 : ACode := .seq (.draw k41_o1 [] rfl) .ret
def k41_3 : ACode := .seq (.region k41_o0) k41_2
@[simp, simp ↓] theorem k41_2r : sD k41_2 k41_o1 [] .ret := yD rfl
@[simp, simp ↓] theorem k41_3r : sR k41_3 k41_o0 k41_2 := yR rfl
noncomputable abbrev k41_C : Orc → Cx := mkC Try.prog [] 41 17 [.tmp 4]
theorem k41_of0 : OfP0 Try.prog Try.f41 41 17 k41_C k41_3 := @ofP0 _ _ _ _ _ _ _ _ Try.func41 (by decide +kernel) rfl (by kernel_rfl) rfl (by kernel_rfl)
theorem compareEdges_c (x y : T) (h : Heap) : ACalls Try.prog 41 [x.av, y.av] h (fun v h' => v = .int .i64 (orI [cmpI x.f y.f, cmpI x.t y.t]) ∧ h' = h) := by
  refine k41_of0 rfl orc2_p fun I => ?_
  refine Run2.of I 1000 ?_
  simp -implicitDefEqProofs
noncomputable def o_compareEdges : List AV → Option (Prop × AV) := tab (fun (x : Int × Int × Int × Int × Int × Int) => match x with | (f, t, s, f', t', s') => [.agg [.int .i64 f, .int .i64 t, .int .i64 s], .agg [.int .i64 f', .int .i64 t', .int .i64 s']]) (fun x => match x with | (f, t, s, f', t', s') => True) (fun x => match x with | (f, t, s, f', t', s') => .int .i64 (orI [cmpI f f', cmpI t t']))
@[simp] theorem o_compareEdges_e (f : Int) (t : Int) (s : Int) (f' : Int) (t' : Int) (s' : Int) : o_compareEdges [.agg [.int .i64 f, .int .i64 t, .int .i64 s], .agg [.int .i64 f', .int .i64 t', .int .i64 s']] = some (True, .int .i64 (orI [cmpI f f', cmpI t t'])) := tab_at (enc := fun (x : Int × Int × Int × Int × Int × Int) => match x with | (f, t, s, f', t', s') => [.agg [.int .i64 f, .int .i64 t, .int .i64 s], .agg [.int .i64 f', .int .i64 t', .int .i64 s']]) (fun x y h => by
  obtain ⟨f1, t1, s1, f'1, t'1, s'1⟩ := x; obtain ⟨f2, t2, s2, f'2, t'2, s'2⟩ := y; simp at h; simp [h] <;> omega) _ _ (f, t, s, f', t', s')
theorem o_compareEdges_k : Knows Try.prog 41 o_compareEdges := tab_knows fun x hx h => by
  obtain ⟨f, t, s, f', t', s'⟩ := x; exact compareEdges_c ⟨f, t, s⟩ ⟨f', t', s'⟩ h
noncomputable def orc3 : List (Nat × (List AV → Option (Prop × AV))) := (41, o_compareEdges) :: orc2
theorem orc3_p : Pure Try.prog (lk orc3) := (lk_pure o_compareEdges_k orc2_p)
@[simp] theorem orc3_l (b : Bool) (g : FuncId) (l : List AV) : lk orc3 b g l = if g = 41 then o_compareEdges l else lk orc2 b g l := nr rfl
end Go.AG
