/- What a complex is: the program's function and the reference's. No statement is made here. -/
import Derived.Test.YtebkdegjiollbaaFxC
namespace Go.AG
open Go.Proofs Go.Proofs.Ytebkdegjiollbaa
set_option linter.unusedSimpArgs false
set_option linter.unusedVariables false
set_option maxRecDepth 4000
abbrev k137_o0 : List AJ := [.o ⟨(some 2), none, false, .mv (.c (.bool false)), (some [0])⟩]
abbrev k137_o1 : List AJ := [.o ⟨(some 3), none, false, .mv (.t 0), none⟩, .o ⟨(some 4), none, false, .call 91 [(.t 3), (.c (.int .i64 0)), (.c (.int .i64 9))], none⟩, .o ⟨(some 2), none, false, .mv (.t 4), (some [2])⟩]
def k137_2 : ACode := .seq (.region k137_o1) .ret
def k137_3 : ACode := .seq (.region k137_o0) k137_2
@[simp, simp ↓] theorem k137_2r : sR k137_2 k137_o1 .ret := yR rfl
@[simp, simp ↓] theorem k137_3r : sR k137_3 k137_o0 k137_2 := yR rfl
noncomputable abbrev k137_C : Orc → Cx := mkC Try.prog [] 137 5 [.tmp 2]
theorem k137_of0 : OfP0 Try.prog Try.f137 137 5 k137_C k137_3 := @ofP0 _ _ _ _ _ _ _ _ Try.func137 (by decide +kernel) rfl (by kernel_rfl) rfl (by kernel_rfl)
theorem isVertex_c (a : Int) (h : Heap) : ACalls Try.prog 137 [.int .i64 a] h (fun v h' => v = .bool (decide (0 ≤ a) && decide (a ≤ 9)) ∧ h' = h) := by
  refine k137_of0 rfl orc1_p fun I => ?_
  refine Run2.of I 1000 ?_
  simp -implicitDefEqProofs
noncomputable def o_isVertex : List AV → Option (Prop × AV) := tab (fun (x : Int) => match x with | a => [.int .i64 a]) (fun x => match x with | a => True) (fun x => match x with | a => .bool (decide (0 ≤ a) && decide (a ≤ 9)))
@[simp] theorem o_isVertex_e (a : Int) : o_isVertex [.int .i64 a] = some (True, .bool (decide (0 ≤ a) && decide (a ≤ 9))) := tab_at (enc := fun (x : Int) => match x with | a => [.int .i64 a]) (fun x y h => by
  simp at h; simp [h] <;> omega) _ _ a
theorem o_isVertex_k : Knows Try.prog 137 o_isVertex := tab_knows fun x hx h => by
  exact isVertex_c _ h
noncomputable def orcV : List (Nat × (List AV → Option (Prop × AV))) := (137, o_isVertex) :: (135, o_isRising) :: []
theorem orcV_p : Pure Try.prog (lk orcV) := (lk_pure o_isVertex_k (lk_pure o_isRising_k lk_pure0))
@[simp] theorem orcV_l (b : Bool) (g : FuncId) (l : List AV) : lk orcV b g l = if g = 137 then o_isVertex l else if g = 135 then o_isRising l else none := nr rfl
abbrev k136_o0 : List AJ := [.o ⟨(some 2), none, false, .mv (.c (.bool false)), (some [0])⟩]
abbrev k136_o1 : List AJ := [.o ⟨(some 3), none, false, .mv (.t 0), none⟩, .o ⟨(some 4), none, false, .call 137 [(.t 3)], none⟩, .o ⟨(some 5), none, false, .un .not (.t 4), none⟩, .o ⟨(some 2), none, false, .mv (.t 5), (some [2])⟩]
def k136_2 : ACode := .seq (.region k136_o1) .ret
def k136_3 : ACode := .seq (.region k136_o0) k136_2
@[simp, simp ↓] theorem k136_2r : sR k136_2 k136_o1 .ret := yR rfl
@[simp, simp ↓] theorem k136_3r : sR k136_3 k136_o0 k136_2 := yR rfl
noncomputable abbrev k136_C : Orc → Cx := mkC Try.prog [] 136 6 [.tmp 2]
theorem k136_of0 : OfP0 Try.prog Try.f136 136 6 k136_C k136_3 := @ofP0 _ _ _ _ _ _ _ _ Try.func136 (by decide +kernel) rfl (by kernel_rfl) rfl (by kernel_rfl)
theorem VS1_c (a : Int) (h : Heap) : ACalls Try.prog 136 [.int .i64 a] h (fun v h' => v = .bool (!(decide (0 ≤ a) && decide (a ≤ 9))) ∧ h' = h) := by
  refine k136_of0 rfl orcV_p fun I => ?_
  refine Run2.of I 1000 ?_
  simp -implicitDefEqProofs
abbrev k103_o0 : List AJ := [.o ⟨(some 2), none, false, .mv (.c (.bool false)), (some [0])⟩]
abbrev k103_o1 : List AJ := [.o ⟨(some 3), none, false, .mv (.t 0), none⟩, .o ⟨(some 4), none, false, .len (.t 3), none⟩, .o ⟨(some 5), none, false, .bin .geq (.t 4) (.c (.int .i64 1)), none⟩, .o ⟨(some 6), none, false, .mv (.t 5), none⟩, .o ⟨(some 7), (some (6, true)), false, .mv (.t 0), none⟩, .o ⟨(some 8), (some (6, true)), false, .len (.t 7), none⟩, .o ⟨(some 9), (some (6, true)), false, .bin .leq (.t 8) (.c (.int .i64 4)), none⟩, .o ⟨(some 10), none, false, .pick (.t 6) (.t 9) (.c (.bool false)), none⟩, .o ⟨(some 11), none, false, .mv (.t 10), none⟩, .o ⟨(some 12), (some (11, true)), false, .mv (.t 0), (some [0, 11, 12])⟩, .o ⟨(some 13), (some (11, true)), false, .call 135 [(.t 12)], none⟩, .o ⟨(some 14), none, false, .pick (.t 11) (.t 13) (.c (.bool false)), none⟩, .o ⟨(some 15), none, false, .mv (.t 14), none⟩, .o ⟨(some 16), (some (15, true)), false, .mv (.t 0), none⟩, .o ⟨(some 17), (some (15, true)), false, .call 130 [(.t 16), (.c (.fn 136 []))], none⟩, .o ⟨(some 18), (some (15, true)), false, .un .not (.t 17), none⟩, .o ⟨(some 19), none, false, .pick (.t 15) (.t 18) (.c (.bool false)), none⟩, .o ⟨(some 2), none, false, .mv (.t 19), (some [2])⟩]
def k103_2 : ACode := .seq (.region k103_o1) .ret
def k103_3 : ACode := .seq (.region k103_o0) k103_2
@[simp, simp ↓] theorem k103_2r : sR k103_2 k103_o1 .ret := yR rfl
@[simp, simp ↓] theorem k103_3r : sR k103_3 k103_o0 k103_2 := yR rfl
noncomputable abbrev k103_C : Orc → Cx := mkC Try.prog [] 103 20 [.tmp 2]
theorem k103_of0 : OfP0 Try.prog Try.f103 103 20 k103_C k103_3 := @ofP0 _ _ _ _ _ _ _ _ Try.func103 (by decide +kernel) rfl (by kernel_rfl) rfl (by kernel_rfl)
theorem validSm_s (s : List Int) (h : Heap) (hl : s.length ≤ 1048576) : ACalls Try.prog 103 [.snap 1 (s.map iv)] h (fun v h' => v = .bool (decide (smOk s)) ∧ h' = h) := by
  refine k103_of0 rfl orcV_p fun I => ?_
  have hc := ContainsFunc_s s 136 [] (fun a => !(decide (0 ≤ a) && decide (a ≤ 9))) h hl fun a ha => VS1_c a h
  have hany : (s.any fun a => !(decide (0 ≤ a) && decide (a ≤ 9))) = !decide (∀ v ∈ s, 0 ≤ v ∧ v ≤ 9) := by
    rw [Bool.eq_iff_iff]; simp
    constructor
    · rintro ⟨a, h1, h2⟩; exact ⟨a, h1, by omega⟩
    · rintro ⟨a, h1, h2⟩; exact ⟨a, h1, by omega⟩
  rw [hany] at hc
  by_cases h1 : 1 ≤ s.length
  · by_cases h2 : s.length ≤ 4
    · have h1' : (1 : Int) ≤ s.length := by omega
      have h2' : (s.length : Int) ≤ 4 := by omega
      by_cases h3 : riseS s
      · have e : smOk s ↔ ∀ v ∈ s, 0 ≤ v ∧ v ≤ 9 := by unfold smOk; simp [h1, h2, h3]
        refine Run2.of I 1000 ?_
        simp -implicitDefEqProofs [hl, h1', h2', h3]
        refine hc.mono ?_
        rintro v h' ⟨rfl, rfl⟩
        refine gK.go ?_
        simp -implicitDefEqProofs [e]
      · have e : ¬ smOk s := fun h => h3 h.2.1
        refine Run2.of I 1000 ?_
        simp -implicitDefEqProofs [hl, h1', h2', h3, e]
    · have h1' : (1 : Int) ≤ s.length := by omega
      have h2' : ¬ (s.length : Int) ≤ 4 := by omega
      have e : ¬ smOk s := fun h => h2 h.1.2
      refine Run2.of I 1000 ?_
      simp -implicitDefEqProofs [hl, h1', h2', e]
  · have h1' : ¬ (1 : Int) ≤ s.length := by omega
    have e : ¬ smOk s := fun h => h1 h.1.1
    refine Run2.of I 1000 ?_
    simp -implicitDefEqProofs [hl, h1', e]
noncomputable def o_validSm : List AV → Option (Prop × AV) := tab (fun (x : List Int) => match x with | s => [.snap 1 (s.map iv)]) (fun x => match x with | s => s.length ≤ 1048576) (fun x => match x with | s => .bool (decide (smOk s)))
@[simp] theorem o_validSm_e (s : List Int) : o_validSm [.snap 1 (s.map iv)] = some (s.length ≤ 1048576, .bool (decide (smOk s))) := tab_at (enc := fun (x : List Int) => match x with | s => [.snap 1 (s.map iv)]) (fun x y h => by
  simp at h; simp [h] <;> omega) _ _ s
theorem o_validSm_k : Knows Try.prog 103 o_validSm := tab_knows fun x hx h => by
  exact validSm_s x h hx
noncomputable def o_facesOf : List AV → Option (Prop × AV) := tab (fun (x : List Int) => match x with | s => [.snap 1 (s.map iv)]) (fun x => match x with | s => s.length ≤ 1048576) (fun x => match x with | s => .snap 1 ((faces s).map il))
@[simp] theorem o_facesOf_e (s : List Int) : o_facesOf [.snap 1 (s.map iv)] = some (s.length ≤ 1048576, .snap 1 ((faces s).map il)) := tab_at (enc := fun (x : List Int) => match x with | s => [.snap 1 (s.map iv)]) (fun x y h => by
  simp at h; simp [h] <;> omega) _ _ s
theorem o_facesOf_k : Knows Try.prog 106 o_facesOf := tab_knows fun x hx h => by
  exact facesOf_s x h hx
noncomputable def orcD : List (Nat × (List AV → Option (Prop × AV))) := (103, o_validSm) :: (106, o_facesOf) :: (104, o_cmpS) :: (108, o_indexOf) :: []
theorem orcD_p : Pure Try.prog (lk orcD) := (lk_pure o_validSm_k (lk_pure o_facesOf_k (lk_pure o_cmpS_k (lk_pure o_indexOf_k lk_pure0))))
@[simp] theorem orcD_l (b : Bool) (g : FuncId) (l : List AV) : lk orcD b g l = if g = 103 then o_validSm l else if g = 106 then o_facesOf l else if g = 104 then o_cmpS l else if g = 108 then o_indexOf l else none := nr rfl
theorem ssTot_take (rs : List (List Int)) (k : Nat) : ssTot (rs.take k) ≤ ssTot rs := by
  have := sumL_le rs k
  unfold ssTot
  simp
  omega
abbrev k107_o0 : List AJ := [.o ⟨(some 4), none, false, .mv (.c (.bool false)), (some [0, 1, 2])⟩]
abbrev k107_o1 : List AJ := [.o ⟨(some 5), none, false, .fieldA 0 (.t 1), none⟩, .o ⟨(some 6), none, false, .load 1 false (.t 5), none⟩, .o ⟨(some 7), none, false, .load 1 false (.t 2), none⟩, .o ⟨(some 8), none, false, .slice 1 (.t 6) none (some (.t 7)) none, none⟩, .o ⟨(some 9), none, false, .build [.nilsl] [(0, 1, (.t 8))], none⟩, .o ⟨(some 10), none, false, .mv (.t 0), none⟩, .o ⟨(some 11), none, false, .call 108 [(.t 9), (.t 10)], none⟩, .o ⟨(some 12), none, false, .bin .lss (.t 11) (.c (.int .i64 0)), none⟩, .o ⟨(some 4), none, false, .mv (.t 12), (some [4])⟩]
def k107_2 : ACode := .seq (.region k107_o1) .ret
def k107_3 : ACode := .seq (.region k107_o0) k107_2
@[simp, simp ↓] theorem k107_2r : sR k107_2 k107_o1 .ret := yR rfl
@[simp, simp ↓] theorem k107_3r : sR k107_3 k107_o0 k107_2 := yR rfl
noncomputable abbrev k107_C : Orc → Cx := mkC Try.prog [] 107 13 [.tmp 4]
theorem k107_of0 : OfP0 Try.prog Try.f107 107 13 k107_C k107_3 := @ofP0 _ _ _ _ _ _ _ _ Try.func107 (by decide +kernel) rfl (by kernel_rfl) rfl (by kernel_rfl)
theorem VC1_c (f : List Int) (rs : List (List Int)) (k : Nat) (h : Heap) (hl : ssTot rs ≤ 1048576) (hk : k ≤ rs.length) (hs : sortS (rs.take k)) : ACalls Try.prog 107 [.snap 1 (f.map iv), .ip [.snap 1 (rs.map il)], .ip [.int .i64 k]] h (fun v h' => v = .bool (!decide (f ∈ rs.take k)) ∧ h' = h) := by
  refine k107_of0 rfl noPure fun I => ?_
  refine Run2.of I 1000 ?_
  simp -implicitDefEqProofs
  have ht := ssTot_take rs k
  rw [← List.map_take]
  refine ⟨hk, ?_⟩
  refine (indexOf_s (rs.take k) f h (by omega) hs).mono ?_
  rintro v h' ⟨rfl, rfl⟩
  refine gK.go ?_
  simp -implicitDefEqProofs [ixS_neg]
theorem faces_length (s : List Int) : (faces s).length ≤ s.length := by
  unfold faces; split <;> simp
abbrev k57_o0 : List AJ := [.o ⟨(some 1), none, false, .box false 1 (.t 0), none⟩, .o ⟨(some 2), none, false, .mv (.c (.bool false)), (some [1])⟩]
abbrev k57_o1 : List AJ := [.o ⟨(some 5), none, false, .fieldA 0 (.t 1), none⟩, .o ⟨(some 6), none, false, .load 1 false (.t 5), none⟩, .o ⟨(some 7), none, false, .len (.t 6), none⟩, .o ⟨(some 8), none, false, .mv (.c (.int .i64 0)), (some [1, 6, 7, 8])⟩]
abbrev k57_o2 : List AJ := [.o ⟨(some 9), none, false, .bin .lss (.t 8) (.t 7), (some [1, 6, 7, 8, 9])⟩]
abbrev k57_o3 : List AJ := [.o ⟨(some 10), none, false, .mv (.t 8), none⟩, .o ⟨(some 11), none, false, .idxA 1 (.t 6) (.t 8), none⟩, .o ⟨(some 12), none, false, .load 1 false (.t 11), none⟩, .v 3 1 (.int .i64 0) [] (.t 10) none, .o ⟨(some 4), none, false, .mv (.t 12), (some [1, 3, 4, 6, 7, 8])⟩]
abbrev k57_o4 : List AJ := [.o ⟨(some 13), none, false, .mv (.t 4), none⟩, .o ⟨(some 14), none, false, .call 103 [(.t 13)], none⟩, .o ⟨(some 15), none, false, .un .not (.t 14), none⟩, .o ⟨(some 16), none, false, .mv (.t 15), none⟩, .o ⟨(some 17), (some (16, false)), false, .load 1 false (.t 3), none⟩, .o ⟨(some 18), (some (16, false)), false, .bin .gtr (.t 17) (.c (.int .i64 0)), none⟩, .o ⟨(some 19), (some (16, false)), false, .mv (.t 18), none⟩, .o ⟨(some 20), (some (19, true)), false, .fieldA 0 (.t 1), none⟩, .o ⟨(some 21), (some (19, true)), false, .load 1 false (.t 20), (some [1, 3, 4, 6, 7, 8, 16, 19, 21])⟩, .o ⟨(some 22), (some (19, true)), false, .load 1 false (.t 3), none⟩, .o ⟨(some 23), (some (19, true)), true, .bin .sub (.t 22) (.c (.int .i64 1)), none⟩, .o ⟨(some 24), (some (19, true)), false, .idxA 1 (.t 21) (.t 23), none⟩, .o ⟨(some 25), (some (19, true)), false, .load 1 false (.t 24), none⟩, .o ⟨(some 26), (some (19, true)), false, .mv (.t 4), none⟩, .o ⟨(some 27), (some (19, true)), false, .call 104 [(.t 25), (.t 26)], none⟩, .o ⟨(some 28), (some (19, true)), false, .bin .geq (.t 27) (.c (.int .i64 0)), (some [1, 3, 4, 6, 7, 8, 16, 19, 28])⟩, .o ⟨(some 29), (some (16, false)), false, .pick (.t 19) (.t 28) (.c (.bool false)), none⟩, .o ⟨(some 30), none, false, .pick (.t 16) (.c (.bool true)) (.t 29), (some [1, 3, 4, 6, 7, 8, 30])⟩]
abbrev k57_o5 : List AJ := [.o ⟨(some 2), none, false, .mv (.c (.bool false)), (some [2])⟩]
def k57_7 : ACode := .seq (.region k57_o5) .ret
def k57_8 : ACode := .cond (.t 30) k57_7 .skip
def k57_9 : ACode := .seq (.region k57_o4) k57_8
abbrev k57_o6 : List AJ := [.o ⟨(some 31), none, false, .mv (.t 4), none⟩, .o ⟨(some 32), none, false, .call 106 [(.t 31)], none⟩, .o ⟨(some 33), none, false, .mkfn 107 [(.t 1), (.t 3)], none⟩, .o ⟨(some 34), none, false, .call 105 [(.t 32), (.t 33)], (some [1, 6, 7, 8, 34])⟩]
abbrev k57_o7 : List AJ := [.o ⟨(some 2), none, false, .mv (.c (.bool false)), (some [2])⟩]
def k57_12 : ACode := .seq (.region k57_o7) .ret
def k57_13 : ACode := .cond (.t 34) k57_12 .skip
def k57_14 : ACode := .seq (.region k57_o6) k57_13
def k57_15 : ACode := .seq k57_9 k57_14
def k57_16 : ACode := .seq (.region k57_o3) k57_15
abbrev k57_o8 : List AJ := [.o ⟨(some 35), none, true, .bin .add (.t 8) (.c (.int .i64 1)), none⟩, .o ⟨(some 8), none, false, .mv (.t 35), (some [1, 6, 7, 8])⟩]
def k57_18 : ACode := .region k57_o8
def k57_19 : ACode := .seq (.block 1 k57_16) k57_18
def k57_20 : ACode := .seq (.cond (.t 9) .skip (.exit 0)) k57_19
def k57_21 : ACode := .seq (.region k57_o2) k57_20
def k57_22 : ACode := .loop k57_21
def k57_23 : ACode := .block 0 k57_22
def k57_24 : ACode := .seq (.region k57_o1) k57_23
abbrev k57_o9 : List AJ := [.o ⟨(some 36), none, false, .fieldA 0 (.t 1), none⟩, .o ⟨(some 37), none, false, .load 1 false (.t 36), none⟩, .o ⟨(some 38), none, false, .len (.t 37), none⟩, .o ⟨(some 39), none, false, .bin .leq (.t 38) (.c (.int .i64 48)), none⟩, .o ⟨(some 2), none, false, .mv (.t 39), (some [2])⟩]
def k57_26 : ACode := .seq (.region k57_o9) .ret
def k57_27 : ACode := .seq k57_24 k57_26
def k57_28 : ACode := .seq (.region k57_o0) k57_27
@[simp, simp ↓] theorem k57_7r : sR k57_7 k57_o5 .ret := yR rfl
@[simp, simp ↓] theorem k57_8r : rC k57_8 (.t 30) k57_7 .skip := zC rfl
@[simp, simp ↓] theorem k57_9r : sR k57_9 k57_o4 k57_8 := yR rfl
@[simp, simp ↓] theorem k57_12r : sR k57_12 k57_o7 .ret := yR rfl
@[simp, simp ↓] theorem k57_13r : rC k57_13 (.t 34) k57_12 .skip := zC rfl
@[simp, simp ↓] theorem k57_14r : sR k57_14 k57_o6 k57_13 := yR rfl
@[simp, simp ↓] theorem k57_15r : rS k57_15 k57_9 k57_14 := zS rfl
@[simp, simp ↓] theorem k57_16r : sR k57_16 k57_o3 k57_15 := yR rfl
@[simp, simp ↓] theorem k57_18r : rR k57_18 k57_o8 := zR rfl
@[simp, simp ↓] theorem k57_19r : sB k57_19 1 k57_16 k57_18 := yB rfl
@[simp, simp ↓] theorem k57_20r : sC k57_20 (.t 9) .skip (.exit 0) k57_19 := yC rfl
@[simp, simp ↓] theorem k57_21r : sR k57_21 k57_o2 k57_20 := yR rfl
@[simp, simp ↓] theorem k57_22r : rL k57_22 k57_21 := zL rfl
@[simp, simp ↓] theorem k57_23r : rB k57_23 0 k57_22 := zB rfl
@[simp, simp ↓] theorem k57_24r : sR k57_24 k57_o1 k57_23 := yR rfl
@[simp, simp ↓] theorem k57_26r : sR k57_26 k57_o9 .ret := yR rfl
@[simp, simp ↓] theorem k57_27r : rS k57_27 k57_24 k57_26 := zS rfl
@[simp, simp ↓] theorem k57_28r : sR k57_28 k57_o0 k57_27 := yR rfl
noncomputable abbrev k57_C : Orc → Cx := mkC Try.prog [3] 57 40 [.tmp 2]
theorem k57_of0 : OfP0 Try.prog Try.f57 57 40 k57_C k57_28 := @ofP0 _ _ _ _ _ _ _ _ Try.func57 (by decide +kernel) rfl (by kernel_rfl) rfl (by kernel_rfl)
theorem validCx_s (rs : List (List Int)) (h : Heap) (hl : ssTot rs ≤ 1048576) : ACalls Try.prog 57 [cx rs] h (fun v h' => v = .bool (decide (cxOk rs)) ∧ h' = h) := by
  have hf := fit_of_tot hl
  have hn := hf.1
  refine k57_of0 rfl orcD_p fun I => ?_
  refine Run2.of I 1000 ?_
  simp -implicitDefEqProofs
  refine Run2.loopE (fun (i : Nat) => [(1, .ip [.snap 1 (rs.map il)]), (6, .snap 1 (rs.map il)), (7, .int .i64 rs.length), (8, .int .i64 i)]) (fun i => h) (fun i => rs.length - i) (fun i => i ≤ rs.length ∧ ∀ j (hj : j < rs.length), j < i → cxAtB rs j hj) 0 (by simp) rfl ⟨Nat.zero_le _, fun _ _ h => by omega⟩ fun i hi ih => ?_
  have hso : sortS (rs.take i) := fun j hj => by
    simp only [List.length_take] at hj
    simp only [List.getElem_take]
    exact (hi.2 (j + 1) (by omega) (by omega)).2.1 (by omega)
  by_cases hlt : i < rs.length
  · have hr := hf.2 _ (List.getElem_mem hlt)
    have hbad : ¬ cxAtB rs i hlt → ¬ cxOk rs := fun h1 h2 => h1 (((cxOk_iff rs).1 h2).1 i hlt)
    have go := fun (h1 : cxAtB rs i hlt) => ih (i + 1) ⟨by omega, fun j hj hji => by
      rcases Nat.lt_or_ge j i with h | h
      · exact hi.2 j hj h
      · obtain rfl : j = i := by omega
        exact h1⟩ (by omega)
    clear ih
    by_cases h1 : smOk rs[i]
    · have hfl := faces_length rs[i]
      have hcf := ContainsFuncS_s (faces rs[i]) 107 [.ip [.snap 1 (rs.map il)], .ip [.int .i64 i]] (fun f => !decide (f ∈ rs.take i)) h (by omega) fun f hf => VC1_c f rs i h hl (by omega) hso
      have hany : ((faces rs[i]).any fun f => !decide (f ∈ rs.take i)) = true ↔ ¬ ∀ f ∈ faces rs[i], f ∈ rs.take i := by simp
      generalize hB : ((faces rs[i]).any fun f => !decide (f ∈ rs.take i)) = B at hcf hany
      have step : ∀ (hcm : 0 < i → cmpS rs[i - 1] rs[i] < 0), cxAtB rs i hlt ↔ ∀ f ∈ faces rs[i], f ∈ rs.take i := fun hcm => ⟨fun h => h.2.2, fun h => ⟨h1, hcm, h⟩⟩
      cases i with
      | zero =>
        have step := step (by simp)
        rw [← step] at hany
        refine Run2.of I 1000 ?_
        simp -implicitDefEqProofs [hlt, hr, h1]
        refine hcf.mono ?_
        rintro v h' ⟨rfl, rfl⟩
        refine gK.go ?_
        cases B with
        | true =>
          have hb := hbad (hany.1 rfl)
          simp -implicitDefEqProofs [hb]
        | false =>
          have := go (Classical.byContradiction fun hn => by simpa using hany.2 hn)
          simp -implicitDefEqProofs
          simpa using this
      | succ i =>
        have hlt' : i < rs.length := by omega
        have hr' := hf.2 _ (List.getElem_mem hlt')
        have hc : ((i : Int) + 1 - 1).toNat = i := by omega
        by_cases h2 : cmpS rs[i] rs[i + 1] < 0
        · have step := step (fun _ => h2)
          have h2' : ¬ 0 ≤ cmpS rs[i] rs[i + 1] := by omega
          rw [← step] at hany
          have hltI : (i : Int) + 1 < rs.length := by omega
          have hcf' : ACalls Try.prog _ [_, .fn 107 [_, .ip [.int .i64 ((i : Int) + 1)]]] h _ := hcf
          refine Run2.of I 1000 ?_
          simp -implicitDefEqProofs [hlt, hlt', hr, hr', h1, hc, h2', hltI]
          refine ⟨by omega, by omega, ?_⟩
          refine hcf.mono ?_
          rintro v h' ⟨rfl, rfl⟩
          refine gK.go ?_
          cases B with
          | true =>
            have hb := hbad (hany.1 rfl)
            simp -implicitDefEqProofs [hb]
          | false =>
            have := go (Classical.byContradiction fun hn => by simpa using hany.2 hn)
            simp -implicitDefEqProofs
            refine ⟨by omega, by simpa using this⟩
        · have hb := hbad fun h => h2 (h.2.1 (by omega))
          have h2' : 0 ≤ cmpS rs[i] rs[i + 1] := by omega
          refine Run2.of I 1000 ?_
          have hltI : (i : Int) + 1 < rs.length := by omega
          simp -implicitDefEqProofs [hlt, hlt', hr, hr', h1, hc, h2', hb, hltI]
          omega
    · have hb := hbad fun h => h1 h.1
      refine Run2.of I 1000 ?_
      simp -implicitDefEqProofs [hlt, hr, h1, hb]
  · obtain rfl : i = rs.length := by omega
    have e : cxOk rs ↔ rs.length ≤ 48 := by
      rw [cxOk_iff]
      exact ⟨fun h => h.2, fun h => ⟨fun j hj => hi.2 j hj hj, h⟩⟩
    refine Run2.of I 1000 ?_
    simp -implicitDefEqProofs [e]
    omega

noncomputable def o_validCx : List AV → Option (Prop × AV) := tab (fun (x : LS) => match x with | rs => [.agg [.snap 1 (rs.map il)]]) (fun x => match x with | rs => ssTot rs ≤ 1048576) (fun x => match x with | rs => .bool (decide (cxOk rs)))
@[simp] theorem o_validCx_e (rs : LS) : o_validCx [.agg [.snap 1 (rs.map il)]] = some (ssTot rs ≤ 1048576, .bool (decide (cxOk rs))) := tab_at (enc := fun (x : LS) => match x with | rs => [.agg [.snap 1 (rs.map il)]]) (fun x y h => by
  simp at h; simp [h] <;> omega) _ _ rs
theorem o_validCx_k : Knows Try.prog 57 o_validCx := tab_knows fun x hx h => by
  exact validCx_s x h hx
/-! ## The reference -/
noncomputable def orcS1 : List (Nat × (List AV → Option (Prop × AV))) := (132, o_l00Rises) :: (45, o_l00In) :: []
theorem orcS1_p : Pure Try.prog (lk orcS1) := (lk_pure o_l00Rises_k (lk_pure o_l00In_k lk_pure0))
@[simp] theorem orcS1_l (b : Bool) (g : FuncId) (l : List AV) : lk orcS1 b g l = if g = 132 then o_l00Rises l else if g = 45 then o_l00In l else none := nr rfl
abbrev k98_o0 : List AJ := [.o ⟨(some 2), none, false, .mv (.c (.bool false)), (some [0])⟩]
abbrev k98_o1 : List AJ := [.o ⟨(some 3), none, false, .mv (.t 0), none⟩, .o ⟨(some 4), none, false, .len (.t 3), none⟩, .o ⟨(some 5), none, false, .call 45 [(.t 4), (.c (.int .i64 1)), (.c (.int .i64 4))], none⟩, .o ⟨(some 6), none, false, .mv (.t 5), none⟩, .o ⟨(some 7), (some (6, true)), false, .mv (.t 0), none⟩, .o ⟨(some 8), (some (6, true)), false, .call 132 [(.t 7), (.c (.int .i64 0)), (.c (.int .i64 9))], none⟩, .o ⟨(some 9), none, false, .pick (.t 6) (.t 8) (.c (.bool false)), none⟩, .o ⟨(some 2), none, false, .mv (.t 9), (some [2])⟩]
def k98_2 : ACode := .seq (.region k98_o1) .ret
def k98_3 : ACode := .seq (.region k98_o0) k98_2
@[simp, simp ↓] theorem k98_2r : sR k98_2 k98_o1 .ret := yR rfl
@[simp, simp ↓] theorem k98_3r : sR k98_3 k98_o0 k98_2 := yR rfl
noncomputable abbrev k98_C : Orc → Cx := mkC Try.prog [] 98 10 [.tmp 2]
theorem k98_of0 : OfP0 Try.prog Try.f98 98 10 k98_C k98_3 := @ofP0 _ _ _ _ _ _ _ _ Try.func98 (by decide +kernel) rfl (by kernel_rfl) rfl (by kernel_rfl)
theorem l05Simplex_s (s : List Int) (h : Heap) (hl : s.length ≤ 1048576) : ACalls Try.prog 98 [.snap 1 (s.map iv)] h (fun v h' => v = .bool (decide (smOk s)) ∧ h' = h) := by
  refine k98_of0 rfl orcS1_p fun I => ?_
  have e : smOk s ↔ (1 ≤ s.length ∧ s.length ≤ 4) ∧ btw s 0 9 ∧ riseS s := by
    unfold smOk btw
    constructor
    · rintro ⟨h1, h2, h3⟩; exact ⟨h1, h3, h2⟩
    · rintro ⟨h1, h2, h3⟩; exact ⟨h1, h3, h2⟩
  by_cases h1 : 1 ≤ s.length ∧ s.length ≤ 4
  · have h1' : (1 : Int) ≤ s.length := by omega
    have h2' : (s.length : Int) ≤ 4 := by omega
    have e2 : smOk s ↔ btw s 0 9 ∧ riseS s := by rw [e]; simp [h1]
    refine Run2.of I 1000 ?_
    simp -implicitDefEqProofs [hl, h1', h2', e2]
  · have h1' : ¬ ((1 : Int) ≤ s.length ∧ (s.length : Int) ≤ 4) := by omega
    have e2 : ¬ smOk s := fun h => h1 h.1
    have e3 : (decide ((1 : Int) ≤ s.length) && decide ((s.length : Int) ≤ 4)) = false := by
      rw [Bool.eq_false_iff]; simpa using h1'
    refine Run2.of I 1000 ?_
    simp -implicitDefEqProofs [hl, e2, e3]
noncomputable def o_l05Simplex : List AV → Option (Prop × AV) := tab (fun (x : List Int) => match x with | s => [.snap 1 (s.map iv)]) (fun x => match x with | s => s.length ≤ 1048576) (fun x => match x with | s => .bool (decide (smOk s)))
@[simp] theorem o_l05Simplex_e (s : List Int) : o_l05Simplex [.snap 1 (s.map iv)] = some (s.length ≤ 1048576, .bool (decide (smOk s))) := tab_at (enc := fun (x : List Int) => match x with | s => [.snap 1 (s.map iv)]) (fun x y h => by
  simp at h; simp [h] <;> omega) _ _ s
theorem o_l05Simplex_k : Knows Try.prog 98 o_l05Simplex := tab_knows fun x hx h => by
  exact l05Simplex_s x h hx
abbrev k133_o0 : List AJ := [.o ⟨(some 4), none, false, .mv (.c (.bool false)), (some [0, 1])⟩]
abbrev k133_o1 : List AJ := [.o ⟨(some 6), none, false, .mv (.t 0), none⟩, .o ⟨(some 7), none, false, .len (.t 6), none⟩, .o ⟨(some 8), none, false, .mv (.t 1), none⟩, .o ⟨(some 9), none, false, .len (.t 8), none⟩, .o ⟨(some 10), none, false, .bin .neq (.t 7) (.t 9), (some [0, 1, 10])⟩]
abbrev k133_o2 : List AJ := [.o ⟨(some 4), none, false, .mv (.c (.bool false)), (some [4])⟩]
def k133_3 : ACode := .seq (.region k133_o2) .ret
def k133_4 : ACode := .cond (.t 10) k133_3 .skip
def k133_5 : ACode := .seq (.region k133_o1) k133_4
abbrev k133_o3 : List AJ := [.o ⟨(some 5), none, false, .mv (.c (.int .i64 0)), (some [0, 1, 5])⟩]
abbrev k133_o4 : List AJ := [.o ⟨(some 11), none, false, .mv (.t 5), none⟩, .o ⟨(some 12), none, false, .mv (.t 0), none⟩, .o ⟨(some 13), none, false, .len (.t 12), none⟩, .o ⟨(some 14), none, false, .bin .lss (.t 11) (.t 13), (some [0, 1, 5, 14])⟩]
def k133_8 : ACode := .cond (.t 14) .skip (.exit 0)
def k133_9 : ACode := .seq (.region k133_o4) k133_8
abbrev k133_o5 : List AI := [⟨(some 17), none, false, .mv (.t 0), none⟩, ⟨(some 18), none, false, .mv (.t 5), none⟩, ⟨(some 19), none, false, .idxA 1 (.t 17) (.t 18), none⟩, ⟨(some 20), none, false, .load 1 false (.t 19), none⟩, ⟨(some 21), none, false, .mv (.t 1), none⟩, ⟨(some 22), none, false, .mv (.t 5), none⟩, ⟨(some 23), none, false, .idxA 1 (.t 21) (.t 22), none⟩, ⟨(some 24), none, false, .load 1 false (.t 23), none⟩, ⟨(some 25), none, false, .bin .neq (.t 20) (.t 24), (some [0, 1, 5, 25])⟩]
abbrev k133_o6 : List AJ := [.o ⟨(some 4), none, false, .mv (.c (.bool false)), (some [4])⟩]
def k133_12 : ACode := .seq (.region k133_o6) .ret
def k133_13 : ACode := .cond (.t 25) k133_12 .skip
def k133_14 : ACode := .seq (.draw k133_o5 [] rfl) k133_13
abbrev k133_o7 : List AJ := [.o ⟨(some 15), none, false, .mv (.t 5), none⟩, .o ⟨(some 16), none, true, .bin .add (.t 15) (.c (.int .i64 1)), none⟩, .o ⟨(some 5), none, false, .mv (.t 16), (some [0, 1, 5])⟩]
def k133_16 : ACode := .region k133_o7
def k133_17 : ACode := .seq (.block 1 k133_14) k133_16
def k133_18 : ACode := .seq k133_9 k133_17
def k133_19 : ACode := .loop k133_18
def k133_20 : ACode := .block 0 k133_19
def k133_21 : ACode := .seq (.region k133_o3) k133_20
abbrev k133_o8 : List AJ := [.o ⟨(some 4), none, false, .mv (.c (.bool true)), (some [4])⟩]
def k133_23 : ACode := .seq (.region k133_o8) .ret
def k133_24 : ACode := .seq k133_21 k133_23
def k133_25 : ACode := .seq k133_5 k133_24
def k133_26 : ACode := .seq (.region k133_o0) k133_25
@[simp, simp ↓] theorem k133_3r : sR k133_3 k133_o2 .ret := yR rfl
@[simp, simp ↓] theorem k133_4r : rC k133_4 (.t 10) k133_3 .skip := zC rfl
@[simp, simp ↓] theorem k133_5r : sR k133_5 k133_o1 k133_4 := yR rfl
@[simp, simp ↓] theorem k133_8r : rC k133_8 (.t 14) .skip (.exit 0) := zC rfl
@[simp, simp ↓] theorem k133_9r : sR k133_9 k133_o4 k133_8 := yR rfl
@[simp, simp ↓] theorem k133_12r : sR k133_12 k133_o6 .ret := yR rfl
@[simp, simp ↓] theorem k133_13r : rC k133_13 (.t 25) k133_12 .skip := zC rfl
@[simp, simp ↓] theorem k133_14r : sD k133_14 k133_o5 [] k133_13 := yD rfl
@[simp, simp ↓] theorem k133_16r : rR k133_16 k133_o7 := zR rfl
@[simp, simp ↓] theorem k133_17r : sB k133_17 1 k133_14 k133_16 := yB rfl
@[simp, simp ↓] theorem k133_18r : rS k133_18 k133_9 k133_17 := zS rfl
@[simp, simp ↓] theorem k133_19r : rL k133_19 k133_18 := zL rfl
@[simp, simp ↓] theorem k133_20r : rB k133_20 0 k133_19 := zB rfl
@[simp, simp ↓] theorem k133_21r : sR k133_21 k133_o3 k133_20 := yR rfl
@[simp, simp ↓] theorem k133_23r : sR k133_23 k133_o8 .ret := yR rfl
@[simp, simp ↓] theorem k133_24r : rS k133_24 k133_21 k133_23 := zS rfl
@[simp, simp ↓] theorem k133_25r : rS k133_25 k133_5 k133_24 := zS rfl
@[simp, simp ↓] theorem k133_26r : sR k133_26 k133_o0 k133_25 := yR rfl
noncomputable abbrev k133_C : Orc → Cx := mkC Try.prog [] 133 26 [.tmp 4]
theorem k133_of0 : OfP0 Try.prog Try.f133 133 26 k133_C k133_26 := @ofP0 _ _ _ _ _ _ _ _ Try.func133 (by decide +kernel) rfl (by kernel_rfl) rfl (by kernel_rfl)
theorem l00Same_s (l m : List Int) (h : Heap) (hl : l.length ≤ 1048576) : ACalls Try.prog 133 [.snap 1 (l.map iv), .snap 1 (m.map iv)] h (fun v h' => v = .bool (decide (l = m)) ∧ h' = h) := by
  refine k133_of0 rfl noPure fun I => ?_
  refine Run2.of I 1000 ?_
  simp -implicitDefEqProofs
  refine ⟨by rintro hne rfl; exact hne rfl, fun hlen => ?_⟩
  refine Run2.loop (fun i => [(0, .snap 1 (l.map iv)), (1, .snap 1 (m.map iv)), (5, .int .i64 (i : Nat))]) (fun i => h) (fun i => l.length - i) (fun i => i ≤ l.length ∧ l.take i = m.take i) 0 (by simp) fun i hi ih => ?_
  by_cases hlt : i < l.length
  · have hlt' : i < m.length := by omega
    refine Run2.of I 1000 ?_
    simp -implicitDefEqProofs [hlt, hlt']
    constructor
    · rintro hne rfl
      exact hne rfl
    · intro he
      refine ⟨by omega, ?_⟩
      have := ih (i + 1) ⟨by omega, by rw [List.take_succ_eq_append_getElem hlt, List.take_succ_eq_append_getElem hlt', hi.2, he]⟩ (by omega)
      simpa using this
  · refine Run2.of I 1000 ?_
    simp -implicitDefEqProofs [hlt]
    have : i = l.length := by omega
    have h2 := hi.2
    rw [List.take_of_length_le (by omega), List.take_of_length_le (by omega)] at h2
    exact h2
noncomputable def o_l00Same : List AV → Option (Prop × AV) := tab (fun (x : List Int × List Int) => match x with | (l, m) => [.snap 1 (l.map iv), .snap 1 (m.map iv)]) (fun x => match x with | (l, m) => l.length ≤ 1048576) (fun x => match x with | (l, m) => .bool (decide (l = m)))
@[simp] theorem o_l00Same_e (l : List Int) (m : List Int) : o_l00Same [.snap 1 (l.map iv), .snap 1 (m.map iv)] = some (l.length ≤ 1048576, .bool (decide (l = m))) := tab_at (enc := fun (x : List Int × List Int) => match x with | (l, m) => [.snap 1 (l.map iv), .snap 1 (m.map iv)]) (fun x y h => by
  obtain ⟨l1, m1⟩ := x; obtain ⟨l2, m2⟩ := y; simp at h; simp [h] <;> omega) _ _ (l, m)
theorem o_l00Same_k : Knows Try.prog 133 o_l00Same := tab_knows fun x hx h => by
  obtain ⟨l, m⟩ := x; exact l00Same_s l m h hx
noncomputable def orcS2 : List (Nat × (List AV → Option (Prop × AV))) := (133, o_l00Same) :: []
theorem orcS2_p : Pure Try.prog (lk orcS2) := (lk_pure o_l00Same_k lk_pure0)
@[simp] theorem orcS2_l (b : Bool) (g : FuncId) (l : List AV) : lk orcS2 b g l = if g = 133 then o_l00Same l else none := nr rfl
abbrev k100_o0 : List AJ := [.o ⟨(some 4), none, false, .mv (.c (.int .i64 0)), (some [0, 1])⟩]
abbrev k100_o1 : List AJ := [.o ⟨(some 5), none, false, .mv (.c (.int .i64 0)), (some [0, 1, 5])⟩]
abbrev k100_o2 : List AJ := [.o ⟨(some 6), none, false, .mv (.t 5), none⟩, .o ⟨(some 7), none, false, .mv (.t 0), none⟩, .o ⟨(some 8), none, false, .nilchk (.t 7), none⟩, .o ⟨(some 9), none, false, .fieldA 0 (.t 8), none⟩, .o ⟨(some 10), none, false, .load 1 false (.t 9), none⟩, .o ⟨(some 11), none, false, .len (.t 10), none⟩, .o ⟨(some 12), none, false, .bin .lss (.t 6) (.t 11), (some [0, 1, 5, 12])⟩]
def k100_3 : ACode := .cond (.t 12) .skip (.exit 0)
def k100_4 : ACode := .seq (.region k100_o2) k100_3
abbrev k100_o3 : List AJ := [.o ⟨(some 15), none, false, .mv (.t 0), none⟩, .o ⟨(some 16), none, false, .nilchk (.t 15), none⟩, .o ⟨(some 17), none, false, .fieldA 0 (.t 16), none⟩, .o ⟨(some 18), none, false, .load 1 false (.t 17), none⟩, .o ⟨(some 19), none, false, .mv (.t 5), none⟩, .o ⟨(some 20), none, false, .idxA 1 (.t 18) (.t 19), none⟩, .o ⟨(some 21), none, false, .load 1 false (.t 20), none⟩, .o ⟨(some 22), none, false, .mv (.t 1), none⟩, .o ⟨(some 23), none, false, .call 133 [(.t 21), (.t 22)], (some [0, 1, 5, 23])⟩]
abbrev k100_o4 : List AJ := [.o ⟨(some 24), none, false, .mv (.t 5), none⟩, .o ⟨(some 4), none, false, .mv (.t 24), (some [4])⟩]
def k100_7 : ACode := .seq (.region k100_o4) .ret
def k100_8 : ACode := .cond (.t 23) k100_7 .skip
def k100_9 : ACode := .seq (.region k100_o3) k100_8
abbrev k100_o5 : List AJ := [.o ⟨(some 13), none, false, .mv (.t 5), none⟩, .o ⟨(some 14), none, true, .bin .add (.t 13) (.c (.int .i64 1)), none⟩, .o ⟨(some 5), none, false, .mv (.t 14), (some [0, 1, 5])⟩]
def k100_11 : ACode := .region k100_o5
def k100_12 : ACode := .seq (.block 1 k100_9) k100_11
def k100_13 : ACode := .seq k100_4 k100_12
def k100_14 : ACode := .loop k100_13
def k100_15 : ACode := .block 0 k100_14
def k100_16 : ACode := .seq (.region k100_o1) k100_15
abbrev k100_o6 : List AJ := [.o ⟨(some 4), none, false, .mv (.c (.int .i64 (-1))), (some [4])⟩]
def k100_18 : ACode := .seq (.region k100_o6) .ret
def k100_19 : ACode := .seq k100_16 k100_18
def k100_20 : ACode := .seq (.region k100_o0) k100_19
@[simp, simp ↓] theorem k100_3r : rC k100_3 (.t 12) .skip (.exit 0) := zC rfl
@[simp, simp ↓] theorem k100_4r : sR k100_4 k100_o2 k100_3 := yR rfl
@[simp, simp ↓] theorem k100_7r : sR k100_7 k100_o4 .ret := yR rfl
@[simp, simp ↓] theorem k100_8r : rC k100_8 (.t 23) k100_7 .skip := zC rfl
@[simp, simp ↓] theorem k100_9r : sR k100_9 k100_o3 k100_8 := yR rfl
@[simp, simp ↓] theorem k100_11r : rR k100_11 k100_o5 := zR rfl
@[simp, simp ↓] theorem k100_12r : sB k100_12 1 k100_9 k100_11 := yB rfl
@[simp, simp ↓] theorem k100_13r : rS k100_13 k100_4 k100_12 := zS rfl
@[simp, simp ↓] theorem k100_14r : rL k100_14 k100_13 := zL rfl
@[simp, simp ↓] theorem k100_15r : rB k100_15 0 k100_14 := zB rfl
@[simp, simp ↓] theorem k100_16r : sR k100_16 k100_o1 k100_15 := yR rfl
@[simp, simp ↓] theorem k100_18r : sR k100_18 k100_o6 .ret := yR rfl
@[simp, simp ↓] theorem k100_19r : rS k100_19 k100_16 k100_18 := zS rfl
@[simp, simp ↓] theorem k100_20r : sR k100_20 k100_o0 k100_19 := yR rfl
noncomputable abbrev k100_C : Orc → Cx := mkC Try.prog [] 100 25 [.tmp 4]
theorem k100_of0 : OfP0 Try.prog Try.f100 100 25 k100_C k100_20 := @ofP0 _ _ _ _ _ _ _ _ Try.func100 (by decide +kernel) rfl (by kernel_rfl) rfl (by kernel_rfl)
theorem l05Find_s (rs : List (List Int)) (e : List AV) (s : List Int) (h : Heap) (hl : ssTot rs ≤ 1048576) : ACalls Try.prog 100 [.ip (.snap 1 (rs.map il) :: e), .snap 1 (s.map iv)] h (fun v h' => v = .int .i64 (ixS rs s) ∧ h' = h) := by
  have hf := fit_of_tot hl
  have hn := hf.1
  refine k100_of0 rfl orcS2_p fun I => ?_
  refine Run2.of I 1000 ?_
  simp -implicitDefEqProofs
  refine Run2.loopE (fun (i : Nat) => [(0, .ip (.snap 1 (rs.map il) :: e)), (1, .snap 1 (s.map iv)), (5, .int .i64 i)]) (fun i => h) (fun i => rs.length - i) (fun i => i ≤ rs.length ∧ ∀ j (hj : j < rs.length), j < i → rs[j] ≠ s) 0 (by simp) rfl ⟨Nat.zero_le _, fun _ _ h => by omega⟩ fun i hi ih => ?_
  by_cases hlt : i < rs.length
  · have hr := hf.2 _ (List.getElem_mem hlt)
    have go := fun (h1 : rs[i] ≠ s) => ih (i + 1) ⟨by omega, fun j hj hji => by
      rcases Nat.lt_or_ge j i with h | h
      · exact hi.2 j hj h
      · obtain rfl : j = i := by omega
        exact h1⟩ (by omega)
    have hat := fun (h1 : rs[i] = s) => ixS_at hlt h1 hi.2
    clear ih
    refine Run2.of I 1000 ?_
    simp -implicitDefEqProofs [hlt, hr]
    refine ⟨fun h => (hat h).symm, fun h => ⟨by omega, by simpa using go h⟩⟩
  · obtain rfl : i = rs.length := by omega
    have hno := ixS_none (rs := rs) (s := s) fun hm => by
      obtain ⟨j, hj, e'⟩ := List.mem_iff_getElem.1 hm
      exact hi.2 j hj hj e'
    refine Run2.of I 1000 ?_
    simp -implicitDefEqProofs
    exact hno.symm
noncomputable def o_l05Find : List AV → Option (Prop × AV) := tab (fun (x : LS × List AV × List Int) => match x with | (rs, e, s) => [.ip (.snap 1 (rs.map il) :: e), .snap 1 (s.map iv)]) (fun x => match x with | (rs, e, s) => ssTot rs ≤ 1048576) (fun x => match x with | (rs, e, s) => .int .i64 (ixS rs s))
@[simp] theorem o_l05Find_e (rs : LS) (e : List AV) (s : List Int) : o_l05Find [.ip (.snap 1 (rs.map il) :: e), .snap 1 (s.map iv)] = some (ssTot rs ≤ 1048576, .int .i64 (ixS rs s)) := tab_at (enc := fun (x : LS × List AV × List Int) => match x with | (rs, e, s) => [.ip (.snap 1 (rs.map il) :: e), .snap 1 (s.map iv)]) (fun x y h => by
  obtain ⟨rs1, e1, s1⟩ := x; obtain ⟨rs2, e2, s2⟩ := y; simp at h; simp [h] <;> omega) _ _ (rs, e, s)
theorem o_l05Find_k : Knows Try.prog 100 o_l05Find := tab_knows fun x hx h => by
  obtain ⟨rs, e, s⟩ := x; exact l05Find_s rs e s h hx
abbrev k99_o0 : List AJ := [.o ⟨(some 4), none, false, .mv (.c (.bool false)), (some [0, 1])⟩]
abbrev k99_o1 : List AJ := [.o ⟨(some 6), none, false, .mv (.t 0), none⟩, .o ⟨(some 7), none, false, .len (.t 6), none⟩, .o ⟨(some 8), none, false, .mv (.t 1), none⟩, .o ⟨(some 9), none, false, .len (.t 8), none⟩, .o ⟨(some 10), none, false, .bin .neq (.t 7) (.t 9), (some [0, 1, 10])⟩]
abbrev k99_o2 : List AJ := [.o ⟨(some 11), none, false, .mv (.t 0), none⟩, .o ⟨(some 12), none, false, .len (.t 11), none⟩, .o ⟨(some 13), none, false, .mv (.t 1), none⟩, .o ⟨(some 14), none, false, .len (.t 13), none⟩, .o ⟨(some 15), none, false, .bin .lss (.t 12) (.t 14), none⟩, .o ⟨(some 4), none, false, .mv (.t 15), (some [4])⟩]
def k99_3 : ACode := .seq (.region k99_o2) .ret
def k99_4 : ACode := .cond (.t 10) k99_3 .skip
def k99_5 : ACode := .seq (.region k99_o1) k99_4
abbrev k99_o3 : List AJ := [.o ⟨(some 5), none, false, .mv (.c (.int .i64 0)), (some [0, 1, 5])⟩]
abbrev k99_o4 : List AJ := [.o ⟨(some 16), none, false, .mv (.t 5), none⟩, .o ⟨(some 17), none, false, .mv (.t 0), none⟩, .o ⟨(some 18), none, false, .len (.t 17), none⟩, .o ⟨(some 19), none, false, .bin .lss (.t 16) (.t 18), (some [0, 1, 5, 19])⟩]
def k99_8 : ACode := .cond (.t 19) .skip (.exit 0)
def k99_9 : ACode := .seq (.region k99_o4) k99_8
abbrev k99_o5 : List AI := [⟨(some 22), none, false, .mv (.t 0), none⟩, ⟨(some 23), none, false, .mv (.t 5), none⟩, ⟨(some 24), none, false, .idxA 1 (.t 22) (.t 23), none⟩, ⟨(some 25), none, false, .load 1 false (.t 24), none⟩, ⟨(some 26), none, false, .mv (.t 1), none⟩, ⟨(some 27), none, false, .mv (.t 5), none⟩, ⟨(some 28), none, false, .idxA 1 (.t 26) (.t 27), none⟩, ⟨(some 29), none, false, .load 1 false (.t 28), none⟩, ⟨(some 30), none, false, .bin .neq (.t 25) (.t 29), (some [0, 1, 5, 30])⟩]
abbrev k99_o6 : List AI := [⟨(some 31), none, false, .mv (.t 0), none⟩, ⟨(some 32), none, false, .mv (.t 5), none⟩, ⟨(some 33), none, false, .idxA 1 (.t 31) (.t 32), none⟩, ⟨(some 34), none, false, .load 1 false (.t 33), none⟩, ⟨(some 35), none, false, .mv (.t 1), none⟩, ⟨(some 36), none, false, .mv (.t 5), none⟩, ⟨(some 37), none, false, .idxA 1 (.t 35) (.t 36), none⟩, ⟨(some 38), none, false, .load 1 false (.t 37), none⟩, ⟨(some 39), none, false, .bin .lss (.t 34) (.t 38), none⟩, ⟨(some 4), none, false, .mv (.t 39), (some [4])⟩]
def k99_12 : ACode := .seq (.draw k99_o6 [] rfl) .ret
def k99_13 : ACode := .cond (.t 30) k99_12 .skip
def k99_14 : ACode := .seq (.draw k99_o5 [] rfl) k99_13
abbrev k99_o7 : List AJ := [.o ⟨(some 20), none, false, .mv (.t 5), none⟩, .o ⟨(some 21), none, true, .bin .add (.t 20) (.c (.int .i64 1)), none⟩, .o ⟨(some 5), none, false, .mv (.t 21), (some [0, 1, 5])⟩]
def k99_16 : ACode := .region k99_o7
def k99_17 : ACode := .seq (.block 1 k99_14) k99_16
def k99_18 : ACode := .seq k99_9 k99_17
def k99_19 : ACode := .loop k99_18
def k99_20 : ACode := .block 0 k99_19
def k99_21 : ACode := .seq (.region k99_o3) k99_20
abbrev k99_o8 : List AJ := [.o ⟨(some 4), none, false, .mv (.c (.bool false)), (some [4])⟩]
def k99_23 : ACode := .seq (.region k99_o8) .ret
def k99_24 : ACode := .seq k99_21 k99_23
def k99_25 : ACode := .seq k99_5 k99_24
def k99_26 : ACode := .seq (.region k99_o0) k99_25
@[simp, simp ↓] theorem k99_3r : sR k99_3 k99_o2 .ret := yR rfl
@[simp, simp ↓] theorem k99_4r : rC k99_4 (.t 10) k99_3 .skip := zC rfl
@[simp, simp ↓] theorem k99_5r : sR k99_5 k99_o1 k99_4 := yR rfl
@[simp, simp ↓] theorem k99_8r : rC k99_8 (.t 19) .skip (.exit 0) := zC rfl
@[simp, simp ↓] theorem k99_9r : sR k99_9 k99_o4 k99_8 := yR rfl
@[simp, simp ↓] theorem k99_12r : sD k99_12 k99_o6 [] .ret := yD rfl
@[simp, simp ↓] theorem k99_13r : rC k99_13 (.t 30) k99_12 .skip := zC rfl
@[simp, simp ↓] theorem k99_14r : sD k99_14 k99_o5 [] k99_13 := yD rfl
@[simp, simp ↓] theorem k99_16r : rR k99_16 k99_o7 := zR rfl
@[simp, simp ↓] theorem k99_17r : sB k99_17 1 k99_14 k99_16 := yB rfl
@[simp, simp ↓] theorem k99_18r : rS k99_18 k99_9 k99_17 := zS rfl
@[simp, simp ↓] theorem k99_19r : rL k99_19 k99_18 := zL rfl
@[simp, simp ↓] theorem k99_20r : rB k99_20 0 k99_19 := zB rfl
@[simp, simp ↓] theorem k99_21r : sR k99_21 k99_o3 k99_20 := yR rfl
@[simp, simp ↓] theorem k99_23r : sR k99_23 k99_o8 .ret := yR rfl
@[simp, simp ↓] theorem k99_24r : rS k99_24 k99_21 k99_23 := zS rfl
@[simp, simp ↓] theorem k99_25r : rS k99_25 k99_5 k99_24 := zS rfl
@[simp, simp ↓] theorem k99_26r : sR k99_26 k99_o0 k99_25 := yR rfl
noncomputable abbrev k99_C : Orc → Cx := mkC Try.prog [] 99 40 [.tmp 4]
theorem k99_of0 : OfP0 Try.prog Try.f99 99 40 k99_C k99_26 := @ofP0 _ _ _ _ _ _ _ _ Try.func99 (by decide +kernel) rfl (by kernel_rfl) rfl (by kernel_rfl)
theorem l05Before_s (a b : List Int) (h : Heap) (hl : a.length ≤ 1048576) : ACalls Try.prog 99 [.snap 1 (a.map iv), .snap 1 (b.map iv)] h (fun v h' => v = .bool (decide (cmpS a b < 0)) ∧ h' = h) := by
  refine k99_of0 rfl noPure fun I => ?_
  by_cases hab : a.length = b.length
  · have e0 : cmpS a b = lexC a b := by unfold cmpS cmpZ; simp [hab]
    have hab' : (a.length : Int) = b.length := by omega
    refine Run2.of I 1000 ?_
    simp -implicitDefEqProofs [hab']
    refine Run2.loopE (fun (i : Nat) => [(0, .snap 1 (a.map iv)), (1, .snap 1 (b.map iv)), (5, .int .i64 i)]) (fun i => h) (fun i => a.length - i) (fun i => i ≤ a.length ∧ lexC (a.drop i) (b.drop i) = lexC a b) 0 (by simp) rfl (by simp) fun i hi ih => ?_
    have hc := hi.2
    by_cases hlt : i < a.length
    · have hlt2 : i < b.length := by omega
      rw [List.drop_eq_getElem_cons hlt, List.drop_eq_getElem_cons hlt2] at hc
      simp only [lexC] at hc
      have go := fun (hz : a[i] = b[i]) => ih (i + 1) ⟨by omega, by rw [← hc, if_pos ((cmpZ_zero _ _).2 hz)]⟩ (by omega)
      have hne := fun (hz : ¬ a[i] = b[i]) => show a[i] < b[i] ↔ cmpS a b < 0 by
        rw [e0, ← hc, if_neg (fun h => hz ((cmpZ_zero _ _).1 h)), cmpZ_neg]
      clear ih
      refine Run2.of I 1000 ?_
      simp -implicitDefEqProofs [hlt, hlt2]
      refine ⟨fun h => hne h, fun h => ⟨by omega, by simpa using go h⟩⟩
    · obtain rfl : i = a.length := by omega
      rw [List.drop_length, List.drop_of_length_le (by omega)] at hc
      simp only [lexC] at hc
      have : ¬ cmpS a b < 0 := by rw [e0]; omega
      refine Run2.of I 1000 ?_
      simp -implicitDefEqProofs [hlt, this]
  · have e0 : cmpS a b < 0 ↔ (a.length : Int) < b.length := by unfold cmpS cmpZ; grind
    have hab' : ¬ (a.length : Int) = b.length := by omega
    refine Run2.of I 1000 ?_
    simp -implicitDefEqProofs [hab', e0]
noncomputable def o_l05Before : List AV → Option (Prop × AV) := tab (fun (x : List Int × List Int) => match x with | (a, b) => [.snap 1 (a.map iv), .snap 1 (b.map iv)]) (fun x => match x with | (a, b) => a.length ≤ 1048576) (fun x => match x with | (a, b) => .bool (decide (cmpS a b < 0)))
@[simp] theorem o_l05Before_e (a : List Int) (b : List Int) : o_l05Before [.snap 1 (a.map iv), .snap 1 (b.map iv)] = some (a.length ≤ 1048576, .bool (decide (cmpS a b < 0))) := tab_at (enc := fun (x : List Int × List Int) => match x with | (a, b) => [.snap 1 (a.map iv), .snap 1 (b.map iv)]) (fun x y h => by
  obtain ⟨a1, b1⟩ := x; obtain ⟨a2, b2⟩ := y; simp at h; simp [h] <;> omega) _ _ (a, b)
theorem o_l05Before_k : Knows Try.prog 99 o_l05Before := tab_knows fun x hx h => by
  obtain ⟨a, b⟩ := x; exact l05Before_s a b h hx
theorem Grow.appAny {sz : Nat} {w : AV} {l new : List AV} {hp h : Heap} {C : Cx} {n : Nat} {d : Option Nat} {ks : Option (List Nat)} {is : List AJ} {sk : List AItem} {R : AV → Heap → Prop} {e : Env} {bytes : Nat} (g : Grow sz w l hp) (hb : (2 * (l.length + new.length)) * bytes ≤ 281474976710656)
    (k : ∀ w' hp', Grow sz w' (l ++ new) hp' → vc2 C n is sk (kp (put e d w') ks) (hp' ++ h) R) : resK C n d ks is sk R e (hp ++ h) (appR (hp ++ h) sz bytes w new) := by
  by_cases hn : new = []
  · subst hn
    cases g with
    | nil =>
      simp only [appR_n]
      exact ⟨fun _ => k _ _ .nil, fun h => by cases h⟩
    | emp =>
      simp only [appR_e]
      exact ⟨fun _ => k _ _ .emp, fun h => by cases h⟩
    | sl id l m hm =>
      subst hm
      have hd : hdel ((id, ⟨sz, l⟩) :: h) id = h := by simp [hdel]
      rw [appR_ln]
      refine ⟨rfl, ⟨sz, l⟩, by simp [hget], rfl, by simp, rfl, hb, fun id' _ => ?_⟩
      have := k _ _ (.sl id' (l ++ []) (l.length + 0) (by simp))
      simpa [hd] using this
  · exact g.app hb hn k
abbrev k101_o0 : List AJ := [.o ⟨(some 4), none, false, .mv (.c .nilsl), (some [0, 1])⟩]
abbrev k101_o1 : List AJ := [.o ⟨(some 6), none, false, .mv (.t 0), none⟩, .o ⟨(some 7), none, false, .mv (.t 1), none⟩, .o ⟨(some 8), none, false, .slice 1 (.t 6) none (some (.t 7)) none, none⟩, .o ⟨(some 9), none, false, .call 47 [(.t 8)], none⟩, .o ⟨(some 5), none, false, .mv (.t 9), (some [0, 1, 5])⟩]
abbrev k101_o2 : List AJ := [.o ⟨(some 10), none, false, .mv (.t 5), none⟩, .o ⟨(some 11), none, false, .mv (.t 0), none⟩, .o ⟨(some 12), none, false, .mv (.t 1), none⟩, .o ⟨(some 13), none, true, .bin .add (.t 12) (.c (.int .i64 1)), none⟩, .o ⟨(some 14), none, false, .slice 1 (.t 11) (some (.t 13)) none none, none⟩, .o ⟨(some 15), none, false, .append 1 8 (.t 10) (.t 14), none⟩, .o ⟨(some 4), none, false, .mv (.t 15), (some [4])⟩]
def k101_3 : ACode := .seq (.region k101_o2) .ret
def k101_4 : ACode := .seq (.region k101_o1) k101_3
def k101_5 : ACode := .seq (.region k101_o0) k101_4
@[simp, simp ↓] theorem k101_3r : sR k101_3 k101_o2 .ret := yR rfl
@[simp, simp ↓] theorem k101_4r : sR k101_4 k101_o1 k101_3 := yR rfl
@[simp, simp ↓] theorem k101_5r : sR k101_5 k101_o0 k101_4 := yR rfl
noncomputable abbrev k101_C : Orc → Cx := mkC Try.prog [] 101 16 [.tmp 4]
theorem k101_of : OfP Try.prog Try.f101 101 16 k101_C k101_5 := @ofP _ _ _ _ _ _ _ _ Try.func101 (by decide +kernel) rfl (by kernel_rfl) rfl (by kernel_rfl)
theorem l05Drop_s (s : List Int) (k : Nat) (h : Heap) (hl : s.length ≤ 1048576) (hk : k < s.length) : ACalls Try.prog 101 [.snap 1 (s.map iv), .int .i64 k] h (fun v h' => v = il (dropK s k) ∧ h' = h) := by
  refine k101_of rfl noPure fun I => ?_
  refine Run2.of I 1000 ?_
  simp -implicitDefEqProofs
  refine ⟨by omega, ?_⟩
  rw [← List.map_take]
  refine (l00Own_g (s.take k) h (by simp; omega)).mono ?_
  rintro v h' ⟨hp, g, rfl⟩
  have hcell := g.cell
  refine gK.go ?_
  simp -implicitDefEqProofs [hcell]
  refine ⟨by omega, by omega, ?_⟩
  have htk : List.take ((s.length : Int) - ((k : Int) + 1)).toNat (List.drop (k + 1) (List.map iv s)) = List.drop (k + 1) (List.map iv s) := List.take_of_length_le (by simp; omega)
  rw [htk]
  refine g.appAny (by simp; omega) fun w' hp' hg' => ?_
  have hcell' := hg'.cell
  simp -implicitDefEqProofs [hcell']
  refine hg'.froze (fun x => x) (fun _ _ _ => rfl) (fun _ _ h => h) (.base ⟨?_, rfl⟩)
  simp [dropK]
noncomputable def o_l05Drop : List AV → Option (Prop × AV) := tab (fun (x : List Int × Nat) => match x with | (s, k) => [.snap 1 (s.map iv), .int .i64 k]) (fun x => match x with | (s, k) => (s.length ≤ 1048576 ∧ k < s.length)) (fun x => match x with | (s, k) => .snap 1 ((dropK s k).map iv))
@[simp] theorem o_l05Drop_e (s : List Int) (k : Nat) : o_l05Drop [.snap 1 (s.map iv), .int .i64 k] = some ((s.length ≤ 1048576 ∧ k < s.length), .snap 1 ((dropK s k).map iv)) := tab_at (enc := fun (x : List Int × Nat) => match x with | (s, k) => [.snap 1 (s.map iv), .int .i64 k]) (fun x y h => by
  obtain ⟨s1, k1⟩ := x; obtain ⟨s2, k2⟩ := y; simp at h; simp [h] <;> omega) _ _ (s, k)
theorem o_l05Drop_k : Knows Try.prog 101 o_l05Drop := tab_knows fun x hx h => by
  obtain ⟨s, k⟩ := x; exact l05Drop_s s k h hx.1 hx.2
end Go.AG
