/- What a complex is: the program's function and the reference's. No statement is made here. -/
import Derived.Test.YtnbllllkaohfoaaDoorFxC
namespace Go.AG
open Go.Proofs Go.Proofs.YtnbllllkaohfoaaDoor
set_option linter.unusedSimpArgs false
set_option linter.unusedVariables false
set_option maxRecDepth 4000
abbrev k121_o0 : List AJ := [.o ⟨(some 2), none, false, .mv (.c (.bool false)), (some [0])⟩]
abbrev k121_o1 : List AJ := [.o ⟨(some 3), none, false, .mv (.t 0), none⟩, .o ⟨(some 4), none, false, .call 72 [(.t 3), (.c (.int .i64 0)), (.c (.int .i64 9))], none⟩, .o ⟨(some 2), none, false, .mv (.t 4), (some [2])⟩]
def k121_2 : ACode := .seq (.region k121_o1) .ret
def k121_3 : ACode := .seq (.region k121_o0) k121_2
@[simp, simp ↓] theorem k121_2r : sR k121_2 k121_o1 .ret := yR rfl
@[simp, simp ↓] theorem k121_3r : sR k121_3 k121_o0 k121_2 := yR rfl
noncomputable abbrev k121_C : Orc → Cx := mkC Tryd.prog [] 121 5 [.tmp 2]
theorem k121_of0 : OfP0 Tryd.prog Tryd.f121 121 5 k121_C k121_3 := @ofP0 _ _ _ _ _ _ _ _ Tryd.func121 (by decide +kernel) rfl (by kernel_rfl) rfl (by kernel_rfl)
theorem isVertex_c (a : Int) (h : Heap) : ACalls Tryd.prog 121 [.int .i64 a] h (fun v h' => v = .bool (decide (0 ≤ a) && decide (a ≤ 9)) ∧ h' = h) := by
  refine k121_of0 rfl orc1_p fun I => ?_
  refine Run2.of I 1000 ?_
  simp -implicitDefEqProofs
noncomputable def o_isVertex : List AV → Option (Prop × AV) := tab (fun (x : Int) => match x with | a => [.int .i64 a]) (fun x => match x with | a => True) (fun x => match x with | a => .bool (decide (0 ≤ a) && decide (a ≤ 9)))
@[simp] theorem o_isVertex_e (a : Int) : o_isVertex [.int .i64 a] = some (True, .bool (decide (0 ≤ a) && decide (a ≤ 9))) := tab_at (enc := fun (x : Int) => match x with | a => [.int .i64 a]) (fun x y h => by
  simp at h; simp [h] <;> omega) _ _ a
theorem o_isVertex_k : Knows Tryd.prog 121 o_isVertex := tab_knows fun x hx h => by
  exact isVertex_c _ h
noncomputable def orcV : List (Nat × (List AV → Option (Prop × AV))) := (121, o_isVertex) :: (31, o_isRising) :: []
theorem orcV_p : Pure Tryd.prog (lk orcV) := (lk_pure o_isVertex_k (lk_pure o_isRising_k lk_pure0))
@[simp] theorem orcV_l (b : Bool) (g : FuncId) (l : List AV) : lk orcV b g l = if g = 121 then o_isVertex l else if g = 31 then o_isRising l else none := nr rfl
abbrev k120_o0 : List AJ := [.o ⟨(some 2), none, false, .mv (.c (.bool false)), (some [0])⟩]
abbrev k120_o1 : List AJ := [.o ⟨(some 3), none, false, .mv (.t 0), none⟩, .o ⟨(some 4), none, false, .call 121 [(.t 3)], none⟩, .o ⟨(some 5), none, false, .un .not (.t 4), none⟩, .o ⟨(some 2), none, false, .mv (.t 5), (some [2])⟩]
def k120_2 : ACode := .seq (.region k120_o1) .ret
def k120_3 : ACode := .seq (.region k120_o0) k120_2
@[simp, simp ↓] theorem k120_2r : sR k120_2 k120_o1 .ret := yR rfl
@[simp, simp ↓] theorem k120_3r : sR k120_3 k120_o0 k120_2 := yR rfl
noncomputable abbrev k120_C : Orc → Cx := mkC Tryd.prog [] 120 6 [.tmp 2]
theorem k120_of0 : OfP0 Tryd.prog Tryd.f120 120 6 k120_C k120_3 := @ofP0 _ _ _ _ _ _ _ _ Tryd.func120 (by decide +kernel) rfl (by kernel_rfl) rfl (by kernel_rfl)
theorem VS1_c (a : Int) (h : Heap) : ACalls Tryd.prog 120 [.int .i64 a] h (fun v h' => v = .bool (!(decide (0 ≤ a) && decide (a ≤ 9))) ∧ h' = h) := by
  refine k120_of0 rfl orcV_p fun I => ?_
  refine Run2.of I 1000 ?_
  simp -implicitDefEqProofs
abbrev k101_o0 : List AJ := [.o ⟨(some 2), none, false, .mv (.c (.bool false)), (some [0])⟩]
abbrev k101_o1 : List AJ := [.o ⟨(some 3), none, false, .mv (.t 0), none⟩, .o ⟨(some 4), none, false, .len (.t 3), none⟩, .o ⟨(some 5), none, false, .bin .geq (.t 4) (.c (.int .i64 1)), none⟩, .o ⟨(some 6), none, false, .mv (.t 5), none⟩, .o ⟨(some 7), (some (6, true)), false, .mv (.t 0), none⟩, .o ⟨(some 8), (some (6, true)), false, .len (.t 7), none⟩, .o ⟨(some 9), (some (6, true)), false, .bin .leq (.t 8) (.c (.int .i64 4)), none⟩, .o ⟨(some 10), none, false, .pick (.t 6) (.t 9) (.c (.bool false)), none⟩, .o ⟨(some 11), none, false, .mv (.t 10), none⟩, .o ⟨(some 12), (some (11, true)), false, .mv (.t 0), (some [0, 11, 12])⟩, .o ⟨(some 13), (some (11, true)), false, .call 31 [(.t 12)], none⟩, .o ⟨(some 14), none, false, .pick (.t 11) (.t 13) (.c (.bool false)), none⟩, .o ⟨(some 15), none, false, .mv (.t 14), none⟩, .o ⟨(some 16), (some (15, true)), false, .mv (.t 0), none⟩, .o ⟨(some 17), (some (15, true)), false, .call 58 [(.t 16), (.c (.fn 120 []))], none⟩, .o ⟨(some 18), (some (15, true)), false, .un .not (.t 17), none⟩, .o ⟨(some 19), none, false, .pick (.t 15) (.t 18) (.c (.bool false)), none⟩, .o ⟨(some 2), none, false, .mv (.t 19), (some [2])⟩]
def k101_2 : ACode := .seq (.region k101_o1) .ret
def k101_3 : ACode := .seq (.region k101_o0) k101_2
@[simp, simp ↓] theorem k101_2r : sR k101_2 k101_o1 .ret := yR rfl
@[simp, simp ↓] theorem k101_3r : sR k101_3 k101_o0 k101_2 := yR rfl
noncomputable abbrev k101_C : Orc → Cx := mkC Tryd.prog [] 101 20 [.tmp 2]
theorem k101_of0 : OfP0 Tryd.prog Tryd.f101 101 20 k101_C k101_3 := @ofP0 _ _ _ _ _ _ _ _ Tryd.func101 (by decide +kernel) rfl (by kernel_rfl) rfl (by kernel_rfl)
theorem validSm_s (s : List Int) (h : Heap) (hl : s.length ≤ 1048576) : ACalls Tryd.prog 101 [.snap 1 (s.map iv)] h (fun v h' => v = .bool (decide (smOk s)) ∧ h' = h) := by
  refine k101_of0 rfl orcV_p fun I => ?_
  have hc := ContainsFunc_s s 120 [] (fun a => !(decide (0 ≤ a) && decide (a ≤ 9))) h hl fun a ha => VS1_c a h
  have hany : (s.any fun a => !(decide (0 ≤ a) && decide (a ≤ 9))) = !decide (∀ v ∈ s, 0 ≤ v ∧ v ≤ 9) := by
    rw [Bool.eq_iff_iff]; simp
    constructor
    · rintro ⟨a, h1, h2⟩; exact ⟨a, h1, by omega⟩
    · rintro ⟨a, h1, h2⟩; exact ⟨a, h1, by omega⟩
  rw [hany] at hc
  by_cases h1 : 1 ≤ s.length
  · by_cases h2 : s.length ≤ 4
    · have h1' : (1 : Int) ≤ s.length := by omega
      have h2' : (s.length : Int) ≤ 4 := by omega
      by_cases h3 : riseS s
      · have e : smOk s ↔ ∀ v ∈ s, 0 ≤ v ∧ v ≤ 9 := by unfold smOk; simp [h1, h2, h3]
        refine Run2.of I 1000 ?_
        simp -implicitDefEqProofs [hl, h1', h2', h3]
        refine hc.mono ?_
        rintro v h' ⟨rfl, rfl⟩
        refine gK.go ?_
        simp -implicitDefEqProofs [e]
      · have e : ¬ smOk s := fun h => h3 h.2.1
        refine Run2.of I 1000 ?_
        simp -implicitDefEqProofs [hl, h1', h2', h3, e]
    · have h1' : (1 : Int) ≤ s.length := by omega
      have h2' : ¬ (s.length : Int) ≤ 4 := by omega
      have e : ¬ smOk s := fun h => h2 h.1.2
      refine Run2.of I 1000 ?_
      simp -implicitDefEqProofs [hl, h1', h2', e]
  · have h1' : ¬ (1 : Int) ≤ s.length := by omega
    have e : ¬ smOk s := fun h => h1 h.1.1
    refine Run2.of I 1000 ?_
    simp -implicitDefEqProofs [hl, h1', e]
noncomputable def o_validSm : List AV → Option (Prop × AV) := tab (fun (x : List Int) => match x with | s => [.snap 1 (s.map iv)]) (fun x => match x with | s => s.length ≤ 1048576) (fun x => match x with | s => .bool (decide (smOk s)))
@[simp] theorem o_validSm_e (s : List Int) : o_validSm [.snap 1 (s.map iv)] = some (s.length ≤ 1048576, .bool (decide (smOk s))) := tab_at (enc := fun (x : List Int) => match x with | s => [.snap 1 (s.map iv)]) (fun x y h => by
  simp at h; simp [h] <;> omega) _ _ s
theorem o_validSm_k : Knows Tryd.prog 101 o_validSm := tab_knows fun x hx h => by
  exact validSm_s x h hx
noncomputable def o_facesOf : List AV → Option (Prop × AV) := tab (fun (x : List Int) => match x with | s => [.snap 1 (s.map iv)]) (fun x => match x with | s => s.length ≤ 1048576) (fun x => match x with | s => .snap 1 ((faces s).map il))
@[simp] theorem o_facesOf_e (s : List Int) : o_facesOf [.snap 1 (s.map iv)] = some (s.length ≤ 1048576, .snap 1 ((faces s).map il)) := tab_at (enc := fun (x : List Int) => match x with | s => [.snap 1 (s.map iv)]) (fun x y h => by
  simp at h; simp [h] <;> omega) _ _ s
theorem o_facesOf_k : Knows Tryd.prog 104 o_facesOf := tab_knows fun x hx h => by
  exact facesOf_s x h hx
noncomputable def orcD : List (Nat × (List AV → Option (Prop × AV))) := (101, o_validSm) :: (104, o_facesOf) :: (102, o_cmpS) :: (106, o_indexOf) :: []
theorem orcD_p : Pure Tryd.prog (lk orcD) := (lk_pure o_validSm_k (lk_pure o_facesOf_k (lk_pure o_cmpS_k (lk_pure o_indexOf_k lk_pure0))))
@[simp] theorem orcD_l (b : Bool) (g : FuncId) (l : List AV) : lk orcD b g l = if g = 101 then o_validSm l else if g = 104 then o_facesOf l else if g = 102 then o_cmpS l else if g = 106 then o_indexOf l else none := nr rfl
theorem ssTot_take (rs : List (List Int)) (k : Nat) : ssTot (rs.take k) ≤ ssTot rs := by
  have := sumL_le rs k
  unfold ssTot
  simp
  omega
abbrev k105_o0 : List AJ := [.o ⟨(some 4), none, false, .mv (.c (.bool false)), (some [0, 1, 2])⟩]
abbrev k105_o1 : List AJ := [.o ⟨(some 5), none, false, .fieldA 0 (.t 1), none⟩, .o ⟨(some 6), none, false, .load 1 false (.t 5), none⟩, .o ⟨(some 7), none, false, .load 1 false (.t 2), none⟩, .o ⟨(some 8), none, false, .slice 1 (.t 6) none (some (.t 7)) none, none⟩, .o ⟨(some 9), none, false, .build [.nilsl] [(0, 1, (.t 8))], none⟩, .o ⟨(some 10), none, false, .mv (.t 0), none⟩, .o ⟨(some 11), none, false, .call 106 [(.t 9), (.t 10)], none⟩, .o ⟨(some 12), none, false, .bin .lss (.t 11) (.c (.int .i64 0)), none⟩, .o ⟨(some 4), none, false, .mv (.t 12), (some [4])⟩]
def k105_2 : ACode := .seq (.region k105_o1) .ret
def k105_3 : ACode := .seq (.region k105_o0) k105_2
@[simp, simp ↓] theorem k105_2r : sR k105_2 k105_o1 .ret := yR rfl
@[simp, simp ↓] theorem k105_3r : sR k105_3 k105_o0 k105_2 := yR rfl
noncomputable abbrev k105_C : Orc → Cx := mkC Tryd.prog [] 105 13 [.tmp 4]
theorem k105_of0 : OfP0 Tryd.prog Tryd.f105 105 13 k105_C k105_3 := @ofP0 _ _ _ _ _ _ _ _ Tryd.func105 (by decide +kernel) rfl (by kernel_rfl) rfl (by kernel_rfl)
theorem VC1_c (f : List Int) (rs : List (List Int)) (k : Nat) (h : Heap) (hl : ssTot rs ≤ 1048576) (hk : k ≤ rs.length) (hs : sortS (rs.take k)) : ACalls Tryd.prog 105 [.snap 1 (f.map iv), .ip [.snap 1 (rs.map il)], .ip [.int .i64 k]] h (fun v h' => v = .bool (!decide (f ∈ rs.take k)) ∧ h' = h) := by
  refine k105_of0 rfl noPure fun I => ?_
  refine Run2.of I 1000 ?_
  simp -implicitDefEqProofs
  have ht := ssTot_take rs k
  rw [← List.map_take]
  refine ⟨hk, ?_⟩
  refine (indexOf_s (rs.take k) f h (by omega) hs).mono ?_
  rintro v h' ⟨rfl, rfl⟩
  refine gK.go ?_
  simp -implicitDefEqProofs [ixS_neg]
theorem faces_length (s : List Int) : (faces s).length ≤ s.length := by
  unfold faces; split <;> simp
abbrev k84_o0 : List AJ := [.o ⟨(some 1), none, false, .box false 1 (.t 0), none⟩, .o ⟨(some 2), none, false, .mv (.c (.bool false)), (some [1])⟩]
abbrev k84_o1 : List AJ := [.o ⟨(some 5), none, false, .fieldA 0 (.t 1), none⟩, .o ⟨(some 6), none, false, .load 1 false (.t 5), none⟩, .o ⟨(some 7), none, false, .len (.t 6), none⟩, .o ⟨(some 8), none, false, .mv (.c (.int .i64 0)), (some [1, 6, 7, 8])⟩]
abbrev k84_o2 : List AJ := [.o ⟨(some 9), none, false, .bin .lss (.t 8) (.t 7), (some [1, 6, 7, 8, 9])⟩]
abbrev k84_o3 : List AJ := [.o ⟨(some 10), none, false, .mv (.t 8), none⟩, .o ⟨(some 11), none, false, .idxA 1 (.t 6) (.t 8), none⟩, .o ⟨(some 12), none, false, .load 1 false (.t 11), none⟩, .v 3 1 (.int .i64 0) [] (.t 10) none, .o ⟨(some 4), none, false, .mv (.t 12), (some [1, 3, 4, 6, 7, 8])⟩]
abbrev k84_o4 : List AJ := [.o ⟨(some 13), none, false, .mv (.t 4), none⟩, .o ⟨(some 14), none, false, .call 101 [(.t 13)], none⟩, .o ⟨(some 15), none, false, .un .not (.t 14), none⟩, .o ⟨(some 16), none, false, .mv (.t 15), none⟩, .o ⟨(some 17), (some (16, false)), false, .load 1 false (.t 3), none⟩, .o ⟨(some 18), (some (16, false)), false, .bin .gtr (.t 17) (.c (.int .i64 0)), none⟩, .o ⟨(some 19), (some (16, false)), false, .mv (.t 18), none⟩, .o ⟨(some 20), (some (19, true)), false, .fieldA 0 (.t 1), none⟩, .o ⟨(some 21), (some (19, true)), false, .load 1 false (.t 20), (some [1, 3, 4, 6, 7, 8, 16, 19, 21])⟩, .o ⟨(some 22), (some (19, true)), false, .load 1 false (.t 3), none⟩, .o ⟨(some 23), (some (19, true)), true, .bin .sub (.t 22) (.c (.int .i64 1)), none⟩, .o ⟨(some 24), (some (19, true)), false, .idxA 1 (.t 21) (.t 23), none⟩, .o ⟨(some 25), (some (19, true)), false, .load 1 false (.t 24), none⟩, .o ⟨(some 26), (some (19, true)), false, .mv (.t 4), none⟩, .o ⟨(some 27), (some (19, true)), false, .call 102 [(.t 25), (.t 26)], none⟩, .o ⟨(some 28), (some (19, true)), false, .bin .geq (.t 27) (.c (.int .i64 0)), (some [1, 3, 4, 6, 7, 8, 16, 19, 28])⟩, .o ⟨(some 29), (some (16, false)), false, .pick (.t 19) (.t 28) (.c (.bool false)), none⟩, .o ⟨(some 30), none, false, .pick (.t 16) (.c (.bool true)) (.t 29), (some [1, 3, 4, 6, 7, 8, 30])⟩]
abbrev k84_o5 : List AJ := [.o ⟨(some 2), none, false, .mv (.c (.bool false)), (some [2])⟩]
def k84_7 : ACode := .seq (.region k84_o5) .ret
def k84_8 : ACode := .cond (.t 30) k84_7 .skip
def k84_9 : ACode := .seq (.region k84_o4) k84_8
abbrev k84_o6 : List AJ := [.o ⟨(some 31), none, false, .mv (.t 4), none⟩, .o ⟨(some 32), none, false, .call 104 [(.t 31)], none⟩, .o ⟨(some 33), none, false, .mkfn 105 [(.t 1), (.t 3)], none⟩, .o ⟨(some 34), none, false, .call 103 [(.t 32), (.t 33)], (some [1, 6, 7, 8, 34])⟩]
abbrev k84_o7 : List AJ := [.o ⟨(some 2), none, false, .mv (.c (.bool false)), (some [2])⟩]
def k84_12 : ACode := .seq (.region k84_o7) .ret
def k84_13 : ACode := .cond (.t 34) k84_12 .skip
def k84_14 : ACode := .seq (.region k84_o6) k84_13
def k84_15 : ACode := .seq k84_9 k84_14
def k84_16 : ACode := .seq (.region k84_o3) k84_15
abbrev k84_o8 : List AJ := [.o ⟨(some 35), none, true, .bin .add (.t 8) (.c (.int .i64 1)), none⟩, .o ⟨(some 8), none, false, .mv (.t 35), (some [1, 6, 7, 8])⟩]
def k84_18 : ACode := .region k84_o8
def k84_19 : ACode := .seq (.block 1 k84_16) k84_18
def k84_20 : ACode := .seq (.cond (.t 9) .skip (.exit 0)) k84_19
def k84_21 : ACode := .seq (.region k84_o2) k84_20
def k84_22 : ACode := .loop k84_21
def k84_23 : ACode := .block 0 k84_22
def k84_24 : ACode := .seq (.region k84_o1) k84_23
abbrev k84_o9 : List AJ := [.o ⟨(some 36), none, false, .fieldA 0 (.t 1), none⟩, .o ⟨(some 37), none, false, .load 1 false (.t 36), none⟩, .o ⟨(some 38), none, false, .len (.t 37), none⟩, .o ⟨(some 39), none, false, .bin .leq (.t 38) (.c (.int .i64 48)), none⟩, .o ⟨(some 2), none, false, .mv (.t 39), (some [2])⟩]
def k84_26 : ACode := .seq (.region k84_o9) .ret
def k84_27 : ACode := .seq k84_24 k84_26
def k84_28 : ACode := .seq (.region k84_o0) k84_27
@[simp, simp ↓] theorem k84_7r : sR k84_7 k84_o5 .ret := yR rfl
@[simp, simp ↓] theorem k84_8r : rC k84_8 (.t 30) k84_7 .skip := zC rfl
@[simp, simp ↓] theorem k84_9r : sR k84_9 k84_o4 k84_8 := yR rfl
@[simp, simp ↓] theorem k84_12r : sR k84_12 k84_o7 .ret := yR rfl
@[simp, simp ↓] theorem k84_13r : rC k84_13 (.t 34) k84_12 .skip := zC rfl
@[simp, simp ↓] theorem k84_14r : sR k84_14 k84_o6 k84_13 := yR rfl
@[simp, simp ↓] theorem k84_15r : rS k84_15 k84_9 k84_14 := zS rfl
@[simp, simp ↓] theorem k84_16r : sR k84_16 k84_o3 k84_15 := yR rfl
@[simp, simp ↓] theorem k84_18r : rR k84_18 k84_o8 := zR rfl
@[simp, simp ↓] theorem k84_19r : sB k84_19 1 k84_16 k84_18 := yB rfl
@[simp, simp ↓] theorem k84_20r : sC k84_20 (.t 9) .skip (.exit 0) k84_19 := yC rfl
@[simp, simp ↓] theorem k84_21r : sR k84_21 k84_o2 k84_20 := yR rfl
@[simp, simp ↓] theorem k84_22r : rL k84_22 k84_21 := zL rfl
@[simp, simp ↓] theorem k84_23r : rB k84_23 0 k84_22 := zB rfl
@[simp, simp ↓] theorem k84_24r : sR k84_24 k84_o1 k84_23 := yR rfl
@[simp, simp ↓] theorem k84_26r : sR k84_26 k84_o9 .ret := yR rfl
@[simp, simp ↓] theorem k84_27r : rS k84_27 k84_24 k84_26 := zS rfl
@[simp, simp ↓] theorem k84_28r : sR k84_28 k84_o0 k84_27 := yR rfl
noncomputable abbrev k84_C : Orc → Cx := mkC Tryd.prog [3] 84 40 [.tmp 2]
theorem k84_of0 : OfP0 Tryd.prog Tryd.f84 84 40 k84_C k84_28 := @ofP0 _ _ _ _ _ _ _ _ Tryd.func84 (by decide +kernel) rfl (by kernel_rfl) rfl (by kernel_rfl)
theorem validCx_s (rs : List (List Int)) (h : Heap) (hl : ssTot rs ≤ 1048576) : ACalls Tryd.prog 84 [cx rs] h (fun v h' => v = .bool (decide (cxOk rs)) ∧ h' = h) := by
  have hf := fit_of_tot hl
  have hn := hf.1
  refine k84_of0 rfl orcD_p fun I => ?_
  refine Run2.of I 1000 ?_
  simp -implicitDefEqProofs
  refine Run2.loopE (fun (i : Nat) => [(1, .ip [.snap 1 (rs.map il)]), (6, .snap 1 (rs.map il)), (7, .int .i64 rs.length), (8, .int .i64 i)]) (fun i => h) (fun i => rs.length - i) (fun i => i ≤ rs.length ∧ ∀ j (hj : j < rs.length), j < i → cxAtB rs j hj) 0 (by simp) rfl ⟨Nat.zero_le _, fun _ _ h => by omega⟩ fun i hi ih => ?_
  have hso : sortS (rs.take i) := fun j hj => by
    simp only [List.length_take] at hj
    simp only [List.getElem_take]
    exact (hi.2 (j + 1) (by omega) (by omega)).2.1 (by omega)
  by_cases hlt : i < rs.length
  · have hr := hf.2 _ (List.getElem_mem hlt)
    have hbad : ¬ cxAtB rs i hlt → ¬ cxOk rs := fun h1 h2 => h1 (((cxOk_iff rs).1 h2).1 i hlt)
    have go := fun (h1 : cxAtB rs i hlt) => ih (i + 1) ⟨by omega, fun j hj hji => by
      rcases Nat.lt_or_ge j i with h | h
      · exact hi.2 j hj h
      · obtain rfl : j = i := by omega
        exact h1⟩ (by omega)
    clear ih
    by_cases h1 : smOk rs[i]
    · have hfl := faces_length rs[i]
      have hcf := ContainsFuncS_s (faces rs[i]) 105 [.ip [.snap 1 (rs.map il)], .ip [.int .i64 i]] (fun f => !decide (f ∈ rs.take i)) h (by omega) fun f hf => VC1_c f rs i h hl (by omega) hso
      have hany : ((faces rs[i]).any fun f => !decide (f ∈ rs.take i)) = true ↔ ¬ ∀ f ∈ faces rs[i], f ∈ rs.take i := by simp
      generalize hB : ((faces rs[i]).any fun f => !decide (f ∈ rs.take i)) = B at hcf hany
      have step : ∀ (hcm : 0 < i → cmpS rs[i - 1] rs[i] < 0), cxAtB rs i hlt ↔ ∀ f ∈ faces rs[i], f ∈ rs.take i := fun hcm => ⟨fun h => h.2.2, fun h => ⟨h1, hcm, h⟩⟩
      cases i with
      | zero =>
        have step := step (by simp)
        rw [← step] at hany
        refine Run2.of I 1000 ?_
        simp -implicitDefEqProofs [hlt, hr, h1]
        refine hcf.mono ?_
        rintro v h' ⟨rfl, rfl⟩
        refine gK.go ?_
        cases B with
        | true =>
          have hb := hbad (hany.1 rfl)
          simp -implicitDefEqProofs [hb]
        | false =>
          have := go (Classical.byContradiction fun hn => by simpa using hany.2 hn)
          simp -implicitDefEqProofs
          simpa using this
      | succ i =>
        have hlt' : i < rs.length := by omega
        have hr' := hf.2 _ (List.getElem_mem hlt')
        have hc : ((i : Int) + 1 - 1).toNat = i := by omega
        by_cases h2 : cmpS rs[i] rs[i + 1] < 0
        · have step := step (fun _ => h2)
          have h2' : ¬ 0 ≤ cmpS rs[i] rs[i + 1] := by omega
          rw [← step] at hany
          have hltI : (i : Int) + 1 < rs.length := by omega
          have hcf' : ACalls Tryd.prog _ [_, .fn 105 [_, .ip [.int .i64 ((i : Int) + 1)]]] h _ := hcf
          refine Run2.of I 1000 ?_
          simp -implicitDefEqProofs [hlt, hlt', hr, hr', h1, hc, h2', hltI]
          refine ⟨by omega, by omega, ?_⟩
          refine hcf.mono ?_
          rintro v h' ⟨rfl, rfl⟩
          refine gK.go ?_
          cases B with
          | true =>
            have hb := hbad (hany.1 rfl)
            simp -implicitDefEqProofs [hb]
          | false =>
            have := go (Classical.byContradiction fun hn => by simpa using hany.2 hn)
            simp -implicitDefEqProofs
            refine ⟨by omega, by simpa using this⟩
        · have hb := hbad fun h => h2 (h.2.1 (by omega))
          have h2' : 0 ≤ cmpS rs[i] rs[i + 1] := by omega
          refine Run2.of I 1000 ?_
          have hltI : (i : Int) + 1 < rs.length := by omega
          simp -implicitDefEqProofs [hlt, hlt', hr, hr', h1, hc, h2', hb, hltI]
          omega
    · have hb := hbad fun h => h1 h.1
      refine Run2.of I 1000 ?_
      simp -implicitDefEqProofs [hlt, hr, h1, hb]
  · obtain rfl : i = rs.length := by omega
    have e : cxOk rs ↔ rs.length ≤ 48 := by
      rw [cxOk_iff]
      exact ⟨fun h => h.2, fun h => ⟨fun j hj => hi.2 j hj hj, h⟩⟩
    refine Run2.of I 1000 ?_
    simp -implicitDefEqProofs [e]
    omega

noncomputable def o_validCx : List AV → Option (Prop × AV) := tab (fun (x : LS) => match x with | rs => [.agg [.snap 1 (rs.map il)]]) (fun x => match x with | rs => ssTot rs ≤ 1048576) (fun x => match x with | rs => .bool (decide (cxOk rs)))
@[simp] theorem o_validCx_e (rs : LS) : o_validCx [.agg [.snap 1 (rs.map il)]] = some (ssTot rs ≤ 1048576, .bool (decide (cxOk rs))) := tab_at (enc := fun (x : LS) => match x with | rs => [.agg [.snap 1 (rs.map il)]]) (fun x y h => by
  simp at h; simp [h] <;> omega) _ _ rs
theorem o_validCx_k : Knows Tryd.prog 84 o_validCx := tab_knows fun x hx h => by
  exact validCx_s x h hx
/-! ## The reference -/
noncomputable def orcS1 : List (Nat × (List AV → Option (Prop × AV))) := (56, o_l00Rises) :: (75, o_l00In) :: []
theorem orcS1_p : Pure Tryd.prog (lk orcS1) := (lk_pure o_l00Rises_k (lk_pure o_l00In_k lk_pure0))
@[simp] theorem orcS1_l (b : Bool) (g : FuncId) (l : List AV) : lk orcS1 b g l = if g = 56 then o_l00Rises l else if g = 75 then o_l00In l else none := nr rfl
abbrev k96_o0 : List AJ := [.o ⟨(some 2), none, false, .mv (.c (.bool false)), (some [0])⟩]
abbrev k96_o1 : List AJ := [.o ⟨(some 3), none, false, .mv (.t 0), none⟩, .o ⟨(some 4), none, false, .len (.t 3), none⟩, .o ⟨(some 5), none, false, .call 75 [(.t 4), (.c (.int .i64 1)), (.c (.int .i64 4))], none⟩, .o ⟨(some 6), none, false, .mv (.t 5), none⟩, .o ⟨(some 7), (some (6, true)), false, .mv (.t 0), none⟩, .o ⟨(some 8), (some (6, true)), false, .call 56 [(.t 7), (.c (.int .i64 0)), (.c (.int .i64 9))], none⟩, .o ⟨(some 9), none, false, .pick (.t 6) (.t 8) (.c (.bool false)), none⟩, .o ⟨(some 2), none, false, .mv (.t 9), (some [2])⟩]
def k96_2 : ACode := .seq (.region k96_o1) .ret
def k96_3 : ACode := .seq (.region k96_o0) k96_2
@[simp, simp ↓] theorem k96_2r : sR k96_2 k96_o1 .ret := yR rfl
@[simp, simp ↓] theorem k96_3r : sR k96_3 k96_o0 k96_2 := yR rfl
noncomputable abbrev k96_C : Orc → Cx := mkC Tryd.prog [] 96 10 [.tmp 2]
theorem k96_of0 : OfP0 Tryd.prog Tryd.f96 96 10 k96_C k96_3 := @ofP0 _ _ _ _ _ _ _ _ Tryd.func96 (by decide +kernel) rfl (by kernel_rfl) rfl (by kernel_rfl)
theorem l05Simplex_s (s : List Int) (h : Heap) (hl : s.length ≤ 1048576) : ACalls Tryd.prog 96 [.snap 1 (s.map iv)] h (fun v h' => v = .bool (decide (smOk s)) ∧ h' = h) := by
  refine k96_of0 rfl orcS1_p fun I => ?_
  have e : smOk s ↔ (1 ≤ s.length ∧ s.length ≤ 4) ∧ btw s 0 9 ∧ riseS s := by
    unfold smOk btw
    constructor
    · rintro ⟨h1, h2, h3⟩; exact ⟨h1, h3, h2⟩
    · rintro ⟨h1, h2, h3⟩; exact ⟨h1, h3, h2⟩
  by_cases h1 : 1 ≤ s.length ∧ s.length ≤ 4
  · have h1' : (1 : Int) ≤ s.length := by omega
    have h2' : (s.length : Int) ≤ 4 := by omega
    have e2 : smOk s ↔ btw s 0 9 ∧ riseS s := by rw [e]; simp [h1]
    refine Run2.of I 1000 ?_
    simp -implicitDefEqProofs [hl, h1', h2', e2]
  · have h1' : ¬ ((1 : Int) ≤ s.length ∧ (s.length : Int) ≤ 4) := by omega
    have e2 : ¬ smOk s := fun h => h1 h.1
    have e3 : (decide ((1 : Int) ≤ s.length) && decide ((s.length : Int) ≤ 4)) = false := by
      rw [Bool.eq_false_iff]; simpa using h1'
    refine Run2.of I 1000 ?_
    simp -implicitDefEqProofs [hl, e2, e3]
noncomputable def o_l05Simplex : List AV → Option (Prop × AV) := tab (fun (x : List Int) => match x with | s => [.snap 1 (s.map iv)]) (fun x => match x with | s => s.length ≤ 1048576) (fun x => match x with | s => .bool (decide (smOk s)))
@[simp] theorem o_l05Simplex_e (s : List Int) : o_l05Simplex [.snap 1 (s.map iv)] = some (s.length ≤ 1048576, .bool (decide (smOk s))) := tab_at (enc := fun (x : List Int) => match x with | s => [.snap 1 (s.map iv)]) (fun x y h => by
  simp at h; simp [h] <;> omega) _ _ s
theorem o_l05Simplex_k : Knows Tryd.prog 96 o_l05Simplex := tab_knows fun x hx h => by
  exact l05Simplex_s x h hx
abbrev k117_o0 : List AJ := [.o ⟨(some 4), none, false, .mv (.c (.bool false)), (some [0, 1])⟩]
abbrev k117_o1 : List AJ := [.o ⟨(some 6), none, false, .mv (.t 0), none⟩, .o ⟨(some 7), none, false, .len (.t 6), none⟩, .o ⟨(some 8), none, false, .mv (.t 1), none⟩, .o ⟨(some 9), none, false, .len (.t 8), none⟩, .o ⟨(some 10), none, false, .bin .neq (.t 7) (.t 9), (some [0, 1, 10])⟩]
abbrev k117_o2 : List AJ := [.o ⟨(some 4), none, false, .mv (.c (.bool false)), (some [4])⟩]
def k117_3 : ACode := .seq (.region k117_o2) .ret
def k117_4 : ACode := .cond (.t 10) k117_3 .skip
def k117_5 : ACode := .seq (.region k117_o1) k117_4
abbrev k117_o3 : List AJ := [.o ⟨(some 5), none, false, .mv (.c (.int .i64 0)), (some [0, 1, 5])⟩]
abbrev k117_o4 : List AJ := [.o ⟨(some 11), none, false, .mv (.t 5), none⟩, .o ⟨(some 12), none, false, .mv (.t 0), none⟩, .o ⟨(some 13), none, false, .len (.t 12), none⟩, .o ⟨(some 14), none, false, .bin .lss (.t 11) (.t 13), (some [0, 1, 5, 14])⟩]
def k117_8 : ACode := .cond (.t 14) .skip (.exit 0)
def k117_9 : ACode := .seq (.region k117_o4) k117_8
abbrev k117_o5 : List AI := [⟨(some 17), none, false, .mv (.t 0), none⟩, ⟨(some 18), none, false, .mv (.t 5), none⟩, ⟨(some 19), none, false, .idxA 1 (.t 17) (.t 18), none⟩, ⟨(some 20), none, false, .load 1 false (.t 19), none⟩, ⟨(some 21), none, false, .mv (.t 1), none⟩, ⟨(some 22), none, false, .mv (.t 5), none⟩, ⟨(some 23), none, false, .idxA 1 (.t 21) (.t 22), none⟩, ⟨(some 24), none, false, .load 1 false (.t 23), none⟩, ⟨(some 25), none, false, .bin .neq (.t 20) (.t 24), (some [0, 1, 5, 25])⟩]
abbrev k117_o6 : List AJ := [.o ⟨(some 4), none, false, .mv (.c (.bool false)), (some [4])⟩]
def k117_12 : ACode := .seq (.region k117_o6) .ret
def k117_13 : ACode := .cond (.t 25) k117_12 .skip
def k117_14 : ACode := .seq (.draw k117_o5 [] rfl) k117_13
abbrev k117_o7 : List AJ := [.o ⟨(some 15), none, false, .mv (.t 5), none⟩, .o ⟨(some 16), none, true, .bin .add (.t 15) (.c (.int .i64 1)), none⟩, .o ⟨(some 5), none, false, .mv (.t 16), (some [0, 1, 5])⟩]
def k117_16 : ACode := .region k117_o7
def k117_17 : ACode := .seq (.block 1 k117_14) k117_16
def k117_18 : ACode := .seq k117_9 k117_17
def k117_19 : ACode := .loop k117_18
def k117_20 : ACode := .block 0 k117_19
def k117_21 : ACode := .seq (.region k117_o3) k117_20
abbrev k117_o8 : List AJ := [.o ⟨(some 4), none, false, .mv (.c (.bool true)), (some [4])⟩]
def k117_23 : ACode := .seq (.region k117_o8) .ret
def k117_24 : ACode := .seq k117_21 k117_23
def k117_25 : ACode := .seq k117_5 k117_24
def k117_26 : ACode := .seq (.region k117_o0) k117_25
@[simp, simp ↓] theorem k117_3r : sR k117_3 k117_o2 .ret := yR rfl
@[simp, simp ↓] theorem k117_4r : rC k117_4 (.t 10) k117_3 .skip := zC rfl
@[simp, simp ↓] theorem k117_5r : sR k117_5 k117_o1 k117_4 := yR rfl
@[simp, simp ↓] theorem k117_8r : rC k117_8 (.t 14) .skip (.exit 0) := zC rfl
@[simp, simp ↓] theorem k117_9r : sR k117_9 k117_o4 k117_8 := yR rfl
@[simp, simp ↓] theorem k117_12r : sR k117_12 k117_o6 .ret := yR rfl
@[simp, simp ↓] theorem k117_13r : rC k117_13 (.t 25) k117_12 .skip := zC rfl
@[simp, simp ↓] theorem k117_14r : sD k117_14 k117_o5 [] k117_13 := yD rfl
@[simp, simp ↓] theorem k117_16r : rR k117_16 k117_o7 := zR rfl
@[simp, simp ↓] theorem k117_17r : sB k117_17 1 k117_14 k117_16 := yB rfl
@[simp, simp ↓] theorem k117_18r : rS k117_18 k117_9 k117_17 := zS rfl
@[simp, simp ↓] theorem k117_19r : rL k117_19 k117_18 := zL rfl
@[simp, simp ↓] theorem k117_20r : rB k117_20 0 k117_19 := zB rfl
@[simp, simp ↓] theorem k117_21r : sR k117_21 k117_o3 k117_20 := yR rfl
@[simp, simp ↓] theorem k117_23r : sR k117_23 k117_o8 .ret := yR rfl
@[simp, simp ↓] theorem k117_24r : rS k117_24 k117_21 k117_23 := zS rfl
@[simp, simp ↓] theorem k117_25r : rS k117_25 k117_5 k117_24 := zS rfl
@[simp, simp ↓] theorem k117_26r : sR k117_26 k117_o0 k117_25 := yR rfl
noncomputable abbrev k117_C : Orc → Cx := mkC Tryd.prog [] 117 26 [.tmp 4]
theorem k117_of0 : OfP0 Tryd.prog Tryd.f117 117 26 k117_C k117_26 := @ofP0 _ _ _ _ _ _ _ _ Tryd.func117 (by decide +kernel) rfl (by kernel_rfl) rfl (by kernel_rfl)
theorem l00Same_s (l m : List Int) (h : Heap) (hl : l.length ≤ 1048576) : ACalls Tryd.prog 117 [.snap 1 (l.map iv), .snap 1 (m.map iv)] h (fun v h' => v = .bool (decide (l = m)) ∧ h' = h) := by
  refine k117_of0 rfl noPure fun I => ?_
  refine Run2.of I 1000 ?_
  simp -implicitDefEqProofs
  refine ⟨by rintro hne rfl; exact hne rfl, fun hlen => ?_⟩
  refine Run2.loop (fun i => [(0, .snap 1 (l.map iv)), (1, .snap 1 (m.map iv)), (5, .int .i64 (i : Nat))]) (fun i => h) (fun i => l.length - i) (fun i => i ≤ l.length ∧ l.take i = m.take i) 0 (by simp) fun i hi ih => ?_
  by_cases hlt : i < l.length
  · have hlt' : i < m.length := by omega
    refine Run2.of I 1000 ?_
    simp -implicitDefEqProofs [hlt, hlt']
    constructor
    · rintro hne rfl
      exact hne rfl
    · intro he
      refine ⟨by omega, ?_⟩
      have := ih (i + 1) ⟨by omega, by rw [List.take_succ_eq_append_getElem hlt, List.take_succ_eq_append_getElem hlt', hi.2, he]⟩ (by omega)
      simpa using this
  · refine Run2.of I 1000 ?_
    simp -implicitDefEqProofs [hlt]
    have : i = l.length := by omega
    have h2 := hi.2
    rw [List.take_of_length_le (by omega), List.take_of_length_le (by omega)] at h2
    exact h2
noncomputable def o_l00Same : List AV → Option (Prop × AV) := tab (fun (x : List Int × List Int) => match x with | (l, m) => [.snap 1 (l.map iv), .snap 1 (m.map iv)]) (fun x => match x with | (l, m) => l.length ≤ 1048576) (fun x => match x with | (l, m) => .bool (decide (l = m)))
@[simp] theorem o_l00Same_e (l : List Int) (m : List Int) : o_l00Same [.snap 1 (l.map iv), .snap 1 (m.map iv)] = some (l.length ≤ 1048576, .bool (decide (l = m))) := tab_at (enc := fun (x : List Int × List Int) => match x with | (l, m) => [.snap 1 (l.map iv), .snap 1 (m.map iv)]) (fun x y h => by
  obtain ⟨l1, m1⟩ := x; obtain ⟨l2, m2⟩ := y; simp at h; simp [h] <;> omega) _ _ (l, m)
theorem o_l00Same_k : Knows Tryd.prog 117 o_l00Same := tab_knows fun x hx h => by
  obtain ⟨l, m⟩ := x; exact l00Same_s l m h hx
noncomputable def orcS2 : List (Nat × (List AV → Option (Prop × AV))) := (117, o_l00Same) :: []
theorem orcS2_p : Pure Tryd.prog (lk orcS2) := (lk_pure o_l00Same_k lk_pure0)
@[simp] theorem orcS2_l (b : Bool) (g : FuncId) (l : List AV) : lk orcS2 b g l = if g = 117 then o_l00Same l else none := nr rfl
abbrev k98_o0 : List AJ := [.o ⟨(some 4), none, false, .mv (.c (.int .i64 0)), (some [0, 1])⟩]
abbrev k98_o1 : List AJ := [.o ⟨(some 5), none, false, .mv (.c (.int .i64 0)), (some [0, 1, 5])⟩]
abbrev k98_o2 : List AJ := [.o ⟨(some 6), none, false, .mv (.t 5), none⟩, .o ⟨(some 7), none, false, .mv (.t 0), none⟩, .o ⟨(some 8), none, false, .nilchk (.t 7), none⟩, .o ⟨(some 9), none, false, .fieldA 0 (.t 8), none⟩, .o ⟨(some 10), none, false, .load 1 false (.t 9), none⟩, .o ⟨(some 11), none, false, .len (.t 10), none⟩, .o ⟨(some 12), none, false, .bin .lss (.t 6) (.t 11), (some [0, 1, 5, 12])⟩]
def k98_3 : ACode := .cond (.t 12) .skip (.exit 0)
def k98_4 : ACode := .seq (.region k98_o2) k98_3
abbrev k98_o3 : List AJ := [.o ⟨(some 15), none, false, .mv (.t 0), none⟩, .o ⟨(some 16), none, false, .nilchk (.t 15), none⟩, .o ⟨(some 17), none, false, .fieldA 0 (.t 16), none⟩, .o ⟨(some 18), none, false, .load 1 false (.t 17), none⟩, .o ⟨(some 19), none, false, .mv (.t 5), none⟩, .o ⟨(some 20), none, false, .idxA 1 (.t 18) (.t 19), none⟩, .o ⟨(some 21), none, false, .load 1 false (.t 20), none⟩, .o ⟨(some 22), none, false, .mv (.t 1), none⟩, .o ⟨(some 23), none, false, .call 117 [(.t 21), (.t 22)], (some [0, 1, 5, 23])⟩]
abbrev k98_o4 : List AJ := [.o ⟨(some 24), none, false, .mv (.t 5), none⟩, .o ⟨(some 4), none, false, .mv (.t 24), (some [4])⟩]
def k98_7 : ACode := .seq (.region k98_o4) .ret
def k98_8 : ACode := .cond (.t 23) k98_7 .skip
def k98_9 : ACode := .seq (.region k98_o3) k98_8
abbrev k98_o5 : List AJ := [.o ⟨(some 13), none, false, .mv (.t 5), none⟩, .o ⟨(some 14), none, true, .bin .add (.t 13) (.c (.int .i64 1)), none⟩, .o ⟨(some 5), none, false, .mv (.t 14), (some [0, 1, 5])⟩]
def k98_11 : ACode := .region k98_o5
def k98_12 : ACode := .seq (.block 1 k98_9) k98_11
def k98_13 : ACode := .seq k98_4 k98_12
def k98_14 : ACode := .loop k98_13
def k98_15 : ACode := .block 0 k98_14
def k98_16 : ACode := .seq (.region k98_o1) k98_15
abbrev k98_o6 : List AJ := [.o ⟨(some 4), none, false, .mv (.c (.int .i64 (-1))), (some [4])⟩]
def k98_18 : ACode := .seq (.region k98_o6) .ret
def k98_19 : ACode := .seq k98_16 k98_18
def k98_20 : ACode := .seq (.region k98_o0) k98_19
@[simp, simp ↓] theorem k98_3r : rC k98_3 (.t 12) .skip (.exit 0) := zC rfl
@[simp, simp ↓] theorem k98_4r : sR k98_4 k98_o2 k98_3 := yR rfl
@[simp, simp ↓] theorem k98_7r : sR k98_7 k98_o4 .ret := yR rfl
@[simp, simp ↓] theorem k98_8r : rC k98_8 (.t 23) k98_7 .skip := zC rfl
@[simp, simp ↓] theorem k98_9r : sR k98_9 k98_o3 k98_8 := yR rfl
@[simp, simp ↓] theorem k98_11r : rR k98_11 k98_o5 := zR rfl
@[simp, simp ↓] theorem k98_12r : sB k98_12 1 k98_9 k98_11 := yB rfl
@[simp, simp ↓] theorem k98_13r : rS k98_13 k98_4 k98_12 := zS rfl
@[simp, simp ↓] theorem k98_14r : rL k98_14 k98_13 := zL rfl
@[simp, simp ↓] theorem k98_15r : rB k98_15 0 k98_14 := zB rfl
@[simp, simp ↓] theorem k98_16r : sR k98_16 k98_o1 k98_15 := yR rfl
@[simp, simp ↓] theorem k98_18r : sR k98_18 k98_o6 .ret := yR rfl
@[simp, simp ↓] theorem k98_19r : rS k98_19 k98_16 k98_18 := zS rfl
@[simp, simp ↓] theorem k98_20r : sR k98_20 k98_o0 k98_19 := yR rfl
noncomputable abbrev k98_C : Orc → Cx := mkC Tryd.prog [] 98 25 [.tmp 4]
theorem k98_of0 : OfP0 Tryd.prog Tryd.f98 98 25 k98_C k98_20 := @ofP0 _ _ _ _ _ _ _ _ Tryd.func98 (by decide +kernel) rfl (by kernel_rfl) rfl (by kernel_rfl)
theorem l05Find_s (rs : List (List Int)) (e : List AV) (s : List Int) (h : Heap) (hl : ssTot rs ≤ 1048576) : ACalls Tryd.prog 98 [.ip (.snap 1 (rs.map il) :: e), .snap 1 (s.map iv)] h (fun v h' => v = .int .i64 (ixS rs s) ∧ h' = h) := by
  have hf := fit_of_tot hl
  have hn := hf.1
  refine k98_of0 rfl orcS2_p fun I => ?_
  refine Run2.of I 1000 ?_
  simp -implicitDefEqProofs
  refine Run2.loopE (fun (i : Nat) => [(0, .ip (.snap 1 (rs.map il) :: e)), (1, .snap 1 (s.map iv)), (5, .int .i64 i)]) (fun i => h) (fun i => rs.length - i) (fun i => i ≤ rs.length ∧ ∀ j (hj : j < rs.length), j < i → rs[j] ≠ s) 0 (by simp) rfl ⟨Nat.zero_le _, fun _ _ h => by omega⟩ fun i hi ih => ?_
  by_cases hlt : i < rs.length
  · have hr := hf.2 _ (List.getElem_mem hlt)
    have go := fun (h1 : rs[i] ≠ s) => ih (i + 1) ⟨by omega, fun j hj hji => by
      rcases Nat.lt_or_ge j i with h | h
      · exact hi.2 j hj h
      · obtain rfl : j = i := by omega
        exact h1⟩ (by omega)
    have hat := fun (h1 : rs[i] = s) => ixS_at hlt h1 hi.2
    clear ih
    refine Run2.of I 1000 ?_
    simp -implicitDefEqProofs [hlt, hr]
    refine ⟨fun h => (hat h).symm, fun h => ⟨by omega, by simpa using go h⟩⟩
  · obtain rfl : i = rs.length := by omega
    have hno := ixS_none (rs := rs) (s := s) fun hm => by
      obtain ⟨j, hj, e'⟩ := List.mem_iff_getElem.1 hm
      exact hi.2 j hj hj e'
    refine Run2.of I 1000 ?_
    simp -implicitDefEqProofs
    exact hno.symm
noncomputable def o_l05Find : List AV → Option (Prop × AV) := tab (fun (x : LS × List AV × List Int) => match x with | (rs, e, s) => [.ip (.snap 1 (rs.map il) :: e), .snap 1 (s.map iv)]) (fun x => match x with | (rs, e, s) => ssTot rs ≤ 1048576) (fun x => match x with | (rs, e, s) => .int .i64 (ixS rs s))
@[simp] theorem o_l05Find_e (rs : LS) (e : List AV) (s : List Int) : o_l05Find [.ip (.snap 1 (rs.map il) :: e), .snap 1 (s.map iv)] = some (ssTot rs ≤ 1048576, .int .i64 (ixS rs s)) := tab_at (enc := fun (x : LS × List AV × List Int) => match x with | (rs, e, s) => [.ip (.snap 1 (rs.map il) :: e), .snap 1 (s.map iv)]) (fun x y h => by
  obtain ⟨rs1, e1, s1⟩ := x; obtain ⟨rs2, e2, s2⟩ := y; simp at h; simp [h] <;> omega) _ _ (rs, e, s)
theorem o_l05Find_k : Knows Tryd.prog 98 o_l05Find := tab_knows fun x hx h => by
  obtain ⟨rs, e, s⟩ := x; exact l05Find_s rs e s h hx
abbrev k97_o0 : List AJ := [.o ⟨(some 4), none, false, .mv (.c (.bool false)), (some [0, 1])⟩]
abbrev k97_o1 : List AJ := [.o ⟨(some 6), none, false, .mv (.t 0), none⟩, .o ⟨(some 7), none, false, .len (.t 6), none⟩, .o ⟨(some 8), none, false, .mv (.t 1), none⟩, .o ⟨(some 9), none, false, .len (.t 8), none⟩, .o ⟨(some 10), none, false, .bin .neq (.t 7) (.t 9), (some [0, 1, 10])⟩]
abbrev k97_o2 : List AJ := [.o ⟨(some 11), none, false, .mv (.t 0), none⟩, .o ⟨(some 12), none, false, .len (.t 11), none⟩, .o ⟨(some 13), none, false, .mv (.t 1), none⟩, .o ⟨(some 14), none, false, .len (.t 13), none⟩, .o ⟨(some 15), none, false, .bin .lss (.t 12) (.t 14), none⟩, .o ⟨(some 4), none, false, .mv (.t 15), (some [4])⟩]
def k97_3 : ACode := .seq (.region k97_o2) .ret
def k97_4 : ACode := .cond (.t 10) k97_3 .skip
def k97_5 : ACode := .seq (.region k97_o1) k97_4
abbrev k97_o3 : List AJ := [.o ⟨(some 5), none, false, .mv (.c (.int .i64 0)), (some [0, 1, 5])⟩]
abbrev k97_o4 : List AJ := [.o ⟨(some 16), none, false, .mv (.t 5), none⟩, .o ⟨(some 17), none, false, .mv (.t 0), none⟩, .o ⟨(some 18), none, false, .len (.t 17), none⟩, .o ⟨(some 19), none, false, .bin .lss (.t 16) (.t 18), (some [0, 1, 5, 19])⟩]
def k97_8 : ACode := .cond (.t 19) .skip (.exit 0)
def k97_9 : ACode := .seq (.region k97_o4) k97_8
abbrev k97_o5 : List AI := [⟨(some 22), none, false, .mv (.t 0), none⟩, ⟨(some 23), none, false, .mv (.t 5), none⟩, ⟨(some 24), none, false, .idxA 1 (.t 22) (.t 23), none⟩, ⟨(some 25), none, false, .load 1 false (.t 24), none⟩, ⟨(some 26), none, false, .mv (.t 1), none⟩, ⟨(some 27), none, false, .mv (.t 5), none⟩, ⟨(some 28), none, false, .idxA 1 (.t 26) (.t 27), none⟩, ⟨(some 29), none, false, .load 1 false (.t 28), none⟩, ⟨(some 30), none, false, .bin .neq (.t 25) (.t 29), (some [0, 1, 5, 30])⟩]
abbrev k97_o6 : List AI := [⟨(some 31), none, false, .mv (.t 0), none⟩, ⟨(some 32), none, false, .mv (.t 5), none⟩, ⟨(some 33), none, false, .idxA 1 (.t 31) (.t 32), none⟩, ⟨(some 34), none, false, .load 1 false (.t 33), none⟩, ⟨(some 35), none, false, .mv (.t 1), none⟩, ⟨(some 36), none, false, .mv (.t 5), none⟩, ⟨(some 37), none, false, .idxA 1 (.t 35) (.t 36), none⟩, ⟨(some 38), none, false, .load 1 false (.t 37), none⟩, ⟨(some 39), none, false, .bin .lss (.t 34) (.t 38), none⟩, ⟨(some 4), none, false, .mv (.t 39), (some [4])⟩]
def k97_12 : ACode := .seq (.draw k97_o6 [] rfl) .ret
def k97_13 : ACode := .cond (.t 30) k97_12 .skip
def k97_14 : ACode := .seq (.draw k97_o5 [] rfl) k97_13
abbrev k97_o7 : List AJ := [.o ⟨(some 20), none, false, .mv (.t 5), none⟩, .o ⟨(some 21), none, true, .bin .add (.t 20) (.c (.int .i64 1)), none⟩, .o ⟨(some 5), none, false, .mv (.t 21), (some [0, 1, 5])⟩]
def k97_16 : ACode := .region k97_o7
def k97_17 : ACode := .seq (.block 1 k97_14) k97_16
def k97_18 : ACode := .seq k97_9 k97_17
def k97_19 : ACode := .loop k97_18
def k97_20 : ACode := .block 0 k97_19
def k97_21 : ACode := .seq (.region k97_o3) k97_20
abbrev k97_o8 : List AJ := [.o ⟨(some 4), none, false, .mv (.c (.bool false)), (some [4])⟩]
def k97_23 : ACode := .seq (.region k97_o8) .ret
def k97_24 : ACode := .seq k97_21 k97_23
def k97_25 : ACode := .seq k97_5 k97_24
def k97_26 : ACode := .seq (.region k97_o0) k97_25
@[simp, simp ↓] theorem k97_3r : sR k97_3 k97_o2 .ret := yR rfl
@[simp, simp ↓] theorem k97_4r : rC k97_4 (.t 10) k97_3 .skip := zC rfl
@[simp, simp ↓] theorem k97_5r : sR k97_5 k97_o1 k97_4 := yR rfl
@[simp, simp ↓] theorem k97_8r : rC k97_8 (.t 19) .skip (.exit 0) := zC rfl
@[simp, simp ↓] theorem k97_9r : sR k97_9 k97_o4 k97_8 := yR rfl
@[simp, simp ↓] theorem k97_12r : sD k97_12 k97_o6 [] .ret := yD rfl
@[simp, simp ↓] theorem k97_13r : rC k97_13 (.t 30) k97_12 .skip := zC rfl
@[simp, simp ↓] theorem k97_14r : sD k97_14 k97_o5 [] k97_13 := yD rfl
@[simp, simp ↓] theorem k97_16r : rR k97_16 k97_o7 := zR rfl
@[simp, simp ↓] theorem k97_17r : sB k97_17 1 k97_14 k97_16 := yB rfl
@[simp, simp ↓] theorem k97_18r : rS k97_18 k97_9 k97_17 := zS rfl
@[simp, simp ↓] theorem k97_19r : rL k97_19 k97_18 := zL rfl
@[simp, simp ↓] theorem k97_20r : rB k97_20 0 k97_19 := zB rfl
@[simp, simp ↓] theorem k97_21r : sR k97_21 k97_o3 k97_20 := yR rfl
@[simp, simp ↓] theorem k97_23r : sR k97_23 k97_o8 .ret := yR rfl
@[simp, simp ↓] theorem k97_24r : rS k97_24 k97_21 k97_23 := zS rfl
@[simp, simp ↓] theorem k97_25r : rS k97_25 k97_5 k97_24 := zS rfl
@[simp, simp ↓] theorem k97_26r : sR k97_26 k97_o0 k97_25 := yR rfl
noncomputable abbrev k97_C : Orc → Cx := mkC Tryd.prog [] 97 40 [.tmp 4]
theorem k97_of0 : OfP0 Tryd.prog Tryd.f97 97 40 k97_C k97_26 := @ofP0 _ _ _ _ _ _ _ _ Tryd.func97 (by decide +kernel) rfl (by kernel_rfl) rfl (by kernel_rfl)
theorem l05Before_s (a b : List Int) (h : Heap) (hl : a.length ≤ 1048576) : ACalls Tryd.prog 97 [.snap 1 (a.map iv), .snap 1 (b.map iv)] h (fun v h' => v = .bool (decide (cmpS a b < 0)) ∧ h' = h) := by
  refine k97_of0 rfl noPure fun I => ?_
  by_cases hab : a.length = b.length
  · have e0 : cmpS a b = lexC a b := by unfold cmpS cmpZ; simp [hab]
    have hab' : (a.length : Int) = b.length := by omega
    refine Run2.of I 1000 ?_
    simp -implicitDefEqProofs [hab']
    refine Run2.loopE (fun (i : Nat) => [(0, .snap 1 (a.map iv)), (1, .snap 1 (b.map iv)), (5, .int .i64 i)]) (fun i => h) (fun i => a.length - i) (fun i => i ≤ a.length ∧ lexC (a.drop i) (b.drop i) = lexC a b) 0 (by simp) rfl (by simp) fun i hi ih => ?_
    have hc := hi.2
    by_cases hlt : i < a.length
    · have hlt2 : i < b.length := by omega
      rw [List.drop_eq_getElem_cons hlt, List.drop_eq_getElem_cons hlt2] at hc
      simp only [lexC] at hc
      have go := fun (hz : a[i] = b[i]) => ih (i + 1) ⟨by omega, by rw [← hc, if_pos ((cmpZ_zero _ _).2 hz)]⟩ (by omega)
      have hne := fun (hz : ¬ a[i] = b[i]) => show a[i] < b[i] ↔ cmpS a b < 0 by
        rw [e0, ← hc, if_neg (fun h => hz ((cmpZ_zero _ _).1 h)), cmpZ_neg]
      clear ih
      refine Run2.of I 1000 ?_
      simp -implicitDefEqProofs [hlt, hlt2]
      refine ⟨fun h => hne h, fun h => ⟨by omega, by simpa using go h⟩⟩
    · obtain rfl : i = a.length := by omega
      rw [List.drop_length, List.drop_of_length_le (by omega)] at hc
      simp only [lexC] at hc
      have : ¬ cmpS a b < 0 := by rw [e0]; omega
      refine Run2.of I 1000 ?_
      simp -implicitDefEqProofs [hlt, this]
  · have e0 : cmpS a b < 0 ↔ (a.length : Int) < b.length := by unfold cmpS cmpZ; grind
    have hab' : ¬ (a.length : Int) = b.length := by omega
    refine Run2.of I 1000 ?_
    simp -implicitDefEqProofs [hab', e0]
noncomputable def o_l05Before : List AV → Option (Prop × AV) := tab (fun (x : List Int × List Int) => match x with | (a, b) => [.snap 1 (a.map iv), .snap 1 (b.map iv)]) (fun x => match x with | (a, b) => a.length ≤ 1048576) (fun x => match x with | (a, b) => .bool (decide (cmpS a b < 0)))
@[simp] theorem o_l05Before_e (a : List Int) (b : List Int) : o_l05Before [.snap 1 (a.map iv), .snap 1 (b.map iv)] = some (a.length ≤ 1048576, .bool (decide (cmpS a b < 0))) := tab_at (enc := fun (x : List Int × List Int) => match x with | (a, b) => [.snap 1 (a.map iv), .snap 1 (b.map iv)]) (fun x y h => by
  obtain ⟨a1, b1⟩ := x; obtain ⟨a2, b2⟩ := y; simp at h; simp [h] <;> omega) _ _ (a, b)
theorem o_l05Before_k : Knows Tryd.prog 97 o_l05Before := tab_knows fun x hx h => by
  obtain ⟨a, b⟩ := x; exact l05Before_s a b h hx
theorem Grow.appAny {sz : Nat} {w : AV} {l new : List AV} {hp h : Heap} {C : Cx} {n : Nat} {d : Option Nat} {ks : Option (List Nat)} {is : List AJ} {sk : List AItem} {R : AV → Heap → Prop} {e : Env} {bytes : Nat} (g : Grow sz w l hp) (hb : (2 * (l.length + new.length)) * bytes ≤ 281474976710656)
    (k : ∀ w' hp', Grow sz w' (l ++ new) hp' → vc2 C n is sk (kp (put e d w') ks) (hp' ++ h) R) : resK C n d ks is sk R e (hp ++ h) (appR (hp ++ h) sz bytes w new) := by
  by_cases hn : new = []
  · subst hn
    cases g with
    | nil =>
      simp only [appR_n]
      exact ⟨fun _ => k _ _ .nil, fun h => by cases h⟩
    | emp =>
      simp only [appR_e]
      exact ⟨fun _ => k _ _ .emp, fun h => by cases h⟩
    | sl id l m hm =>
      subst hm
      have hd : hdel ((id, ⟨sz, l⟩) :: h) id = h := by simp [hdel]
      rw [appR_ln]
      refine ⟨rfl, ⟨sz, l⟩, by simp [hget], rfl, by simp, rfl, hb, fun id' _ => ?_⟩
      have := k _ _ (.sl id' (l ++ []) (l.length + 0) (by simp))
      simpa [hd] using this
  · exact g.app hb hn k
abbrev k99_o0 : List AJ := [.o ⟨(some 4), none, false, .mv (.c .nilsl), (some [0, 1])⟩]
abbrev k99_o1 : List AJ := [.o ⟨(some 6), none, false, .mv (.t 0), none⟩, .o ⟨(some 7), none, false, .mv (.t 1), none⟩, .o ⟨(some 8), none, false, .slice 1 (.t 6) none (some (.t 7)) none, none⟩, .o ⟨(some 9), none, false, .call 118 [(.t 8)], none⟩, .o ⟨(some 5), none, false, .mv (.t 9), (some [0, 1, 5])⟩]
abbrev k99_o2 : List AJ := [.o ⟨(some 10), none, false, .mv (.t 5), none⟩, .o ⟨(some 11), none, false, .mv (.t 0), none⟩, .o ⟨(some 12), none, false, .mv (.t 1), none⟩, .o ⟨(some 13), none, true, .bin .add (.t 12) (.c (.int .i64 1)), none⟩, .o ⟨(some 14), none, false, .slice 1 (.t 11) (some (.t 13)) none none, none⟩, .o ⟨(some 15), none, false, .append 1 8 (.t 10) (.t 14), none⟩, .o ⟨(some 4), none, false, .mv (.t 15), (some [4])⟩]
def k99_3 : ACode := .seq (.region k99_o2) .ret
def k99_4 : ACode := .seq (.region k99_o1) k99_3
def k99_5 : ACode := .seq (.region k99_o0) k99_4
@[simp, simp ↓] theorem k99_3r : sR k99_3 k99_o2 .ret := yR rfl
@[simp, simp ↓] theorem k99_4r : sR k99_4 k99_o1 k99_3 := yR rfl
@[simp, simp ↓] theorem k99_5r : sR k99_5 k99_o0 k99_4 := yR rfl
noncomputable abbrev k99_C : Orc → Cx := mkC Tryd.prog [] 99 16 [.tmp 4]
theorem k99_of : OfP Tryd.prog Tryd.f99 99 16 k99_C k99_5 := @ofP _ _ _ _ _ _ _ _ Tryd.func99 (by decide +kernel) rfl (by kernel_rfl) rfl (by kernel_rfl)
theorem l05Drop_s (s : List Int) (k : Nat) (h : Heap) (hl : s.length ≤ 1048576) (hk : k < s.length) : ACalls Tryd.prog 99 [.snap 1 (s.map iv), .int .i64 k] h (fun v h' => v = il (dropK s k) ∧ h' = h) := by
  refine k99_of rfl noPure fun I => ?_
  refine Run2.of I 1000 ?_
  simp -implicitDefEqProofs
  refine ⟨by omega, ?_⟩
  rw [← List.map_take]
  refine (l00Own_g (s.take k) h (by simp; omega)).mono ?_
  rintro v h' ⟨hp, g, rfl⟩
  have hcell := g.cell
  refine gK.go ?_
  simp -implicitDefEqProofs [hcell]
  refine ⟨by omega, by omega, ?_⟩
  have htk : List.take ((s.length : Int) - ((k : Int) + 1)).toNat (List.drop (k + 1) (List.map iv s)) = List.drop (k + 1) (List.map iv s) := List.take_of_length_le (by simp; omega)
  rw [htk]
  refine g.appAny (by simp; omega) fun w' hp' hg' => ?_
  have hcell' := hg'.cell
  simp -implicitDefEqProofs [hcell']
  refine hg'.froze (fun x => x) (fun _ _ _ => rfl) (fun _ _ h => h) (.base ⟨?_, rfl⟩)
  simp [dropK]
noncomputable def o_l05Drop : List AV → Option (Prop × AV) := tab (fun (x : List Int × Nat) => match x with | (s, k) => [.snap 1 (s.map iv), .int .i64 k]) (fun x => match x with | (s, k) => (s.length ≤ 1048576 ∧ k < s.length)) (fun x => match x with | (s, k) => .snap 1 ((dropK s k).map iv))
@[simp] theorem o_l05Drop_e (s : List Int) (k : Nat) : o_l05Drop [.snap 1 (s.map iv), .int .i64 k] = some ((s.length ≤ 1048576 ∧ k < s.length), .snap 1 ((dropK s k).map iv)) := tab_at (enc := fun (x : List Int × Nat) => match x with | (s, k) => [.snap 1 (s.map iv), .int .i64 k]) (fun x y h => by
  obtain ⟨s1, k1⟩ := x; obtain ⟨s2, k2⟩ := y; simp at h; simp [h] <;> omega) _ _ (s, k)
theorem o_l05Drop_k : Knows Tryd.prog 99 o_l05Drop := tab_knows fun x hx h => by
  obtain ⟨s, k⟩ := x; exact l05Drop_s s k h hx.1 hx.2
end Go.AG
