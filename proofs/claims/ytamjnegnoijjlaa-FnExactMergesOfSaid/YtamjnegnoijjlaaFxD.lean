/- What a complex is: the program's function and the reference's. No statement is made here. -/
import Derived.Test.YtamjnegnoijjlaaFxC
namespace Go.AG
open Go.Proofs Go.Proofs.Ytamjnegnoijjlaa
set_option linter.unusedSimpArgs false
set_option linter.unusedVariables false
set_option maxRecDepth 4000
abbrev k131_o0 : List AJ := [.o ⟨(some 2), none, false, .mv (.c (.bool false)), (some [0])⟩]
abbrev k131_o1 : List AJ := [.o ⟨(some 3), none, false, .mv (.t 0), none⟩, .o ⟨(some 4), none, false, .call 69 [(.t 3), (.c (.int .i64 0)), (.c (.int .i64 9))], none⟩, .o ⟨(some 2), none, false, .mv (.t 4), (some [2])⟩]
def k131_2 : ACode := .seq (.region k131_o1) .ret
def k131_3 : ACode := .seq (.region k131_o0) k131_2
@[simp, simp ↓] theorem k131_2r : sR k131_2 k131_o1 .ret := yR rfl
@[simp, simp ↓] theorem k131_3r : sR k131_3 k131_o0 k131_2 := yR rfl
noncomputable abbrev k131_C : Orc → Cx := mkC Try.prog [] 131 5 [.tmp 2]
theorem k131_of0 : OfP0 Try.prog Try.f131 131 5 k131_C k131_3 := @ofP0 _ _ _ _ _ _ _ _ Try.func131 (by decide +kernel) rfl (by kernel_rfl) rfl (by kernel_rfl)
theorem isVertex_c (a : Int) (h : Heap) : ACalls Try.prog 131 [.int .i64 a] h (fun v h' => v = .bool (decide (0 ≤ a) && decide (a ≤ 9)) ∧ h' = h) := by
  refine k131_of0 rfl orc1_p fun I => ?_
  refine Run2.of I 1000 ?_
  simp -implicitDefEqProofs
noncomputable def o_isVertex : List AV → Option (Prop × AV) := tab (fun (x : Int) => match x with | a => [.int .i64 a]) (fun x => match x with | a => True) (fun x => match x with | a => .bool (decide (0 ≤ a) && decide (a ≤ 9)))
@[simp] theorem o_isVertex_e (a : Int) : o_isVertex [.int .i64 a] = some (True, .bool (decide (0 ≤ a) && decide (a ≤ 9))) := tab_at (enc := fun (x : Int) => match x with | a => [.int .i64 a]) (fun x y h => by
  simp at h; simp [h] <;> omega) _ _ a
theorem o_isVertex_k : Knows Try.prog 131 o_isVertex := tab_knows fun x hx h => by
  exact isVertex_c _ h
noncomputable def orcV : List (Nat × (List AV → Option (Prop × AV))) := (131, o_isVertex) :: (129, o_isRising) :: []
theorem orcV_p : Pure Try.prog (lk orcV) := (lk_pure o_isVertex_k (lk_pure o_isRising_k lk_pure0))
@[simp] theorem orcV_l (b : Bool) (g : FuncId) (l : List AV) : lk orcV b g l = if g = 131 then o_isVertex l else if g = 129 then o_isRising l else none := nr rfl
abbrev k130_o0 : List AJ := [.o ⟨(some 2), none, false, .mv (.c (.bool false)), (some [0])⟩]
abbrev k130_o1 : List AJ := [.o ⟨(some 3), none, false, .mv (.t 0), none⟩, .o ⟨(some 4), none, false, .call 131 [(.t 3)], none⟩, .o ⟨(some 5), none, false, .un .not (.t 4), none⟩, .o ⟨(some 2), none, false, .mv (.t 5), (some [2])⟩]
def k130_2 : ACode := .seq (.region k130_o1) .ret
def k130_3 : ACode := .seq (.region k130_o0) k130_2
@[simp, simp ↓] theorem k130_2r : sR k130_2 k130_o1 .ret := yR rfl
@[simp, simp ↓] theorem k130_3r : sR k130_3 k130_o0 k130_2 := yR rfl
noncomputable abbrev k130_C : Orc → Cx := mkC Try.prog [] 130 6 [.tmp 2]
theorem k130_of0 : OfP0 Try.prog Try.f130 130 6 k130_C k130_3 := @ofP0 _ _ _ _ _ _ _ _ Try.func130 (by decide +kernel) rfl (by kernel_rfl) rfl (by kernel_rfl)
theorem VS1_c (a : Int) (h : Heap) : ACalls Try.prog 130 [.int .i64 a] h (fun v h' => v = .bool (!(decide (0 ≤ a) && decide (a ≤ 9))) ∧ h' = h) := by
  refine k130_of0 rfl orcV_p fun I => ?_
  refine Run2.of I 1000 ?_
  simp -implicitDefEqProofs
abbrev k100_o0 : List AJ := [.o ⟨(some 2), none, false, .mv (.c (.bool false)), (some [0])⟩]
abbrev k100_o1 : List AJ := [.o ⟨(some 3), none, false, .mv (.t 0), none⟩, .o ⟨(some 4), none, false, .len (.t 3), none⟩, .o ⟨(some 5), none, false, .bin .geq (.t 4) (.c (.int .i64 1)), none⟩, .o ⟨(some 6), none, false, .mv (.t 5), none⟩, .o ⟨(some 7), (some (6, true)), false, .mv (.t 0), none⟩, .o ⟨(some 8), (some (6, true)), false, .len (.t 7), none⟩, .o ⟨(some 9), (some (6, true)), false, .bin .leq (.t 8) (.c (.int .i64 4)), none⟩, .o ⟨(some 10), none, false, .pick (.t 6) (.t 9) (.c (.bool false)), none⟩, .o ⟨(some 11), none, false, .mv (.t 10), none⟩, .o ⟨(some 12), (some (11, true)), false, .mv (.t 0), (some [0, 11, 12])⟩, .o ⟨(some 13), (some (11, true)), false, .call 129 [(.t 12)], none⟩, .o ⟨(some 14), none, false, .pick (.t 11) (.t 13) (.c (.bool false)), none⟩, .o ⟨(some 15), none, false, .mv (.t 14), none⟩, .o ⟨(some 16), (some (15, true)), false, .mv (.t 0), none⟩, .o ⟨(some 17), (some (15, true)), false, .call 55 [(.t 16), (.c (.fn 130 []))], none⟩, .o ⟨(some 18), (some (15, true)), false, .un .not (.t 17), none⟩, .o ⟨(some 19), none, false, .pick (.t 15) (.t 18) (.c (.bool false)), none⟩, .o ⟨(some 2), none, false, .mv (.t 19), (some [2])⟩]
def k100_2 : ACode := .seq (.region k100_o1) .ret
def k100_3 : ACode := .seq (.region k100_o0) k100_2
@[simp, simp ↓] theorem k100_2r : sR k100_2 k100_o1 .ret := yR rfl
@[simp, simp ↓] theorem k100_3r : sR k100_3 k100_o0 k100_2 := yR rfl
noncomputable abbrev k100_C : Orc → Cx := mkC Try.prog [] 100 20 [.tmp 2]
theorem k100_of0 : OfP0 Try.prog Try.f100 100 20 k100_C k100_3 := @ofP0 _ _ _ _ _ _ _ _ Try.func100 (by decide +kernel) rfl (by kernel_rfl) rfl (by kernel_rfl)
theorem validSm_s (s : List Int) (h : Heap) (hl : s.length ≤ 1048576) : ACalls Try.prog 100 [.snap 1 (s.map iv)] h (fun v h' => v = .bool (decide (smOk s)) ∧ h' = h) := by
  refine k100_of0 rfl orcV_p fun I => ?_
  have hc := ContainsFunc_s s 130 [] (fun a => !(decide (0 ≤ a) && decide (a ≤ 9))) h hl fun a ha => VS1_c a h
  have hany : (s.any fun a => !(decide (0 ≤ a) && decide (a ≤ 9))) = !decide (∀ v ∈ s, 0 ≤ v ∧ v ≤ 9) := by
    rw [Bool.eq_iff_iff]; simp
    constructor
    · rintro ⟨a, h1, h2⟩; exact ⟨a, h1, by omega⟩
    · rintro ⟨a, h1, h2⟩; exact ⟨a, h1, by omega⟩
  rw [hany] at hc
  by_cases h1 : 1 ≤ s.length
  · by_cases h2 : s.length ≤ 4
    · have h1' : (1 : Int) ≤ s.length := by omega
      have h2' : (s.length : Int) ≤ 4 := by omega
      by_cases h3 : riseS s
      · have e : smOk s ↔ ∀ v ∈ s, 0 ≤ v ∧ v ≤ 9 := by unfold smOk; simp [h1, h2, h3]
        refine Run2.of I 1000 ?_
        simp -implicitDefEqProofs [hl, h1', h2', h3]
        refine hc.mono ?_
        rintro v h' ⟨rfl, rfl⟩
        refine gK.go ?_
        simp -implicitDefEqProofs [e]
      · have e : ¬ smOk s := fun h => h3 h.2.1
        refine Run2.of I 1000 ?_
        simp -implicitDefEqProofs [hl, h1', h2', h3, e]
    · have h1' : (1 : Int) ≤ s.length := by omega
      have h2' : ¬ (s.length : Int) ≤ 4 := by omega
      have e : ¬ smOk s := fun h => h2 h.1.2
      refine Run2.of I 1000 ?_
      simp -implicitDefEqProofs [hl, h1', h2', e]
  · have h1' : ¬ (1 : Int) ≤ s.length := by omega
    have e : ¬ smOk s := fun h => h1 h.1.1
    refine Run2.of I 1000 ?_
    simp -implicitDefEqProofs [hl, h1', e]
noncomputable def o_validSm : List AV → Option (Prop × AV) := tab (fun (x : List Int) => match x with | s => [.snap 1 (s.map iv)]) (fun x => match x with | s => s.length ≤ 1048576) (fun x => match x with | s => .bool (decide (smOk s)))
@[simp] theorem o_validSm_e (s : List Int) : o_validSm [.snap 1 (s.map iv)] = some (s.length ≤ 1048576, .bool (decide (smOk s))) := tab_at (enc := fun (x : List Int) => match x with | s => [.snap 1 (s.map iv)]) (fun x y h => by
  simp at h; simp [h] <;> omega) _ _ s
theorem o_validSm_k : Knows Try.prog 100 o_validSm := tab_knows fun x hx h => by
  exact validSm_s x h hx
noncomputable def o_facesOf : List AV → Option (Prop × AV) := tab (fun (x : List Int) => match x with | s => [.snap 1 (s.map iv)]) (fun x => match x with | s => s.length ≤ 1048576) (fun x => match x with | s => .snap 1 ((faces s).map il))
@[simp] theorem o_facesOf_e (s : List Int) : o_facesOf [.snap 1 (s.map iv)] = some (s.length ≤ 1048576, .snap 1 ((faces s).map il)) := tab_at (enc := fun (x : List Int) => match x with | s => [.snap 1 (s.map iv)]) (fun x y h => by
  simp at h; simp [h] <;> omega) _ _ s
theorem o_facesOf_k : Knows Try.prog 103 o_facesOf := tab_knows fun x hx h => by
  exact facesOf_s x h hx
noncomputable def orcD : List (Nat × (List AV → Option (Prop × AV))) := (100, o_validSm) :: (103, o_facesOf) :: (101, o_cmpS) :: (76, o_indexOf) :: []
theorem orcD_p : Pure Try.prog (lk orcD) := (lk_pure o_validSm_k (lk_pure o_facesOf_k (lk_pure o_cmpS_k (lk_pure o_indexOf_k lk_pure0))))
@[simp] theorem orcD_l (b : Bool) (g : FuncId) (l : List AV) : lk orcD b g l = if g = 100 then o_validSm l else if g = 103 then o_facesOf l else if g = 101 then o_cmpS l else if g = 76 then o_indexOf l else none := nr rfl
theorem ssTot_take (rs : List (List Int)) (k : Nat) : ssTot (rs.take k) ≤ ssTot rs := by
  have := sumL_le rs k
  unfold ssTot
  simp
  omega
abbrev k104_o0 : List AJ := [.o ⟨(some 4), none, false, .mv (.c (.bool false)), (some [0, 1, 2])⟩]
abbrev k104_o1 : List AJ := [.o ⟨(some 5), none, false, .fieldA 0 (.t 1), none⟩, .o ⟨(some 6), none, false, .load 1 false (.t 5), none⟩, .o ⟨(some 7), none, false, .load 1 false (.t 2), none⟩, .o ⟨(some 8), none, false, .slice 1 (.t 6) none (some (.t 7)) none, none⟩, .o ⟨(some 9), none, false, .build [.nilsl] [(0, 1, (.t 8))], none⟩, .o ⟨(some 10), none, false, .mv (.t 0), none⟩, .o ⟨(some 11), none, false, .call 76 [(.t 9), (.t 10)], none⟩, .o ⟨(some 12), none, false, .bin .lss (.t 11) (.c (.int .i64 0)), none⟩, .o ⟨(some 4), none, false, .mv (.t 12), (some [4])⟩]
def k104_2 : ACode := .seq (.region k104_o1) .ret
def k104_3 : ACode := .seq (.region k104_o0) k104_2
@[simp, simp ↓] theorem k104_2r : sR k104_2 k104_o1 .ret := yR rfl
@[simp, simp ↓] theorem k104_3r : sR k104_3 k104_o0 k104_2 := yR rfl
noncomputable abbrev k104_C : Orc → Cx := mkC Try.prog [] 104 13 [.tmp 4]
theorem k104_of0 : OfP0 Try.prog Try.f104 104 13 k104_C k104_3 := @ofP0 _ _ _ _ _ _ _ _ Try.func104 (by decide +kernel) rfl (by kernel_rfl) rfl (by kernel_rfl)
theorem VC1_c (f : List Int) (rs : List (List Int)) (k : Nat) (h : Heap) (hl : ssTot rs ≤ 1048576) (hk : k ≤ rs.length) (hs : sortS (rs.take k)) : ACalls Try.prog 104 [.snap 1 (f.map iv), .ip [.snap 1 (rs.map il)], .ip [.int .i64 k]] h (fun v h' => v = .bool (!decide (f ∈ rs.take k)) ∧ h' = h) := by
  refine k104_of0 rfl noPure fun I => ?_
  refine Run2.of I 1000 ?_
  simp -implicitDefEqProofs
  have ht := ssTot_take rs k
  rw [← List.map_take]
  refine ⟨hk, ?_⟩
  refine (indexOf_s (rs.take k) f h (by omega) hs).mono ?_
  rintro v h' ⟨rfl, rfl⟩
  refine gK.go ?_
  simp -implicitDefEqProofs [ixS_neg]
theorem faces_length (s : List Int) : (faces s).length ≤ s.length := by
  unfold faces; split <;> simp
abbrev k54_o0 : List AJ := [.o ⟨(some 1), none, false, .box false 1 (.t 0), none⟩, .o ⟨(some 2), none, false, .mv (.c (.bool false)), (some [1])⟩]
abbrev k54_o1 : List AJ := [.o ⟨(some 5), none, false, .fieldA 0 (.t 1), none⟩, .o ⟨(some 6), none, false, .load 1 false (.t 5), none⟩, .o ⟨(some 7), none, false, .len (.t 6), none⟩, .o ⟨(some 8), none, false, .mv (.c (.int .i64 0)), (some [1, 6, 7, 8])⟩]
abbrev k54_o2 : List AJ := [.o ⟨(some 9), none, false, .bin .lss (.t 8) (.t 7), (some [1, 6, 7, 8, 9])⟩]
abbrev k54_o3 : List AJ := [.o ⟨(some 10), none, false, .mv (.t 8), none⟩, .o ⟨(some 11), none, false, .idxA 1 (.t 6) (.t 8), none⟩, .o ⟨(some 12), none, false, .load 1 false (.t 11), none⟩, .v 3 1 (.int .i64 0) [] (.t 10) none, .o ⟨(some 4), none, false, .mv (.t 12), (some [1, 3, 4, 6, 7, 8])⟩]
abbrev k54_o4 : List AJ := [.o ⟨(some 13), none, false, .mv (.t 4), none⟩, .o ⟨(some 14), none, false, .call 100 [(.t 13)], none⟩, .o ⟨(some 15), none, false, .un .not (.t 14), none⟩, .o ⟨(some 16), none, false, .mv (.t 15), none⟩, .o ⟨(some 17), (some (16, false)), false, .load 1 false (.t 3), none⟩, .o ⟨(some 18), (some (16, false)), false, .bin .gtr (.t 17) (.c (.int .i64 0)), none⟩, .o ⟨(some 19), (some (16, false)), false, .mv (.t 18), none⟩, .o ⟨(some 20), (some (19, true)), false, .fieldA 0 (.t 1), none⟩, .o ⟨(some 21), (some (19, true)), false, .load 1 false (.t 20), (some [1, 3, 4, 6, 7, 8, 16, 19, 21])⟩, .o ⟨(some 22), (some (19, true)), false, .load 1 false (.t 3), none⟩, .o ⟨(some 23), (some (19, true)), true, .bin .sub (.t 22) (.c (.int .i64 1)), none⟩, .o ⟨(some 24), (some (19, true)), false, .idxA 1 (.t 21) (.t 23), none⟩, .o ⟨(some 25), (some (19, true)), false, .load 1 false (.t 24), none⟩, .o ⟨(some 26), (some (19, true)), false, .mv (.t 4), none⟩, .o ⟨(some 27), (some (19, true)), false, .call 101 [(.t 25), (.t 26)], none⟩, .o ⟨(some 28), (some (19, true)), false, .bin .geq (.t 27) (.c (.int .i64 0)), (some [1, 3, 4, 6, 7, 8, 16, 19, 28])⟩, .o ⟨(some 29), (some (16, false)), false, .pick (.t 19) (.t 28) (.c (.bool false)), none⟩, .o ⟨(some 30), none, false, .pick (.t 16) (.c (.bool true)) (.t 29), (some [1, 3, 4, 6, 7, 8, 30])⟩]
abbrev k54_o5 : List AJ := [.o ⟨(some 2), none, false, .mv (.c (.bool false)), (some [2])⟩]
def k54_7 : ACode := .seq (.region k54_o5) .ret
def k54_8 : ACode := .cond (.t 30) k54_7 .skip
def k54_9 : ACode := .seq (.region k54_o4) k54_8
abbrev k54_o6 : List AJ := [.o ⟨(some 31), none, false, .mv (.t 4), none⟩, .o ⟨(some 32), none, false, .call 103 [(.t 31)], none⟩, .o ⟨(some 33), none, false, .mkfn 104 [(.t 1), (.t 3)], none⟩, .o ⟨(some 34), none, false, .call 102 [(.t 32), (.t 33)], (some [1, 6, 7, 8, 34])⟩]
abbrev k54_o7 : List AJ := [.o ⟨(some 2), none, false, .mv (.c (.bool false)), (some [2])⟩]
def k54_12 : ACode := .seq (.region k54_o7) .ret
def k54_13 : ACode := .cond (.t 34) k54_12 .skip
def k54_14 : ACode := .seq (.region k54_o6) k54_13
def k54_15 : ACode := .seq k54_9 k54_14
def k54_16 : ACode := .seq (.region k54_o3) k54_15
abbrev k54_o8 : List AJ := [.o ⟨(some 35), none, true, .bin .add (.t 8) (.c (.int .i64 1)), none⟩, .o ⟨(some 8), none, false, .mv (.t 35), (some [1, 6, 7, 8])⟩]
def k54_18 : ACode := .region k54_o8
def k54_19 : ACode := .seq (.block 1 k54_16) k54_18
def k54_20 : ACode := .seq (.cond (.t 9) .skip (.exit 0)) k54_19
def k54_21 : ACode := .seq (.region k54_o2) k54_20
def k54_22 : ACode := .loop k54_21
def k54_23 : ACode := .block 0 k54_22
def k54_24 : ACode := .seq (.region k54_o1) k54_23
abbrev k54_o9 : List AJ := [.o ⟨(some 36), none, false, .fieldA 0 (.t 1), none⟩, .o ⟨(some 37), none, false, .load 1 false (.t 36), none⟩, .o ⟨(some 38), none, false, .len (.t 37), none⟩, .o ⟨(some 39), none, false, .bin .leq (.t 38) (.c (.int .i64 48)), none⟩, .o ⟨(some 2), none, false, .mv (.t 39), (some [2])⟩]
def k54_26 : ACode := .seq (.region k54_o9) .ret
def k54_27 : ACode := .seq k54_24 k54_26
def k54_28 : ACode := .seq (.region k54_o0) k54_27
@[simp, simp ↓] theorem k54_7r : sR k54_7 k54_o5 .ret := yR rfl
@[simp, simp ↓] theorem k54_8r : rC k54_8 (.t 30) k54_7 .skip := zC rfl
@[simp, simp ↓] theorem k54_9r : sR k54_9 k54_o4 k54_8 := yR rfl
@[simp, simp ↓] theorem k54_12r : sR k54_12 k54_o7 .ret := yR rfl
@[simp, simp ↓] theorem k54_13r : rC k54_13 (.t 34) k54_12 .skip := zC rfl
@[simp, simp ↓] theorem k54_14r : sR k54_14 k54_o6 k54_13 := yR rfl
@[simp, simp ↓] theorem k54_15r : rS k54_15 k54_9 k54_14 := zS rfl
@[simp, simp ↓] theorem k54_16r : sR k54_16 k54_o3 k54_15 := yR rfl
@[simp, simp ↓] theorem k54_18r : rR k54_18 k54_o8 := zR rfl
@[simp, simp ↓] theorem k54_19r : sB k54_19 1 k54_16 k54_18 := yB rfl
@[simp, simp ↓] theorem k54_20r : sC k54_20 (.t 9) .skip (.exit 0) k54_19 := yC rfl
@[simp, simp ↓] theorem k54_21r : sR k54_21 k54_o2 k54_20 := yR rfl
@[simp, simp ↓] theorem k54_22r : rL k54_22 k54_21 := zL rfl
@[simp, simp ↓] theorem k54_23r : rB k54_23 0 k54_22 := zB rfl
@[simp, simp ↓] theorem k54_24r : sR k54_24 k54_o1 k54_23 := yR rfl
@[simp, simp ↓] theorem k54_26r : sR k54_26 k54_o9 .ret := yR rfl
@[simp, simp ↓] theorem k54_27r : rS k54_27 k54_24 k54_26 := zS rfl
@[simp, simp ↓] theorem k54_28r : sR k54_28 k54_o0 k54_27 := yR rfl
noncomputable abbrev k54_C : Orc → Cx := mkC Try.prog [3] 54 40 [.tmp 2]
theorem k54_of0 : OfP0 Try.prog Try.f54 54 40 k54_C k54_28 := @ofP0 _ _ _ _ _ _ _ _ Try.func54 (by decide +kernel) rfl (by kernel_rfl) rfl (by kernel_rfl)
theorem validCx_s (rs : List (List Int)) (h : Heap) (hl : ssTot rs ≤ 1048576) : ACalls Try.prog 54 [cx rs] h (fun v h' => v = .bool (decide (cxOk rs)) ∧ h' = h) := by
  have hf := fit_of_tot hl
  have hn := hf.1
  refine k54_of0 rfl orcD_p fun I => ?_
  refine Run2.of I 1000 ?_
  simp -implicitDefEqProofs
  refine Run2.loopE (fun (i : Nat) => [(1, .ip [.snap 1 (rs.map il)]), (6, .snap 1 (rs.map il)), (7, .int .i64 rs.length), (8, .int .i64 i)]) (fun i => h) (fun i => rs.length - i) (fun i => i ≤ rs.length ∧ ∀ j (hj : j < rs.length), j < i → cxAtB rs j hj) 0 (by simp) rfl ⟨Nat.zero_le _, fun _ _ h => by omega⟩ fun i hi ih => ?_
  have hso : sortS (rs.take i) := fun j hj => by
    simp only [List.length_take] at hj
    simp only [List.getElem_take]
    exact (hi.2 (j + 1) (by omega) (by omega)).2.1 (by omega)
  by_cases hlt : i < rs.length
  · have hr := hf.2 _ (List.getElem_mem hlt)
    have hbad : ¬ cxAtB rs i hlt → ¬ cxOk rs := fun h1 h2 => h1 (((cxOk_iff rs).1 h2).1 i hlt)
    have go := fun (h1 : cxAtB rs i hlt) => ih (i + 1) ⟨by omega, fun j hj hji => by
      rcases Nat.lt_or_ge j i with h | h
      · exact hi.2 j hj h
      · obtain rfl : j = i := by omega
        exact h1⟩ (by omega)
    clear ih
    by_cases h1 : smOk rs[i]
    · have hfl := faces_length rs[i]
      have hcf := ContainsFuncS_s (faces rs[i]) 104 [.ip [.snap 1 (rs.map il)], .ip [.int .i64 i]] (fun f => !decide (f ∈ rs.take i)) h (by omega) fun f hf => VC1_c f rs i h hl (by omega) hso
      have hany : ((faces rs[i]).any fun f => !decide (f ∈ rs.take i)) = true ↔ ¬ ∀ f ∈ faces rs[i], f ∈ rs.take i := by simp
      generalize hB : ((faces rs[i]).any fun f => !decide (f ∈ rs.take i)) = B at hcf hany
      have step : ∀ (hcm : 0 < i → cmpS rs[i - 1] rs[i] < 0), cxAtB rs i hlt ↔ ∀ f ∈ faces rs[i], f ∈ rs.take i := fun hcm => ⟨fun h => h.2.2, fun h => ⟨h1, hcm, h⟩⟩
      cases i with
      | zero =>
        have step := step (by simp)
        rw [← step] at hany
        refine Run2.of I 1000 ?_
        simp -implicitDefEqProofs [hlt, hr, h1]
        refine hcf.mono ?_
        rintro v h' ⟨rfl, rfl⟩
        refine gK.go ?_
        cases B with
        | true =>
          have hb := hbad (hany.1 rfl)
          simp -implicitDefEqProofs [hb]
        | false =>
          have := go (Classical.byContradiction fun hn => by simpa using hany.2 hn)
          simp -implicitDefEqProofs
          simpa using this
      | succ i =>
        have hlt' : i < rs.length := by omega
        have hr' := hf.2 _ (List.getElem_mem hlt')
        have hc : ((i : Int) + 1 - 1).toNat = i := by omega
        by_cases h2 : cmpS rs[i] rs[i + 1] < 0
        · have step := step (fun _ => h2)
          have h2' : ¬ 0 ≤ cmpS rs[i] rs[i + 1] := by omega
          rw [← step] at hany
          have hltI : (i : Int) + 1 < rs.length := by omega
          have hcf' : ACalls Try.prog _ [_, .fn 104 [_, .ip [.int .i64 ((i : Int) + 1)]]] h _ := hcf
          refine Run2.of I 1000 ?_
          simp -implicitDefEqProofs [hlt, hlt', hr, hr', h1, hc, h2', hltI]
          refine ⟨by omega, by omega, ?_⟩
          refine hcf.mono ?_
          rintro v h' ⟨rfl, rfl⟩
          refine gK.go ?_
          cases B with
          | true =>
            have hb := hbad (hany.1 rfl)
            simp -implicitDefEqProofs [hb]
          | false =>
            have := go (Classical.byContradiction fun hn => by simpa using hany.2 hn)
            simp -implicitDefEqProofs
            refine ⟨by omega, by simpa using this⟩
        · have hb := hbad fun h => h2 (h.2.1 (by omega))
          have h2' : 0 ≤ cmpS rs[i] rs[i + 1] := by omega
          refine Run2.of I 1000 ?_
          have hltI : (i : Int) + 1 < rs.length := by omega
          simp -implicitDefEqProofs [hlt, hlt', hr, hr', h1, hc, h2', hb, hltI]
          omega
    · have hb := hbad fun h => h1 h.1
      refine Run2.of I 1000 ?_
      simp -implicitDefEqProofs [hlt, hr, h1, hb]
  · obtain rfl : i = rs.length := by omega
    have e : cxOk rs ↔ rs.length ≤ 48 := by
      rw [cxOk_iff]
      exact ⟨fun h => h.2, fun h => ⟨fun j hj => hi.2 j hj hj, h⟩⟩
    refine Run2.of I 1000 ?_
    simp -implicitDefEqProofs [e]
    omega

noncomputable def o_validCx : List AV → Option (Prop × AV) := tab (fun (x : LS) => match x with | rs => [.agg [.snap 1 (rs.map il)]]) (fun x => match x with | rs => ssTot rs ≤ 1048576) (fun x => match x with | rs => .bool (decide (cxOk rs)))
@[simp] theorem o_validCx_e (rs : LS) : o_validCx [.agg [.snap 1 (rs.map il)]] = some (ssTot rs ≤ 1048576, .bool (decide (cxOk rs))) := tab_at (enc := fun (x : LS) => match x with | rs => [.agg [.snap 1 (rs.map il)]]) (fun x y h => by
  simp at h; simp [h] <;> omega) _ _ rs
theorem o_validCx_k : Knows Try.prog 54 o_validCx := tab_knows fun x hx h => by
  exact validCx_s x h hx
/-! ## The reference -/
noncomputable def orcS1 : List (Nat × (List AV → Option (Prop × AV))) := (139, o_l00Rises) :: (67, o_l00In) :: []
theorem orcS1_p : Pure Try.prog (lk orcS1) := (lk_pure o_l00Rises_k (lk_pure o_l00In_k lk_pure0))
@[simp] theorem orcS1_l (b : Bool) (g : FuncId) (l : List AV) : lk orcS1 b g l = if g = 139 then o_l00Rises l else if g = 67 then o_l00In l else none := nr rfl
abbrev k112_o0 : List AJ := [.o ⟨(some 2), none, false, .mv (.c (.bool false)), (some [0])⟩]
abbrev k112_o1 : List AJ := [.o ⟨(some 3), none, false, .mv (.t 0), none⟩, .o ⟨(some 4), none, false, .len (.t 3), none⟩, .o ⟨(some 5), none, false, .call 67 [(.t 4), (.c (.int .i64 1)), (.c (.int .i64 4))], none⟩, .o ⟨(some 6), none, false, .mv (.t 5), none⟩, .o ⟨(some 7), (some (6, true)), false, .mv (.t 0), none⟩, .o ⟨(some 8), (some (6, true)), false, .call 139 [(.t 7), (.c (.int .i64 0)), (.c (.int .i64 9))], none⟩, .o ⟨(some 9), none, false, .pick (.t 6) (.t 8) (.c (.bool false)), none⟩, .o ⟨(some 2), none, false, .mv (.t 9), (some [2])⟩]
def k112_2 : ACode := .seq (.region k112_o1) .ret
def k112_3 : ACode := .seq (.region k112_o0) k112_2
@[simp, simp ↓] theorem k112_2r : sR k112_2 k112_o1 .ret := yR rfl
@[simp, simp ↓] theorem k112_3r : sR k112_3 k112_o0 k112_2 := yR rfl
noncomputable abbrev k112_C : Orc → Cx := mkC Try.prog [] 112 10 [.tmp 2]
theorem k112_of0 : OfP0 Try.prog Try.f112 112 10 k112_C k112_3 := @ofP0 _ _ _ _ _ _ _ _ Try.func112 (by decide +kernel) rfl (by kernel_rfl) rfl (by kernel_rfl)
theorem l05Simplex_s (s : List Int) (h : Heap) (hl : s.length ≤ 1048576) : ACalls Try.prog 112 [.snap 1 (s.map iv)] h (fun v h' => v = .bool (decide (smOk s)) ∧ h' = h) := by
  refine k112_of0 rfl orcS1_p fun I => ?_
  have e : smOk s ↔ (1 ≤ s.length ∧ s.length ≤ 4) ∧ btw s 0 9 ∧ riseS s := by
    unfold smOk btw
    constructor
    · rintro ⟨h1, h2, h3⟩; exact ⟨h1, h3, h2⟩
    · rintro ⟨h1, h2, h3⟩; exact ⟨h1, h3, h2⟩
  by_cases h1 : 1 ≤ s.length ∧ s.length ≤ 4
  · have h1' : (1 : Int) ≤ s.length := by omega
    have h2' : (s.length : Int) ≤ 4 := by omega
    have e2 : smOk s ↔ btw s 0 9 ∧ riseS s := by rw [e]; simp [h1]
    refine Run2.of I 1000 ?_
    simp -implicitDefEqProofs [hl, h1', h2', e2]
  · have h1' : ¬ ((1 : Int) ≤ s.length ∧ (s.length : Int) ≤ 4) := by omega
    have e2 : ¬ smOk s := fun h => h1 h.1
    have e3 : (decide ((1 : Int) ≤ s.length) && decide ((s.length : Int) ≤ 4)) = false := by
      rw [Bool.eq_false_iff]; simpa using h1'
    refine Run2.of I 1000 ?_
    simp -implicitDefEqProofs [hl, e2, e3]
noncomputable def o_l05Simplex : List AV → Option (Prop × AV) := tab (fun (x : List Int) => match x with | s => [.snap 1 (s.map iv)]) (fun x => match x with | s => s.length ≤ 1048576) (fun x => match x with | s => .bool (decide (smOk s)))
@[simp] theorem o_l05Simplex_e (s : List Int) : o_l05Simplex [.snap 1 (s.map iv)] = some (s.length ≤ 1048576, .bool (decide (smOk s))) := tab_at (enc := fun (x : List Int) => match x with | s => [.snap 1 (s.map iv)]) (fun x y h => by
  simp at h; simp [h] <;> omega) _ _ s
theorem o_l05Simplex_k : Knows Try.prog 112 o_l05Simplex := tab_knows fun x hx h => by
  exact l05Simplex_s x h hx
abbrev k116_o0 : List AJ := [.o ⟨(some 4), none, false, .mv (.c (.bool false)), (some [0, 1])⟩]
abbrev k116_o1 : List AJ := [.o ⟨(some 6), none, false, .mv (.t 0), none⟩, .o ⟨(some 7), none, false, .len (.t 6), none⟩, .o ⟨(some 8), none, false, .mv (.t 1), none⟩, .o ⟨(some 9), none, false, .len (.t 8), none⟩, .o ⟨(some 10), none, false, .bin .neq (.t 7) (.t 9), (some [0, 1, 10])⟩]
abbrev k116_o2 : List AJ := [.o ⟨(some 4), none, false, .mv (.c (.bool false)), (some [4])⟩]
def k116_3 : ACode := .seq (.region k116_o2) .ret
def k116_4 : ACode := .cond (.t 10) k116_3 .skip
def k116_5 : ACode := .seq (.region k116_o1) k116_4
abbrev k116_o3 : List AJ := [.o ⟨(some 5), none, false, .mv (.c (.int .i64 0)), (some [0, 1, 5])⟩]
abbrev k116_o4 : List AJ := [.o ⟨(some 11), none, false, .mv (.t 5), none⟩, .o ⟨(some 12), none, false, .mv (.t 0), none⟩, .o ⟨(some 13), none, false, .len (.t 12), none⟩, .o ⟨(some 14), none, false, .bin .lss (.t 11) (.t 13), (some [0, 1, 5, 14])⟩]
def k116_8 : ACode := .cond (.t 14) .skip (.exit 0)
def k116_9 : ACode := .seq (.region k116_o4) k116_8
abbrev k116_o5 : List AI := [⟨(some 17), none, false, .mv (.t 0), none⟩, ⟨(some 18), none, false, .mv (.t 5), none⟩, ⟨(some 19), none, false, .idxA 1 (.t 17) (.t 18), none⟩, ⟨(some 20), none, false, .load 1 false (.t 19), none⟩, ⟨(some 21), none, false, .mv (.t 1), none⟩, ⟨(some 22), none, false, .mv (.t 5), none⟩, ⟨(some 23), none, false, .idxA 1 (.t 21) (.t 22), none⟩, ⟨(some 24), none, false, .load 1 false (.t 23), none⟩, ⟨(some 25), none, false, .bin .neq (.t 20) (.t 24), (some [0, 1, 5, 25])⟩]
abbrev k116_o6 : List AJ := [.o ⟨(some 4), none, false, .mv (.c (.bool false)), (some [4])⟩]
def k116_12 : ACode := .seq (.region k116_o6) .ret
def k116_13 : ACode := .cond (.t 25) k116_12 .skip
def k116_14 : ACode := .seq (.draw k116_o5 [] rfl) k116_13
abbrev k116_o7 : List AJ := [.o ⟨(some 15), none, false, .mv (.t 5), none⟩, .o ⟨(some 16), none, true, .bin .add (.t 15) (.c (.int .i64 1)), none⟩, .o ⟨(some 5), none, false, .mv (.t 16), (some [0, 1, 5])⟩]
def k116_16 : ACode := .region k116_o7
def k116_17 : ACode := .seq (.block 1 k116_14) k116_16
def k116_18 : ACode := .seq k116_9 k116_17
def k116_19 : ACode := .loop k116_18
def k116_20 : ACode := .block 0 k116_19
def k116_21 : ACode := .seq (.region k116_o3) k116_20
abbrev k116_o8 : List AJ := [.o ⟨(some 4), none, false, .mv (.c (.bool true)), (some [4])⟩]
def k116_23 : ACode := .seq (.region k116_o8) .ret
def k116_24 : ACode := .seq k116_21 k116_23
def k116_25 : ACode := .seq k116_5 k116_24
def k116_26 : ACode := .seq (.region k116_o0) k116_25
@[simp, simp ↓] theorem k116_3r : sR k116_3 k116_o2 .ret := yR rfl
@[simp, simp ↓] theorem k116_4r : rC k116_4 (.t 10) k116_3 .skip := zC rfl
@[simp, simp ↓] theorem k116_5r : sR k116_5 k116_o1 k116_4 := yR rfl
@[simp, simp ↓] theorem k116_8r : rC k116_8 (.t 14) .skip (.exit 0) := zC rfl
@[simp, simp ↓] theorem k116_9r : sR k116_9 k116_o4 k116_8 := yR rfl
@[simp, simp ↓] theorem k116_12r : sR k116_12 k116_o6 .ret := yR rfl
@[simp, simp ↓] theorem k116_13r : rC k116_13 (.t 25) k116_12 .skip := zC rfl
@[simp, simp ↓] theorem k116_14r : sD k116_14 k116_o5 [] k116_13 := yD rfl
@[simp, simp ↓] theorem k116_16r : rR k116_16 k116_o7 := zR rfl
@[simp, simp ↓] theorem k116_17r : sB k116_17 1 k116_14 k116_16 := yB rfl
@[simp, simp ↓] theorem k116_18r : rS k116_18 k116_9 k116_17 := zS rfl
@[simp, simp ↓] theorem k116_19r : rL k116_19 k116_18 := zL rfl
@[simp, simp ↓] theorem k116_20r : rB k116_20 0 k116_19 := zB rfl
@[simp, simp ↓] theorem k116_21r : sR k116_21 k116_o3 k116_20 := yR rfl
@[simp, simp ↓] theorem k116_23r : sR k116_23 k116_o8 .ret := yR rfl
@[simp, simp ↓] theorem k116_24r : rS k116_24 k116_21 k116_23 := zS rfl
@[simp, simp ↓] theorem k116_25r : rS k116_25 k116_5 k116_24 := zS rfl
@[simp, simp ↓] theorem k116_26r : sR k116_26 k116_o0 k116_25 := yR rfl
noncomputable abbrev k116_C : Orc → Cx := mkC Try.prog [] 116 26 [.tmp 4]
theorem k116_of0 : OfP0 Try.prog Try.f116 116 26 k116_C k116_26 := @ofP0 _ _ _ _ _ _ _ _ Try.func116 (by decide +kernel) rfl (by kernel_rfl) rfl (by kernel_rfl)
theorem l00Same_s (l m : List Int) (h : Heap) (hl : l.length ≤ 1048576) : ACalls Try.prog 116 [.snap 1 (l.map iv), .snap 1 (m.map iv)] h (fun v h' => v = .bool (decide (l = m)) ∧ h' = h) := by
  refine k116_of0 rfl noPure fun I => ?_
  refine Run2.of I 1000 ?_
  simp -implicitDefEqProofs
  refine ⟨by rintro hne rfl; exact hne rfl, fun hlen => ?_⟩
  refine Run2.loop (fun i => [(0, .snap 1 (l.map iv)), (1, .snap 1 (m.map iv)), (5, .int .i64 (i : Nat))]) (fun i => h) (fun i => l.length - i) (fun i => i ≤ l.length ∧ l.take i = m.take i) 0 (by simp) fun i hi ih => ?_
  by_cases hlt : i < l.length
  · have hlt' : i < m.length := by omega
    refine Run2.of I 1000 ?_
    simp -implicitDefEqProofs [hlt, hlt']
    constructor
    · rintro hne rfl
      exact hne rfl
    · intro he
      refine ⟨by omega, ?_⟩
      have := ih (i + 1) ⟨by omega, by rw [List.take_succ_eq_append_getElem hlt, List.take_succ_eq_append_getElem hlt', hi.2, he]⟩ (by omega)
      simpa using this
  · refine Run2.of I 1000 ?_
    simp -implicitDefEqProofs [hlt]
    have : i = l.length := by omega
    have h2 := hi.2
    rw [List.take_of_length_le (by omega), List.take_of_length_le (by omega)] at h2
    exact h2
noncomputable def o_l00Same : List AV → Option (Prop × AV) := tab (fun (x : List Int × List Int) => match x with | (l, m) => [.snap 1 (l.map iv), .snap 1 (m.map iv)]) (fun x => match x with | (l, m) => l.length ≤ 1048576) (fun x => match x with | (l, m) => .bool (decide (l = m)))
@[simp] theorem o_l00Same_e (l : List Int) (m : List Int) : o_l00Same [.snap 1 (l.map iv), .snap 1 (m.map iv)] = some (l.length ≤ 1048576, .bool (decide (l = m))) := tab_at (enc := fun (x : List Int × List Int) => match x with | (l, m) => [.snap 1 (l.map iv), .snap 1 (m.map iv)]) (fun x y h => by
  obtain ⟨l1, m1⟩ := x; obtain ⟨l2, m2⟩ := y; simp at h; simp [h] <;> omega) _ _ (l, m)
theorem o_l00Same_k : Knows Try.prog 116 o_l00Same := tab_knows fun x hx h => by
  obtain ⟨l, m⟩ := x; exact l00Same_s l m h hx
noncomputable def orcS2 : List (Nat × (List AV → Option (Prop × AV))) := (116, o_l00Same) :: []
theorem orcS2_p : Pure Try.prog (lk orcS2) := (lk_pure o_l00Same_k lk_pure0)
@[simp] theorem orcS2_l (b : Bool) (g : FuncId) (l : List AV) : lk orcS2 b g l = if g = 116 then o_l00Same l else none := nr rfl
abbrev k73_o0 : List AJ := [.o ⟨(some 4), none, false, .mv (.c (.int .i64 0)), (some [0, 1])⟩]
abbrev k73_o1 : List AJ := [.o ⟨(some 5), none, false, .mv (.c (.int .i64 0)), (some [0, 1, 5])⟩]
abbrev k73_o2 : List AJ := [.o ⟨(some 6), none, false, .mv (.t 5), none⟩, .o ⟨(some 7), none, false, .mv (.t 0), none⟩, .o ⟨(some 8), none, false, .nilchk (.t 7), none⟩, .o ⟨(some 9), none, false, .fieldA 0 (.t 8), none⟩, .o ⟨(some 10), none, false, .load 1 false (.t 9), none⟩, .o ⟨(some 11), none, false, .len (.t 10), none⟩, .o ⟨(some 12), none, false, .bin .lss (.t 6) (.t 11), (some [0, 1, 5, 12])⟩]
def k73_3 : ACode := .cond (.t 12) .skip (.exit 0)
def k73_4 : ACode := .seq (.region k73_o2) k73_3
abbrev k73_o3 : List AJ := [.o ⟨(some 15), none, false, .mv (.t 0), none⟩, .o ⟨(some 16), none, false, .nilchk (.t 15), none⟩, .o ⟨(some 17), none, false, .fieldA 0 (.t 16), none⟩, .o ⟨(some 18), none, false, .load 1 false (.t 17), none⟩, .o ⟨(some 19), none, false, .mv (.t 5), none⟩, .o ⟨(some 20), none, false, .idxA 1 (.t 18) (.t 19), none⟩, .o ⟨(some 21), none, false, .load 1 false (.t 20), none⟩, .o ⟨(some 22), none, false, .mv (.t 1), none⟩, .o ⟨(some 23), none, false, .call 116 [(.t 21), (.t 22)], (some [0, 1, 5, 23])⟩]
abbrev k73_o4 : List AJ := [.o ⟨(some 24), none, false, .mv (.t 5), none⟩, .o ⟨(some 4), none, false, .mv (.t 24), (some [4])⟩]
def k73_7 : ACode := .seq (.region k73_o4) .ret
def k73_8 : ACode := .cond (.t 23) k73_7 .skip
def k73_9 : ACode := .seq (.region k73_o3) k73_8
abbrev k73_o5 : List AJ := [.o ⟨(some 13), none, false, .mv (.t 5), none⟩, .o ⟨(some 14), none, true, .bin .add (.t 13) (.c (.int .i64 1)), none⟩, .o ⟨(some 5), none, false, .mv (.t 14), (some [0, 1, 5])⟩]
def k73_11 : ACode := .region k73_o5
def k73_12 : ACode := .seq (.block 1 k73_9) k73_11
def k73_13 : ACode := .seq k73_4 k73_12
def k73_14 : ACode := .loop k73_13
def k73_15 : ACode := .block 0 k73_14
def k73_16 : ACode := .seq (.region k73_o1) k73_15
abbrev k73_o6 : List AJ := [.o ⟨(some 4), none, false, .mv (.c (.int .i64 (-1))), (some [4])⟩]
def k73_18 : ACode := .seq (.region k73_o6) .ret
def k73_19 : ACode := .seq k73_16 k73_18
def k73_20 : ACode := .seq (.region k73_o0) k73_19
@[simp, simp ↓] theorem k73_3r : rC k73_3 (.t 12) .skip (.exit 0) := zC rfl
@[simp, simp ↓] theorem k73_4r : sR k73_4 k73_o2 k73_3 := yR rfl
@[simp, simp ↓] theorem k73_7r : sR k73_7 k73_o4 .ret := yR rfl
@[simp, simp ↓] theorem k73_8r : rC k73_8 (.t 23) k73_7 .skip := zC rfl
@[simp, simp ↓] theorem k73_9r : sR k73_9 k73_o3 k73_8 := yR rfl
@[simp, simp ↓] theorem k73_11r : rR k73_11 k73_o5 := zR rfl
@[simp, simp ↓] theorem k73_12r : sB k73_12 1 k73_9 k73_11 := yB rfl
@[simp, simp ↓] theorem k73_13r : rS k73_13 k73_4 k73_12 := zS rfl
@[simp, simp ↓] theorem k73_14r : rL k73_14 k73_13 := zL rfl
@[simp, simp ↓] theorem k73_15r : rB k73_15 0 k73_14 := zB rfl
@[simp, simp ↓] theorem k73_16r : sR k73_16 k73_o1 k73_15 := yR rfl
@[simp, simp ↓] theorem k73_18r : sR k73_18 k73_o6 .ret := yR rfl
@[simp, simp ↓] theorem k73_19r : rS k73_19 k73_16 k73_18 := zS rfl
@[simp, simp ↓] theorem k73_20r : sR k73_20 k73_o0 k73_19 := yR rfl
noncomputable abbrev k73_C : Orc → Cx := mkC Try.prog [] 73 25 [.tmp 4]
theorem k73_of0 : OfP0 Try.prog Try.f73 73 25 k73_C k73_20 := @ofP0 _ _ _ _ _ _ _ _ Try.func73 (by decide +kernel) rfl (by kernel_rfl) rfl (by kernel_rfl)
theorem l05Find_s (rs : List (List Int)) (e : List AV) (s : List Int) (h : Heap) (hl : ssTot rs ≤ 1048576) : ACalls Try.prog 73 [.ip (.snap 1 (rs.map il) :: e), .snap 1 (s.map iv)] h (fun v h' => v = .int .i64 (ixS rs s) ∧ h' = h) := by
  have hf := fit_of_tot hl
  have hn := hf.1
  refine k73_of0 rfl orcS2_p fun I => ?_
  refine Run2.of I 1000 ?_
  simp -implicitDefEqProofs
  refine Run2.loopE (fun (i : Nat) => [(0, .ip (.snap 1 (rs.map il) :: e)), (1, .snap 1 (s.map iv)), (5, .int .i64 i)]) (fun i => h) (fun i => rs.length - i) (fun i => i ≤ rs.length ∧ ∀ j (hj : j < rs.length), j < i → rs[j] ≠ s) 0 (by simp) rfl ⟨Nat.zero_le _, fun _ _ h => by omega⟩ fun i hi ih => ?_
  by_cases hlt : i < rs.length
  · have hr := hf.2 _ (List.getElem_mem hlt)
    have go := fun (h1 : rs[i] ≠ s) => ih (i + 1) ⟨by omega, fun j hj hji => by
      rcases Nat.lt_or_ge j i with h | h
      · exact hi.2 j hj h
      · obtain rfl : j = i := by omega
        exact h1⟩ (by omega)
    have hat := fun (h1 : rs[i] = s) => ixS_at hlt h1 hi.2
    clear ih
    refine Run2.of I 1000 ?_
    simp -implicitDefEqProofs [hlt, hr]
    refine ⟨fun h => (hat h).symm, fun h => ⟨by omega, by simpa using go h⟩⟩
  · obtain rfl : i = rs.length := by omega
    have hno := ixS_none (rs := rs) (s := s) fun hm => by
      obtain ⟨j, hj, e'⟩ := List.mem_iff_getElem.1 hm
      exact hi.2 j hj hj e'
    refine Run2.of I 1000 ?_
    simp -implicitDefEqProofs
    exact hno.symm
noncomputable def o_l05Find : List AV → Option (Prop × AV) := tab (fun (x : LS × List AV × List Int) => match x with | (rs, e, s) => [.ip (.snap 1 (rs.map il) :: e), .snap 1 (s.map iv)]) (fun x => match x with | (rs, e, s) => ssTot rs ≤ 1048576) (fun x => match x with | (rs, e, s) => .int .i64 (ixS rs s))
@[simp] theorem o_l05Find_e (rs : LS) (e : List AV) (s : List Int) : o_l05Find [.ip (.snap 1 (rs.map il) :: e), .snap 1 (s.map iv)] = some (ssTot rs ≤ 1048576, .int .i64 (ixS rs s)) := tab_at (enc := fun (x : LS × List AV × List Int) => match x with | (rs, e, s) => [.ip (.snap 1 (rs.map il) :: e), .snap 1 (s.map iv)]) (fun x y h => by
  obtain ⟨rs1, e1, s1⟩ := x; obtain ⟨rs2, e2, s2⟩ := y; simp at h; simp [h] <;> omega) _ _ (rs, e, s)
theorem o_l05Find_k : Knows Try.prog 73 o_l05Find := tab_knows fun x hx h => by
  obtain ⟨rs, e, s⟩ := x; exact l05Find_s rs e s h hx
abbrev k113_o0 : List AJ := [.o ⟨(some 4), none, false, .mv (.c (.bool false)), (some [0, 1])⟩]
abbrev k113_o1 : List AJ := [.o ⟨(some 6), none, false, .mv (.t 0), none⟩, .o ⟨(some 7), none, false, .len (.t 6), none⟩, .o ⟨(some 8), none, false, .mv (.t 1), none⟩, .o ⟨(some 9), none, false, .len (.t 8), none⟩, .o ⟨(some 10), none, false, .bin .neq (.t 7) (.t 9), (some [0, 1, 10])⟩]
abbrev k113_o2 : List AJ := [.o ⟨(some 11), none, false, .mv (.t 0), none⟩, .o ⟨(some 12), none, false, .len (.t 11), none⟩, .o ⟨(some 13), none, false, .mv (.t 1), none⟩, .o ⟨(some 14), none, false, .len (.t 13), none⟩, .o ⟨(some 15), none, false, .bin .lss (.t 12) (.t 14), none⟩, .o ⟨(some 4), none, false, .mv (.t 15), (some [4])⟩]
def k113_3 : ACode := .seq (.region k113_o2) .ret
def k113_4 : ACode := .cond (.t 10) k113_3 .skip
def k113_5 : ACode := .seq (.region k113_o1) k113_4
abbrev k113_o3 : List AJ := [.o ⟨(some 5), none, false, .mv (.c (.int .i64 0)), (some [0, 1, 5])⟩]
abbrev k113_o4 : List AJ := [.o ⟨(some 16), none, false, .mv (.t 5), none⟩, .o ⟨(some 17), none, false, .mv (.t 0), none⟩, .o ⟨(some 18), none, false, .len (.t 17), none⟩, .o ⟨(some 19), none, false, .bin .lss (.t 16) (.t 18), (some [0, 1, 5, 19])⟩]
def k113_8 : ACode := .cond (.t 19) .skip (.exit 0)
def k113_9 : ACode := .seq (.region k113_o4) k113_8
abbrev k113_o5 : List AI := [⟨(some 22), none, false, .mv (.t 0), none⟩, ⟨(some 23), none, false, .mv (.t 5), none⟩, ⟨(some 24), none, false, .idxA 1 (.t 22) (.t 23), none⟩, ⟨(some 25), none, false, .load 1 false (.t 24), none⟩, ⟨(some 26), none, false, .mv (.t 1), none⟩, ⟨(some 27), none, false, .mv (.t 5), none⟩, ⟨(some 28), none, false, .idxA 1 (.t 26) (.t 27), none⟩, ⟨(some 29), none, false, .load 1 false (.t 28), none⟩, ⟨(some 30), none, false, .bin .neq (.t 25) (.t 29), (some [0, 1, 5, 30])⟩]
abbrev k113_o6 : List AI := [⟨(some 31), none, false, .mv (.t 0), none⟩, ⟨(some 32), none, false, .mv (.t 5), none⟩, ⟨(some 33), none, false, .idxA 1 (.t 31) (.t 32), none⟩, ⟨(some 34), none, false, .load 1 false (.t 33), none⟩, ⟨(some 35), none, false, .mv (.t 1), none⟩, ⟨(some 36), none, false, .mv (.t 5), none⟩, ⟨(some 37), none, false, .idxA 1 (.t 35) (.t 36), none⟩, ⟨(some 38), none, false, .load 1 false (.t 37), none⟩, ⟨(some 39), none, false, .bin .lss (.t 34) (.t 38), none⟩, ⟨(some 4), none, false, .mv (.t 39), (some [4])⟩]
def k113_12 : ACode := .seq (.draw k113_o6 [] rfl) .ret
def k113_13 : ACode := .cond (.t 30) k113_12 .skip
def k113_14 : ACode := .seq (.draw k113_o5 [] rfl) k113_13
abbrev k113_o7 : List AJ := [.o ⟨(some 20), none, false, .mv (.t 5), none⟩, .o ⟨(some 21), none, true, .bin .add (.t 20) (.c (.int .i64 1)), none⟩, .o ⟨(some 5), none, false, .mv (.t 21), (some [0, 1, 5])⟩]
def k113_16 : ACode := .region k113_o7
def k113_17 : ACode := .seq (.block 1 k113_14) k113_16
def k113_18 : ACode := .seq k113_9 k113_17
def k113_19 : ACode := .loop k113_18
def k113_20 : ACode := .block 0 k113_19
def k113_21 : ACode := .seq (.region k113_o3) k113_20
abbrev k113_o8 : List AJ := [.o ⟨(some 4), none, false, .mv (.c (.bool false)), (some [4])⟩]
def k113_23 : ACode := .seq (.region k113_o8) .ret
def k113_24 : ACode := .seq k113_21 k113_23
def k113_25 : ACode := .seq k113_5 k113_24
def k113_26 : ACode := .seq (.region k113_o0) k113_25
@[simp, simp ↓] theorem k113_3r : sR k113_3 k113_o2 .ret := yR rfl
@[simp, simp ↓] theorem k113_4r : rC k113_4 (.t 10) k113_3 .skip := zC rfl
@[simp, simp ↓] theorem k113_5r : sR k113_5 k113_o1 k113_4 := yR rfl
@[simp, simp ↓] theorem k113_8r : rC k113_8 (.t 19) .skip (.exit 0) := zC rfl
@[simp, simp ↓] theorem k113_9r : sR k113_9 k113_o4 k113_8 := yR rfl
@[simp, simp ↓] theorem k113_12r : sD k113_12 k113_o6 [] .ret := yD rfl
@[simp, simp ↓] theorem k113_13r : rC k113_13 (.t 30) k113_12 .skip := zC rfl
@[simp, simp ↓] theorem k113_14r : sD k113_14 k113_o5 [] k113_13 := yD rfl
@[simp, simp ↓] theorem k113_16r : rR k113_16 k113_o7 := zR rfl
@[simp, simp ↓] theorem k113_17r : sB k113_17 1 k113_14 k113_16 := yB rfl
@[simp, simp ↓] theorem k113_18r : rS k113_18 k113_9 k113_17 := zS rfl
@[simp, simp ↓] theorem k113_19r : rL k113_19 k113_18 := zL rfl
@[simp, simp ↓] theorem k113_20r : rB k113_20 0 k113_19 := zB rfl
@[simp, simp ↓] theorem k113_21r : sR k113_21 k113_o3 k113_20 := yR rfl
@[simp, simp ↓] theorem k113_23r : sR k113_23 k113_o8 .ret := yR rfl
@[simp, simp ↓] theorem k113_24r : rS k113_24 k113_21 k113_23 := zS rfl
@[simp, simp ↓] theorem k113_25r : rS k113_25 k113_5 k113_24 := zS rfl
@[simp, simp ↓] theorem k113_26r : sR k113_26 k113_o0 k113_25 := yR rfl
noncomputable abbrev k113_C : Orc → Cx := mkC Try.prog [] 113 40 [.tmp 4]
theorem k113_of0 : OfP0 Try.prog Try.f113 113 40 k113_C k113_26 := @ofP0 _ _ _ _ _ _ _ _ Try.func113 (by decide +kernel) rfl (by kernel_rfl) rfl (by kernel_rfl)
theorem l05Before_s (a b : List Int) (h : Heap) (hl : a.length ≤ 1048576) : ACalls Try.prog 113 [.snap 1 (a.map iv), .snap 1 (b.map iv)] h (fun v h' => v = .bool (decide (cmpS a b < 0)) ∧ h' = h) := by
  refine k113_of0 rfl noPure fun I => ?_
  by_cases hab : a.length = b.length
  · have e0 : cmpS a b = lexC a b := by unfold cmpS cmpZ; simp [hab]
    have hab' : (a.length : Int) = b.length := by omega
    refine Run2.of I 1000 ?_
    simp -implicitDefEqProofs [hab']
    refine Run2.loopE (fun (i : Nat) => [(0, .snap 1 (a.map iv)), (1, .snap 1 (b.map iv)), (5, .int .i64 i)]) (fun i => h) (fun i => a.length - i) (fun i => i ≤ a.length ∧ lexC (a.drop i) (b.drop i) = lexC a b) 0 (by simp) rfl (by simp) fun i hi ih => ?_
    have hc := hi.2
    by_cases hlt : i < a.length
    · have hlt2 : i < b.length := by omega
      rw [List.drop_eq_getElem_cons hlt, List.drop_eq_getElem_cons hlt2] at hc
      simp only [lexC] at hc
      have go := fun (hz : a[i] = b[i]) => ih (i + 1) ⟨by omega, by rw [← hc, if_pos ((cmpZ_zero _ _).2 hz)]⟩ (by omega)
      have hne := fun (hz : ¬ a[i] = b[i]) => show a[i] < b[i] ↔ cmpS a b < 0 by
        rw [e0, ← hc, if_neg (fun h => hz ((cmpZ_zero _ _).1 h)), cmpZ_neg]
      clear ih
      refine Run2.of I 1000 ?_
      simp -implicitDefEqProofs [hlt, hlt2]
      refine ⟨fun h => hne h, fun h => ⟨by omega, by simpa using go h⟩⟩
    · obtain rfl : i = a.length := by omega
      rw [List.drop_length, List.drop_of_length_le (by omega)] at hc
      simp only [lexC] at hc
      have : ¬ cmpS a b < 0 := by rw [e0]; omega
      refine Run2.of I 1000 ?_
      simp -implicitDefEqProofs [hlt, this]
  · have e0 : cmpS a b < 0 ↔ (a.length : Int) < b.length := by unfold cmpS cmpZ; grind
    have hab' : ¬ (a.length : Int) = b.length := by omega
    refine Run2.of I 1000 ?_
    simp -implicitDefEqProofs [hab', e0]
noncomputable def o_l05Before : List AV → Option (Prop × AV) := tab (fun (x : List Int × List Int) => match x with | (a, b) => [.snap 1 (a.map iv), .snap 1 (b.map iv)]) (fun x => match x with | (a, b) => a.length ≤ 1048576) (fun x => match x with | (a, b) => .bool (decide (cmpS a b < 0)))
@[simp] theorem o_l05Before_e (a : List Int) (b : List Int) : o_l05Before [.snap 1 (a.map iv), .snap 1 (b.map iv)] = some (a.length ≤ 1048576, .bool (decide (cmpS a b < 0))) := tab_at (enc := fun (x : List Int × List Int) => match x with | (a, b) => [.snap 1 (a.map iv), .snap 1 (b.map iv)]) (fun x y h => by
  obtain ⟨a1, b1⟩ := x; obtain ⟨a2, b2⟩ := y; simp at h; simp [h] <;> omega) _ _ (a, b)
theorem o_l05Before_k : Knows Try.prog 113 o_l05Before := tab_knows fun x hx h => by
  obtain ⟨a, b⟩ := x; exact l05Before_s a b h hx
theorem Grow.appAny {sz : Nat} {w : AV} {l new : List AV} {hp h : Heap} {C : Cx} {n : Nat} {d : Option Nat} {ks : Option (List Nat)} {is : List AJ} {sk : List AItem} {R : AV → Heap → Prop} {e : Env} {bytes : Nat} (g : Grow sz w l hp) (hb : (2 * (l.length + new.length)) * bytes ≤ 281474976710656)
    (k : ∀ w' hp', Grow sz w' (l ++ new) hp' → vc2 C n is sk (kp (put e d w') ks) (hp' ++ h) R) : resK C n d ks is sk R e (hp ++ h) (appR (hp ++ h) sz bytes w new) := by
  by_cases hn : new = []
  · subst hn
    cases g with
    | nil =>
      simp only [appR_n]
      exact ⟨fun _ => k _ _ .nil, fun h => by cases h⟩
    | emp =>
      simp only [appR_e]
      exact ⟨fun _ => k _ _ .emp, fun h => by cases h⟩
    | sl id l m hm =>
      subst hm
      have hd : hdel ((id, ⟨sz, l⟩) :: h) id = h := by simp [hdel]
      rw [appR_ln]
      refine ⟨rfl, ⟨sz, l⟩, by simp [hget], rfl, by simp, rfl, hb, fun id' _ => ?_⟩
      have := k _ _ (.sl id' (l ++ []) (l.length + 0) (by simp))
      simpa [hd] using this
  · exact g.app hb hn k
abbrev k114_o0 : List AJ := [.o ⟨(some 4), none, false, .mv (.c .nilsl), (some [0, 1])⟩]
abbrev k114_o1 : List AJ := [.o ⟨(some 6), none, false, .mv (.t 0), none⟩, .o ⟨(some 7), none, false, .mv (.t 1), none⟩, .o ⟨(some 8), none, false, .slice 1 (.t 6) none (some (.t 7)) none, none⟩, .o ⟨(some 9), none, false, .call 89 [(.t 8)], none⟩, .o ⟨(some 5), none, false, .mv (.t 9), (some [0, 1, 5])⟩]
abbrev k114_o2 : List AJ := [.o ⟨(some 10), none, false, .mv (.t 5), none⟩, .o ⟨(some 11), none, false, .mv (.t 0), none⟩, .o ⟨(some 12), none, false, .mv (.t 1), none⟩, .o ⟨(some 13), none, true, .bin .add (.t 12) (.c (.int .i64 1)), none⟩, .o ⟨(some 14), none, false, .slice 1 (.t 11) (some (.t 13)) none none, none⟩, .o ⟨(some 15), none, false, .append 1 8 (.t 10) (.t 14), none⟩, .o ⟨(some 4), none, false, .mv (.t 15), (some [4])⟩]
def k114_3 : ACode := .seq (.region k114_o2) .ret
def k114_4 : ACode := .seq (.region k114_o1) k114_3
def k114_5 : ACode := .seq (.region k114_o0) k114_4
@[simp, simp ↓] theorem k114_3r : sR k114_3 k114_o2 .ret := yR rfl
@[simp, simp ↓] theorem k114_4r : sR k114_4 k114_o1 k114_3 := yR rfl
@[simp, simp ↓] theorem k114_5r : sR k114_5 k114_o0 k114_4 := yR rfl
noncomputable abbrev k114_C : Orc → Cx := mkC Try.prog [] 114 16 [.tmp 4]
theorem k114_of : OfP Try.prog Try.f114 114 16 k114_C k114_5 := @ofP _ _ _ _ _ _ _ _ Try.func114 (by decide +kernel) rfl (by kernel_rfl) rfl (by kernel_rfl)
theorem l05Drop_s (s : List Int) (k : Nat) (h : Heap) (hl : s.length ≤ 1048576) (hk : k < s.length) : ACalls Try.prog 114 [.snap 1 (s.map iv), .int .i64 k] h (fun v h' => v = il (dropK s k) ∧ h' = h) := by
  refine k114_of rfl noPure fun I => ?_
  refine Run2.of I 1000 ?_
  simp -implicitDefEqProofs
  refine ⟨by omega, ?_⟩
  rw [← List.map_take]
  refine (l00Own_g (s.take k) h (by simp; omega)).mono ?_
  rintro v h' ⟨hp, g, rfl⟩
  have hcell := g.cell
  refine gK.go ?_
  simp -implicitDefEqProofs [hcell]
  refine ⟨by omega, by omega, ?_⟩
  have htk : List.take ((s.length : Int) - ((k : Int) + 1)).toNat (List.drop (k + 1) (List.map iv s)) = List.drop (k + 1) (List.map iv s) := List.take_of_length_le (by simp; omega)
  rw [htk]
  refine g.appAny (by simp; omega) fun w' hp' hg' => ?_
  have hcell' := hg'.cell
  simp -implicitDefEqProofs [hcell']
  refine hg'.froze (fun x => x) (fun _ _ _ => rfl) (fun _ _ h => h) (.base ⟨?_, rfl⟩)
  simp [dropK]
noncomputable def o_l05Drop : List AV → Option (Prop × AV) := tab (fun (x : List Int × Nat) => match x with | (s, k) => [.snap 1 (s.map iv), .int .i64 k]) (fun x => match x with | (s, k) => (s.length ≤ 1048576 ∧ k < s.length)) (fun x => match x with | (s, k) => .snap 1 ((dropK s k).map iv))
@[simp] theorem o_l05Drop_e (s : List Int) (k : Nat) : o_l05Drop [.snap 1 (s.map iv), .int .i64 k] = some ((s.length ≤ 1048576 ∧ k < s.length), .snap 1 ((dropK s k).map iv)) := tab_at (enc := fun (x : List Int × Nat) => match x with | (s, k) => [.snap 1 (s.map iv), .int .i64 k]) (fun x y h => by
  obtain ⟨s1, k1⟩ := x; obtain ⟨s2, k2⟩ := y; simp at h; simp [h] <;> omega) _ _ (s, k)
theorem o_l05Drop_k : Knows Try.prog 114 o_l05Drop := tab_knows fun x hx h => by
  obtain ⟨s, k⟩ := x; exact l05Drop_s s k h hx.1 hx.2
end Go.AG
