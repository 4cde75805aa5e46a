/- Texts: numbers in decimal, the program and the reference. No statement is made here. -/
import Derived.Test.YtnbllllkaohfoaaDoorStF
import Derived.Test.YtnbllllkaohfoaaDoorAGLists2
import Derived.Test.YtnbllllkaohfoaaDoorIntS
namespace Go.AG
open Go.Proofs Go.Proofs.YtnbllllkaohfoaaDoor
set_option linter.unusedSimpArgs false
set_option linter.unusedVariables false
set_option maxRecDepth 4000
abbrev k40_o0 : List AJ := [.o ⟨(some 2), none, false, .mv (.c (.str [])), (some [0])⟩]
abbrev k40_o1 : List AJ := [.o ⟨(some 3), none, false, .mv (.t 0), none⟩, .o ⟨(some 4), none, false, .call 74 [(.t 3), (.c (.int .i64 10))], none⟩, .o ⟨(some 2), none, false, .mv (.t 4), (some [2])⟩]
def k40_2 : ACode := .seq (.region k40_o1) .ret
def k40_3 : ACode := .seq (.region k40_o0) k40_2
@[simp, simp ↓] theorem k40_2r : sR k40_2 k40_o1 .ret := yR rfl
@[simp, simp ↓] theorem k40_3r : sR k40_3 k40_o0 k40_2 := yR rfl
noncomputable abbrev k40_C : Orc → Cx := mkC Tryd.prog [] 40 5 [.tmp 2]
theorem k40_of0 : OfP0 Tryd.prog Tryd.f40 40 5 k40_C k40_3 := @ofP0 _ _ _ _ _ _ _ _ Tryd.func40 (by decide +kernel) rfl (by kernel_rfl) rfl (by kernel_rfl)
theorem Decimal_c (n : Int) (h : Heap) (hn : in64 n) : ACalls Tryd.prog 40 [.int .i64 n] h (fun v h' => v = .str (Lib.itoa n) ∧ h' = h) := by
  refine k40_of0 rfl noPure fun I => ?_
  refine Run2.of I 1000 ?_
  simp -implicitDefEqProofs
  refine (fmt10_c n h (by have := hn; unfold in64 at this; omega) (by have := hn; unfold in64 at this; omega)).mono ?_
  rintro v h' ⟨rfl, rfl⟩
  refine gK.go ?_
  simp -implicitDefEqProofs
noncomputable def o_Decimal : List AV → Option (Prop × AV) := tab (fun (x : Int) => match x with | n => [.int .i64 n]) (fun x => match x with | n => in64 n) (fun x => match x with | n => .str (Lib.itoa n))
@[simp] theorem o_Decimal_e (n : Int) : o_Decimal [.int .i64 n] = some (in64 n, .str (Lib.itoa n)) := tab_at (enc := fun (x : Int) => match x with | n => [.int .i64 n]) (fun x y h => by
  simp at h; simp [h] <;> omega) _ _ n
theorem o_Decimal_k : Knows Tryd.prog 40 o_Decimal := tab_knows fun x hx h => by
  exact Decimal_c x h hx
abbrev k69_o0 : List AJ := [.o ⟨(some 2), none, false, .mv (.c (.str [])), (some [0])⟩]
abbrev k69_o1 : List AJ := [.o ⟨(some 8), none, false, .mv (.t 0), none⟩, .o ⟨(some 9), none, false, .bin .eql (.t 8) (.c (.int .i64 0)), (some [0, 9])⟩]
abbrev k69_o2 : List AJ := [.o ⟨(some 2), none, false, .mv (.c (.str [48])), (some [2])⟩]
def k69_3 : ACode := .seq (.region k69_o2) .ret
def k69_4 : ACode := .cond (.t 9) k69_3 .skip
def k69_5 : ACode := .seq (.region k69_o1) k69_4
abbrev k69_o3 : List AJ := [.e 10 1 none, .o ⟨(some 3), none, false, .mv (.t 10), (some [0, 3])⟩]
abbrev k69_o4 : List AJ := [.o ⟨(some 11), none, false, .mv (.t 0), none⟩, .o ⟨(some 4), none, false, .mv (.t 11), (some [0, 3, 4])⟩]
abbrev k69_o5 : List AJ := [.o ⟨(some 12), none, false, .mv (.t 4), none⟩, .o ⟨(some 13), none, false, .bin .neq (.t 12) (.c (.int .i64 0)), (some [0, 3, 4, 13])⟩]
def k69_9 : ACode := .cond (.t 13) .skip (.exit 0)
def k69_10 : ACode := .seq (.region k69_o5) k69_9
abbrev k69_o6 : List AJ := [.o ⟨(some 16), none, false, .mv (.t 4), none⟩, .o ⟨(some 17), none, false, .bin .rem (.t 16) (.c (.int .i64 10)), none⟩, .o ⟨(some 5), none, false, .mv (.t 17), (some [0, 3, 4, 5])⟩]
abbrev k69_o7 : List AJ := [.o ⟨(some 18), none, false, .mv (.t 5), none⟩, .o ⟨(some 19), none, false, .bin .lss (.t 18) (.c (.int .i64 0)), (some [0, 3, 4, 5, 19])⟩]
abbrev k69_o8 : List AJ := [.o ⟨(some 20), none, false, .mv (.t 5), none⟩, .o ⟨(some 21), none, false, .un .neg (.t 20), none⟩, .o ⟨(some 5), none, false, .mv (.t 21), (some [0, 3, 4, 5])⟩]
def k69_13 : ACode := .region k69_o8
def k69_14 : ACode := .cond (.t 19) k69_13 .skip
def k69_15 : ACode := .seq (.region k69_o7) k69_14
abbrev k69_o9 : List AJ := [.o ⟨(some 22), none, false, .mv (.t 3), none⟩, .o ⟨(some 23), none, false, .mv (.t 5), none⟩, .o ⟨(some 24), none, true, .bin .add (.c (.int .i64 48)) (.t 23), none⟩, .o ⟨(some 25), none, false, .conv .u8 (.t 24), none⟩, .o ⟨(some 26), none, false, .bsl false 1 [(.t 25)], none⟩, .o ⟨(some 27), none, false, .append 1 1 (.t 22) (.t 26), none⟩, .o ⟨(some 3), none, false, .mv (.t 27), (some [0, 3, 4])⟩]
def k69_16 : ACode := .region k69_o9
def k69_17 : ACode := .seq k69_15 k69_16
def k69_18 : ACode := .seq (.region k69_o6) k69_17
abbrev k69_o10 : List AJ := [.o ⟨(some 14), none, false, .mv (.t 4), none⟩, .o ⟨(some 15), none, true, .bin .quo (.t 14) (.c (.int .i64 10)), none⟩, .o ⟨(some 4), none, false, .mv (.t 15), (some [0, 3, 4])⟩]
def k69_20 : ACode := .region k69_o10
def k69_21 : ACode := .seq (.block 1 k69_18) k69_20
def k69_22 : ACode := .seq k69_10 k69_21
def k69_23 : ACode := .loop k69_22
def k69_24 : ACode := .block 0 k69_23
def k69_25 : ACode := .seq (.region k69_o4) k69_24
abbrev k69_o11 : List AJ := [.o ⟨(some 28), none, false, .mv (.t 0), none⟩, .o ⟨(some 29), none, false, .bin .lss (.t 28) (.c (.int .i64 0)), (some [3, 29])⟩]
abbrev k69_o12 : List AJ := [.o ⟨(some 30), none, false, .mv (.t 3), none⟩, .o ⟨(some 31), none, false, .bsl false 1 [(.c (.int .u8 45))], none⟩, .o ⟨(some 32), none, false, .append 1 1 (.t 30) (.t 31), none⟩, .o ⟨(some 3), none, false, .mv (.t 32), (some [3])⟩]
def k69_27 : ACode := .region k69_o12
def k69_28 : ACode := .cond (.t 29) k69_27 .skip
def k69_29 : ACode := .seq (.region k69_o11) k69_28
abbrev k69_o13 : List AJ := [.e 33 1 none, .o ⟨(some 6), none, false, .mv (.t 33), (some [3, 6])⟩]
abbrev k69_o14 : List AJ := [.o ⟨(some 34), none, false, .mv (.t 3), none⟩, .o ⟨(some 35), none, false, .len (.t 34), none⟩, .o ⟨(some 36), none, true, .bin .sub (.t 35) (.c (.int .i64 1)), none⟩, .o ⟨(some 7), none, false, .mv (.t 36), (some [3, 6, 7])⟩]
abbrev k69_o15 : List AJ := [.o ⟨(some 37), none, false, .mv (.t 7), none⟩, .o ⟨(some 38), none, false, .bin .geq (.t 37) (.c (.int .i64 0)), (some [3, 6, 7, 38])⟩]
def k69_33 : ACode := .cond (.t 38) .skip (.exit 2)
def k69_34 : ACode := .seq (.region k69_o15) k69_33
abbrev k69_o16 : List AJ := [.o ⟨(some 41), none, false, .mv (.t 6), none⟩, .o ⟨(some 42), none, false, .mv (.t 3), none⟩, .o ⟨(some 43), none, false, .mv (.t 7), none⟩, .o ⟨(some 44), none, false, .idxA 1 (.t 42) (.t 43), none⟩, .o ⟨(some 45), none, false, .load 1 false (.t 44), none⟩, .o ⟨(some 46), none, false, .bsl false 1 [(.t 45)], none⟩, .o ⟨(some 47), none, false, .append 1 1 (.t 41) (.t 46), none⟩, .o ⟨(some 6), none, false, .mv (.t 47), (some [3, 6, 7])⟩]
def k69_35 : ACode := .region k69_o16
abbrev k69_o17 : List AJ := [.o ⟨(some 39), none, false, .mv (.t 7), none⟩, .o ⟨(some 40), none, true, .bin .sub (.t 39) (.c (.int .i64 1)), none⟩, .o ⟨(some 7), none, false, .mv (.t 40), (some [3, 6, 7])⟩]
def k69_37 : ACode := .region k69_o17
def k69_38 : ACode := .seq (.block 3 k69_35) k69_37
def k69_39 : ACode := .seq k69_34 k69_38
def k69_40 : ACode := .loop k69_39
def k69_41 : ACode := .block 2 k69_40
def k69_42 : ACode := .seq (.region k69_o14) k69_41
abbrev k69_o18 : List AJ := [.o ⟨(some 48), none, false, .mv (.t 6), none⟩, .o ⟨(some 49), none, false, .bstr (.t 48), none⟩, .o ⟨(some 2), none, false, .mv (.t 49), (some [2])⟩]
def k69_44 : ACode := .seq (.region k69_o18) .ret
def k69_45 : ACode := .seq k69_42 k69_44
def k69_46 : ACode := .seq (.region k69_o13) k69_45
def k69_47 : ACode := .seq k69_29 k69_46
def k69_48 : ACode := .seq k69_25 k69_47
def k69_49 : ACode := .seq (.region k69_o3) k69_48
def k69_50 : ACode := .seq k69_5 k69_49
def k69_51 : ACode := .seq (.region k69_o0) k69_50
@[simp, simp ↓] theorem k69_3r : sR k69_3 k69_o2 .ret := yR rfl
@[simp, simp ↓] theorem k69_4r : rC k69_4 (.t 9) k69_3 .skip := zC rfl
@[simp, simp ↓] theorem k69_5r : sR k69_5 k69_o1 k69_4 := yR rfl
@[simp, simp ↓] theorem k69_9r : rC k69_9 (.t 13) .skip (.exit 0) := zC rfl
@[simp, simp ↓] theorem k69_10r : sR k69_10 k69_o5 k69_9 := yR rfl
@[simp, simp ↓] theorem k69_13r : rR k69_13 k69_o8 := zR rfl
@[simp, simp ↓] theorem k69_14r : rC k69_14 (.t 19) k69_13 .skip := zC rfl
@[simp, simp ↓] theorem k69_15r : sR k69_15 k69_o7 k69_14 := yR rfl
@[simp, simp ↓] theorem k69_16r : rR k69_16 k69_o9 := zR rfl
@[simp, simp ↓] theorem k69_17r : rS k69_17 k69_15 k69_16 := zS rfl
@[simp, simp ↓] theorem k69_18r : sR k69_18 k69_o6 k69_17 := yR rfl
@[simp, simp ↓] theorem k69_20r : rR k69_20 k69_o10 := zR rfl
@[simp, simp ↓] theorem k69_21r : sB k69_21 1 k69_18 k69_20 := yB rfl
@[simp, simp ↓] theorem k69_22r : rS k69_22 k69_10 k69_21 := zS rfl
@[simp, simp ↓] theorem k69_23r : rL k69_23 k69_22 := zL rfl
@[simp, simp ↓] theorem k69_24r : rB k69_24 0 k69_23 := zB rfl
@[simp, simp ↓] theorem k69_25r : sR k69_25 k69_o4 k69_24 := yR rfl
@[simp, simp ↓] theorem k69_27r : rR k69_27 k69_o12 := zR rfl
@[simp, simp ↓] theorem k69_28r : rC k69_28 (.t 29) k69_27 .skip := zC rfl
@[simp, simp ↓] theorem k69_29r : sR k69_29 k69_o11 k69_28 := yR rfl
@[simp, simp ↓] theorem k69_33r : rC k69_33 (.t 38) .skip (.exit 2) := zC rfl
@[simp, simp ↓] theorem k69_34r : sR k69_34 k69_o15 k69_33 := yR rfl
@[simp, simp ↓] theorem k69_35r : rR k69_35 k69_o16 := zR rfl
@[simp, simp ↓] theorem k69_37r : rR k69_37 k69_o17 := zR rfl
@[simp, simp ↓] theorem k69_38r : sB k69_38 3 k69_35 k69_37 := yB rfl
@[simp, simp ↓] theorem k69_39r : rS k69_39 k69_34 k69_38 := zS rfl
@[simp, simp ↓] theorem k69_40r : rL k69_40 k69_39 := zL rfl
@[simp, simp ↓] theorem k69_41r : rB k69_41 2 k69_40 := zB rfl
@[simp, simp ↓] theorem k69_42r : sR k69_42 k69_o14 k69_41 := yR rfl
@[simp, simp ↓] theorem k69_44r : sR k69_44 k69_o18 .ret := yR rfl
@[simp, simp ↓] theorem k69_45r : rS k69_45 k69_42 k69_44 := zS rfl
@[simp, simp ↓] theorem k69_46r : sR k69_46 k69_o13 k69_45 := yR rfl
@[simp, simp ↓] theorem k69_47r : rS k69_47 k69_29 k69_46 := zS rfl
@[simp, simp ↓] theorem k69_48r : rS k69_48 k69_25 k69_47 := zS rfl
@[simp, simp ↓] theorem k69_49r : sR k69_49 k69_o3 k69_48 := yR rfl
@[simp, simp ↓] theorem k69_50r : rS k69_50 k69_5 k69_49 := zS rfl
@[simp, simp ↓] theorem k69_51r : sR k69_51 k69_o0 k69_50 := yR rfl
noncomputable abbrev k69_C : Orc → Cx := mkC Tryd.prog [10, 33] 69 50 [.tmp 2]
theorem k69_of : OfP Tryd.prog Tryd.f69 69 50 k69_C k69_51 := @ofP _ _ _ _ _ _ _ _ Tryd.func69 (by decide +kernel) rfl (by kernel_rfl) rfl (by kernel_rfl)
theorem u8_dig : ∀ d < 10, IntKind.u8.wrap (48 + (d : Nat)) = 48 + (d : Int) := by decide
theorem l01Dec_c (n : Int) (h : Heap) (hn : in64 n) : ACalls Tryd.prog 69 [.int .i64 n] h (fun v h' => v = .str (Lib.itoa n) ∧ h' = h) := by
  refine k69_of rfl noPure fun I => ?_
  by_cases h0 : n = 0
  · subst h0
    have e0 : Lib.itoa 0 = [48] := by unfold Lib.itoa; rw [if_neg (by omega)]; unfold Lib.decDigits; rfl
    rw [e0]
    refine Run2.of I 1000 ?_
    simp -implicitDefEqProofs
    exact .base ⟨rfl, rfl⟩
  · refine Run2.of I 1000 ?_
    simp -implicitDefEqProofs [h0]
    refine Run2.loopE (α := Int × AV × List UInt8 × Heap) (fun p => [(0, .int .i64 n), (3, p.2.1), (4, .int .i64 p.1)]) (fun p => p.2.2.2 ++ h) (fun p => p.1.natAbs) (fun p => in64 p.1 ∧ digAt n.natAbs p.2.2.1 p.1.natAbs ∧ Grow 1 p.2.1 (p.2.2.1.map bv) p.2.2.2) (n, .emp, [], []) (by simp) rfl ⟨hn, by unfold digAt; rw [if_neg (by omega)]; rfl, .emp⟩ ?_
    rintro ⟨m, w, D, hp⟩ ⟨hm, hD, hg⟩ ih
    simp only at hm hD hg
    have hcell := hg.cell
    have hm2 := hm
    unfold in64 at hm2
    have hDl := digAt_len hD (by have := hn; unfold in64 at this; omega)
    by_cases hm0 : m = 0
    · subst hm0
      have hDe : D = (Lib.decDigits n.natAbs).reverse := by simpa [digAt] using hD
      have hne : D ≠ [] := by
        rw [hDe]
        intro e
        have := congrArg List.length e
        rw [Lib.decDigits] at this
        split at this <;> simp at this
      clear ih hD
      by_cases hng : n < 0
      · have hne1 : D ++ [45] ≠ [] := by simp
        have hl1 : (D ++ [45]).length ≤ 21 := by simp; omega
        have hr1 : (D ++ [45]).reverse = Lib.itoa n := by unfold Lib.itoa; rw [if_pos hng, hDe]; simp
        have e45 : bv 45 = .int .u8 45 := rfl
        refine Run2.of I 1000 ?_
        simp -implicitDefEqProofs [hcell, hng]
        refine hg.app (by simp; omega) (by simp) fun w1 hp1 g1 => ?_
        have G1 : Grow 1 w1 ((D ++ [45]).map bv) hp1 := by simpa [e45] using g1
        clear g1
        have hcell1 := G1.cell
        simp -implicitDefEqProofs [hcell1]
        obtain ⟨id, rfl, rfl⟩ := G1.ne (by simp)
        generalize hDD : D ++ [45] = D1 at *
        clear hcell hg G1 hDe hne hDD
        simp -implicitDefEqProofs
        refine ⟨by omega, ?_⟩
        refine Run2.loopE (α := Nat × AV × Heap) (fun p => [(3, .sl id 1 0 D1.length none), (6, p.2.1), (7, .int .i64 ((p.1 : Int) - 1))]) (fun p => p.2.2 ++ ((id, ⟨1, D1.map bv⟩) :: h)) (fun p => p.1) (fun p => p.1 ≤ D1.length ∧ Grow 1 p.2.1 ((D1.drop p.1).reverse.map bv) p.2.2 ∧ id ∉ dom p.2.2) (D1.length, .emp, []) (by simp) (by simp) ⟨Nat.le_refl _, by simpa using Grow.emp, by simp [dom]⟩ ?_
        rintro ⟨j, w2, hp2⟩ ⟨hj, hg2, hd2⟩ ih
        simp only at hj hg2 hd2
        have hcell2 := hg2.cell
        have gI : ∀ z, hget (hp2 ++ z) id = hget z id := fun z => hget_app hd2
        by_cases hj0 : 0 < j
        · obtain ⟨p, rfl⟩ : ∃ p, j = p + 1 := ⟨j - 1, by omega⟩
          have hpl : p < D1.length := by omega
          have hdr : (D1.drop p).reverse = (D1.drop (p + 1)).reverse ++ [D1[p]] := by
            rw [List.drop_eq_getElem_cons hpl]; simp
          have go := fun w' hp' => ih (p, w', hp')
          simp only [hdr, List.map_append, List.map_cons, List.map_nil] at go
          clear ih
          refine Run2.of I 1000 ?_
          have hb : bv D1[p] = .int .u8 (D1[p].toNat) := rfl
          rw [hb] at go
          simp -implicitDefEqProofs [hcell2, hpl, gI, hb]
          refine hg2.app_mid (pre := []) (bytes := 1) (new := [.int .u8 (D1[p].toNat)]) (fun _ _ h => by simp [dom] at h) (by simp; omega) (by simp) fun w3 hp3 hg3 hd3 => ?_
          have hcell3 := hg3.cell
          have := go w3 hp3 ⟨by omega, hg3, fun hm => hd3 id hm (List.mem_cons_self ..)⟩ (by omega)
          simp -implicitDefEqProofs [hcell3]
          exact ⟨by omega, by simpa using this⟩
        · obtain rfl : j = 0 := by omega
          simp only [List.drop_zero] at hg2
          obtain ⟨id2, rfl, rfl⟩ := hg2.ne (by simpa using hne1)
          clear ih
          refine Run2.freeze id2 (by simp [hget]; rfl) ?_
          have hne2 : ¬ id = id2 := by simpa [dom] using hd2
          have hB : bytesAV (List.take D1.length (List.map bv D1).reverse) = some D1.reverse := by
            rw [List.take_of_length_le (by simp), ← List.map_reverse]
            exact bytesAV_bv _
          simp -implicitDefEqProofs [fzE, fz, fzs, hdel, hne2]
          refine Run2.of I 1000 ?_
          simp -implicitDefEqProofs [hB]
          exact .drop id (.base ⟨by rw [hr1], by simp [hdel]⟩)
      · have hne1 : D ≠ [] := hne
        have hl1 : D.length ≤ 21 := by omega
        have hr1 : D.reverse = Lib.itoa n := by unfold Lib.itoa; rw [if_neg hng, hDe, List.reverse_reverse]; congr 1; omega
        have G1 := hg
        refine Run2.of I 1000 ?_
        simp -implicitDefEqProofs [hcell, hng]
        obtain ⟨id, rfl, rfl⟩ := G1.ne (by simpa using hne1)
        generalize hDD : D = D1 at *
        clear hcell hg G1 hDe hne hDD
        simp -implicitDefEqProofs
        refine ⟨by omega, ?_⟩
        refine Run2.loopE (α := Nat × AV × Heap) (fun p => [(3, .sl id 1 0 D1.length none), (6, p.2.1), (7, .int .i64 ((p.1 : Int) - 1))]) (fun p => p.2.2 ++ ((id, ⟨1, D1.map bv⟩) :: h)) (fun p => p.1) (fun p => p.1 ≤ D1.length ∧ Grow 1 p.2.1 ((D1.drop p.1).reverse.map bv) p.2.2 ∧ id ∉ dom p.2.2) (D1.length, .emp, []) (by simp) (by simp) ⟨Nat.le_refl _, by simpa using Grow.emp, by simp [dom]⟩ ?_
        rintro ⟨j, w2, hp2⟩ ⟨hj, hg2, hd2⟩ ih
        simp only at hj hg2 hd2
        have hcell2 := hg2.cell
        have gI : ∀ z, hget (hp2 ++ z) id = hget z id := fun z => hget_app hd2
        by_cases hj0 : 0 < j
        · obtain ⟨p, rfl⟩ : ∃ p, j = p + 1 := ⟨j - 1, by omega⟩
          have hpl : p < D1.length := by omega
          have hdr : (D1.drop p).reverse = (D1.drop (p + 1)).reverse ++ [D1[p]] := by
            rw [List.drop_eq_getElem_cons hpl]; simp
          have go := fun w' hp' => ih (p, w', hp')
          simp only [hdr, List.map_append, List.map_cons, List.map_nil] at go
          clear ih
          refine Run2.of I 1000 ?_
          have hb : bv D1[p] = .int .u8 (D1[p].toNat) := rfl
          rw [hb] at go
          simp -implicitDefEqProofs [hcell2, hpl, gI, hb]
          refine hg2.app_mid (pre := []) (bytes := 1) (new := [.int .u8 (D1[p].toNat)]) (fun _ _ h => by simp [dom] at h) (by simp; omega) (by simp) fun w3 hp3 hg3 hd3 => ?_
          have hcell3 := hg3.cell
          have := go w3 hp3 ⟨by omega, hg3, fun hm => hd3 id hm (List.mem_cons_self ..)⟩ (by omega)
          simp -implicitDefEqProofs [hcell3]
          exact ⟨by omega, by simpa using this⟩
        · obtain rfl : j = 0 := by omega
          simp only [List.drop_zero] at hg2
          obtain ⟨id2, rfl, rfl⟩ := hg2.ne (by simpa using hne1)
          clear ih
          refine Run2.freeze id2 (by simp [hget]; rfl) ?_
          have hne2 : ¬ id = id2 := by simpa [dom] using hd2
          have hB : bytesAV (List.take D1.length (List.map bv D1).reverse) = some D1.reverse := by
            rw [List.take_of_length_le (by simp), ← List.map_reverse]
            exact bytesAV_bv _
          simp -implicitDefEqProofs [fzE, fz, fzs, hdel, hne2]
          refine Run2.of I 1000 ?_
          simp -implicitDefEqProofs [hB]
          exact .drop id (.base ⟨by rw [hr1], by simp [hdel]⟩)
    · have hd := digAt_next hD (by omega)
      have hqa : (m.tdiv 10).natAbs = m.natAbs / 10 := by rw [Int.natAbs_tdiv]; rfl
      have hra : (m.tmod 10).natAbs = m.natAbs % 10 := by rw [Int.natAbs_tmod]; rfl
      have hq : in64 (m.tdiv 10) := by unfold in64; omega
      have hq2 := hq
      unfold in64 at hq2
      have hbv : bv (UInt8.ofNat (48 + m.natAbs % 10)) = .int .u8 (48 + (m.natAbs % 10 : Nat)) := by
        unfold bv
        have : (UInt8.ofNat (48 + m.natAbs % 10)).toNat = 48 + m.natAbs % 10 := by simp; omega
        rw [this]; simp
      have go := fun w' hp' (g : Grow 1 w' (D.map bv ++ [.int .u8 (48 + (m.natAbs % 10 : Nat))]) hp') => ih (m.tdiv 10, w', D ++ [UInt8.ofNat (48 + m.natAbs % 10)], hp') ⟨hq, by simp only [hqa]; exact hd, by
        simp only [List.map_append, List.map_cons, List.map_nil, hbv]
        exact g⟩ (by simp only [hqa]; omega)
      clear ih
      generalize hde : m.natAbs % 10 = d at *
      have hd10 : d < 10 := by omega
      have hw1 : IntKind.i64.wrap (d : Int) = d := w64 (by omega)
      have hw2 : IntKind.u8.wrap (48 + (d : Int)) = 48 + d := u8_dig d hd10
      rcases (show ((m.tmod 10 < 0 ∧ 0 < d) ∧ m.tmod 10 = -(d : Int)) ∨ ((¬ m.tmod 10 < 0 ∧ ¬ (d : Int) < 0) ∧ m.tmod 10 = (d : Int)) by omega) with ⟨⟨hs, hdp⟩, hr⟩ | ⟨⟨hs, hdp⟩, hr⟩
      all_goals
        refine Run2.of I 1000 ?_
        simp -implicitDefEqProofs [hm0, hs, hr, hcell, hw1, hw2, hdp]
        refine ⟨by omega, ?_⟩
        refine hg.app (by simp; omega) (by simp) fun w' hp' hg' => ?_
        have hcell' := hg'.cell
        have := go w' hp' hg'
        simp -implicitDefEqProofs [hcell']
        exact ⟨hq2, by simpa using this⟩
end Go.AG
