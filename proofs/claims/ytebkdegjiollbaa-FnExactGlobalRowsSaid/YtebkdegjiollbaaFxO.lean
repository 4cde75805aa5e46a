/- Whole numbers sorted, each once. No statement is made here. -/
import Derived.Test.YtebkdegjiollbaaFxHz
import Derived.Test.YtebkdegjiollbaaCtSort
namespace Go.AG
open Go.Proofs Go.Proofs.Ytebkdegjiollbaa
set_option linter.unusedSimpArgs false
set_option linter.unusedVariables false
set_option maxRecDepth 4000
/-- A number is not its neighbour before it. -/
def kpI (l : List Int) (j : Nat) : Bool := j == 0 || decide (l.getD j 0 ≠ l.getD (j - 1) 0)
/-- Of the first i, those that are not their neighbours before them. -/
def cu (l : List Int) (i : Nat) : List Int := ((List.range i).filter (kpI l)).map fun j => l.getD j 0
theorem cu_pos {l : List Int} {i : Nat} (h : kpI l i = true) : cu l (i + 1) = cu l i ++ [l.getD i 0] := by
  unfold cu
  rw [List.range_succ, List.filter_append, List.map_append]
  simp [h]
theorem cu_neg {l : List Int} {i : Nat} (h : ¬ kpI l i = true) : cu l (i + 1) = cu l i := by
  unfold cu
  rw [List.range_succ, List.filter_append, List.map_append]
  simp [h]
theorem cu_len (l : List Int) (i : Nat) : (cu l i).length ≤ i := by
  unfold cu
  rw [List.length_map]
  exact Nat.le_trans (List.length_filter_le ..) (by simp)
theorem kpI_iff {l : List Int} {i : Nat} (h : i + 1 < l.length) : kpI l (i + 1) = true ↔ ¬ l[i + 1] = l[i] := by
  have h' : i < l.length := by omega
  simp [kpI, h, h']
/-- The list while it is made. -/
def cF (l : List Int) (m : Nat) : List Int := cu l m ++ l.drop (cu l m).length
theorem cF_len {l : List Int} {m : Nat} (h : m ≤ l.length) : (cF l m).length = l.length := by
  have := cu_len l m
  simp [cF]; omega
theorem cF_get {l : List Int} {m j : Nat} (h1 : (cu l m).length ≤ j) (h2 : j < l.length) (h3 : j < (cF l m).length) : (cF l m)[j] = l[j] := by
  unfold cF at h3 ⊢
  rw [List.getElem_append_right h1]
  simp
  congr 1; omega
theorem cF_set {l : List Int} {m : Nat} (h : m < l.length) (hk : kpI l m = true) : (cF l m).set (cu l m).length l[m] = cF l (m + 1) := by
  have hc := cu_len l m
  unfold cF
  rw [cu_pos hk, List.set_append_right _ _ (Nat.le_refl _), Nat.sub_self]
  rw [List.drop_eq_getElem_cons (show (cu l m).length < l.length by omega), List.set_cons_zero]
  simp [h]
theorem cF_neg {l : List Int} {m : Nat} (hk : ¬ kpI l m = true) : cF l (m + 1) = cF l m := by unfold cF; rw [cu_neg hk]
/-- What joining neighbours leaves. -/
def CmpOut (id : Nat) (l : List Int) (tl : Heap) (v : AV) (h' : Heap) : Prop := ∃ ex, v = .sl id 1 0 (cu l l.length).length none ∧ ex.all own = true ∧ h' = (id, ⟨1, (cu l l.length).map iv ++ ex⟩) :: tl
theorem CmpOut.same {id : Nat} {l : List Int} {tl : Heap} (h : cu l l.length = l) : CmpOut id l tl (.sl id 1 0 l.length none) ((id, ⟨1, l.map iv⟩) :: tl) := by
  refine ⟨[], ?_, rfl, ?_⟩ <;> rw [h]
  simp
theorem splice_end (F : List AV) (c n : Nat) (z : AV) (hn : F.length = n) (hc : c ≤ n) : splice F c (List.replicate (n - c) z) = F.take c ++ List.replicate (n - c) z := by
  unfold splice
  rw [List.drop_of_length_le (by simp; omega), List.append_nil]
abbrev k153_o0 : List AJ := [.o ⟨(some 2), none, false, .mv (.c .nilsl), (some [0])⟩]
abbrev k153_o1 : List AJ := [.o ⟨(some 6), none, false, .mv (.t 0), none⟩, .o ⟨(some 7), none, false, .len (.t 6), none⟩, .o ⟨(some 8), none, false, .bin .lss (.t 7) (.c (.int .i64 2)), (some [0, 8])⟩]
abbrev k153_o2 : List AJ := [.o ⟨(some 9), none, false, .mv (.t 0), none⟩, .o ⟨(some 2), none, false, .mv (.t 9), (some [2])⟩]
def k153_3 : ACode := .seq (.region k153_o2) .ret
def k153_4 : ACode := .cond (.t 8) k153_3 .skip
def k153_5 : ACode := .seq (.region k153_o1) k153_4
abbrev k153_o3 : List AJ := [.o ⟨(some 3), none, false, .mv (.c (.int .i64 1)), (some [0, 3])⟩]
abbrev k153_o4 : List AJ := [.o ⟨(some 10), none, false, .mv (.t 3), none⟩, .o ⟨(some 11), none, false, .mv (.t 0), none⟩, .o ⟨(some 12), none, false, .len (.t 11), none⟩, .o ⟨(some 13), none, false, .bin .lss (.t 10) (.t 12), (some [0, 3, 13])⟩]
def k153_8 : ACode := .cond (.t 13) .skip (.exit 0)
def k153_9 : ACode := .seq (.region k153_o4) k153_8
abbrev k153_o5 : List AI := [⟨(some 16), none, false, .mv (.t 0), none⟩, ⟨(some 17), none, false, .mv (.t 3), none⟩, ⟨(some 18), none, false, .idxA 1 (.t 16) (.t 17), none⟩, ⟨(some 19), none, false, .load 1 false (.t 18), none⟩, ⟨(some 20), none, false, .mv (.t 0), none⟩, ⟨(some 21), none, false, .mv (.t 3), none⟩, ⟨(some 22), none, true, .bin .sub (.t 21) (.c (.int .i64 1)), none⟩, ⟨(some 23), none, false, .idxA 1 (.t 20) (.t 22), none⟩, ⟨(some 24), none, false, .load 1 false (.t 23), none⟩, ⟨(some 25), none, false, .bin .eql (.t 19) (.t 24), (some [0, 3, 25])⟩]
abbrev k153_o6 : List AJ := [.o ⟨(some 26), none, false, .mv (.t 0), none⟩, .o ⟨(some 27), none, false, .mv (.t 3), none⟩, .o ⟨(some 28), none, false, .slice 1 (.t 26) (some (.t 27)) none none, none⟩, .o ⟨(some 4), none, false, .mv (.t 28), (some [0, 3, 4])⟩]
abbrev k153_o7 : List AJ := [.o ⟨(some 5), none, false, .mv (.c (.int .i64 1)), (some [0, 3, 4, 5])⟩]
abbrev k153_o8 : List AJ := [.o ⟨(some 29), none, false, .mv (.t 5), none⟩, .o ⟨(some 30), none, false, .mv (.t 4), none⟩, .o ⟨(some 31), none, false, .len (.t 30), none⟩, .o ⟨(some 32), none, false, .bin .lss (.t 29) (.t 31), (some [0, 3, 4, 5, 32])⟩]
def k153_14 : ACode := .cond (.t 32) .skip (.exit 2)
def k153_15 : ACode := .seq (.region k153_o8) k153_14
abbrev k153_o9 : List AI := [⟨(some 35), none, false, .mv (.t 4), none⟩, ⟨(some 36), none, false, .mv (.t 5), none⟩, ⟨(some 37), none, false, .idxA 1 (.t 35) (.t 36), none⟩, ⟨(some 38), none, false, .load 1 false (.t 37), none⟩, ⟨(some 39), none, false, .mv (.t 4), none⟩, ⟨(some 40), none, false, .mv (.t 5), none⟩, ⟨(some 41), none, true, .bin .sub (.t 40) (.c (.int .i64 1)), none⟩, ⟨(some 42), none, false, .idxA 1 (.t 39) (.t 41), none⟩, ⟨(some 43), none, false, .load 1 false (.t 42), none⟩, ⟨(some 44), none, false, .bin .neq (.t 38) (.t 43), (some [0, 3, 4, 5, 44])⟩]
abbrev k153_o10 : List AJ := [.o ⟨(some 45), none, false, .mv (.t 0), none⟩, .o ⟨(some 46), none, false, .mv (.t 3), none⟩, .o ⟨(some 47), none, false, .mv (.t 4), none⟩, .o ⟨(some 48), none, false, .mv (.t 5), none⟩, .o ⟨(some 49), none, false, .idxA 1 (.t 47) (.t 48), none⟩, .o ⟨(some 50), none, false, .load 1 false (.t 49), none⟩, .o ⟨(some 51), none, false, .idxA 1 (.t 45) (.t 46), none⟩, .o ⟨none, none, false, .store 1 (.t 51) (.t 50), (some [0, 3, 4, 5])⟩]
abbrev k153_o11 : List AJ := [.o ⟨(some 52), none, false, .mv (.t 3), none⟩, .o ⟨(some 53), none, true, .bin .add (.t 52) (.c (.int .i64 1)), none⟩, .o ⟨(some 3), none, false, .mv (.t 53), (some [0, 3, 4, 5])⟩]
def k153_18 : ACode := .region k153_o11
def k153_19 : ACode := .seq (.region k153_o10) k153_18
def k153_20 : ACode := .cond (.t 44) k153_19 .skip
def k153_21 : ACode := .seq (.draw k153_o9 [] rfl) k153_20
abbrev k153_o12 : List AJ := [.o ⟨(some 33), none, false, .mv (.t 5), none⟩, .o ⟨(some 34), none, true, .bin .add (.t 33) (.c (.int .i64 1)), none⟩, .o ⟨(some 5), none, false, .mv (.t 34), (some [0, 3, 4, 5])⟩]
def k153_23 : ACode := .region k153_o12
def k153_24 : ACode := .seq (.block 3 k153_21) k153_23
def k153_25 : ACode := .seq k153_15 k153_24
def k153_26 : ACode := .loop k153_25
def k153_27 : ACode := .block 2 k153_26
def k153_28 : ACode := .seq (.region k153_o7) k153_27
abbrev k153_o13 : List AJ := [.o ⟨(some 54), none, false, .mv (.t 0), none⟩, .o ⟨(some 55), none, false, .mv (.t 3), none⟩, .o ⟨(some 56), none, false, .slice 1 (.t 54) (some (.t 55)) none none, none⟩, .o ⟨none, none, false, .clear 1 (.int .i64 0) (.t 56), (some [0, 3])⟩]
abbrev k153_o14 : List AJ := [.o ⟨(some 57), none, false, .mv (.t 0), none⟩, .o ⟨(some 58), none, false, .mv (.t 3), none⟩, .o ⟨(some 59), none, false, .slice 1 (.t 57) none (some (.t 58)) none, none⟩, .o ⟨(some 2), none, false, .mv (.t 59), (some [2])⟩]
def k153_31 : ACode := .seq (.region k153_o14) .ret
def k153_32 : ACode := .seq (.region k153_o13) k153_31
def k153_33 : ACode := .seq k153_28 k153_32
def k153_34 : ACode := .seq (.region k153_o6) k153_33
def k153_35 : ACode := .cond (.t 25) k153_34 .skip
def k153_36 : ACode := .seq (.draw k153_o5 [] rfl) k153_35
abbrev k153_o15 : List AJ := [.o ⟨(some 14), none, false, .mv (.t 3), none⟩, .o ⟨(some 15), none, true, .bin .add (.t 14) (.c (.int .i64 1)), none⟩, .o ⟨(some 3), none, false, .mv (.t 15), (some [0, 3])⟩]
def k153_38 : ACode := .region k153_o15
def k153_39 : ACode := .seq (.block 1 k153_36) k153_38
def k153_40 : ACode := .seq k153_9 k153_39
def k153_41 : ACode := .loop k153_40
def k153_42 : ACode := .block 0 k153_41
def k153_43 : ACode := .seq (.region k153_o3) k153_42
abbrev k153_o16 : List AJ := [.o ⟨(some 60), none, false, .mv (.t 0), none⟩, .o ⟨(some 2), none, false, .mv (.t 60), (some [2])⟩]
def k153_45 : ACode := .seq (.region k153_o16) .ret
def k153_46 : ACode := .seq k153_43 k153_45
def k153_47 : ACode := .seq k153_5 k153_46
def k153_48 : ACode := .seq (.region k153_o0) k153_47
@[simp, simp ↓] theorem k153_3r : sR k153_3 k153_o2 .ret := yR rfl
@[simp, simp ↓] theorem k153_4r : rC k153_4 (.t 8) k153_3 .skip := zC rfl
@[simp, simp ↓] theorem k153_5r : sR k153_5 k153_o1 k153_4 := yR rfl
@[simp, simp ↓] theorem k153_8r : rC k153_8 (.t 13) .skip (.exit 0) := zC rfl
@[simp, simp ↓] theorem k153_9r : sR k153_9 k153_o4 k153_8 := yR rfl
@[simp, simp ↓] theorem k153_14r : rC k153_14 (.t 32) .skip (.exit 2) := zC rfl
@[simp, simp ↓] theorem k153_15r : sR k153_15 k153_o8 k153_14 := yR rfl
@[simp, simp ↓] theorem k153_18r : rR k153_18 k153_o11 := zR rfl
@[simp, simp ↓] theorem k153_19r : sR k153_19 k153_o10 k153_18 := yR rfl
@[simp, simp ↓] theorem k153_20r : rC k153_20 (.t 44) k153_19 .skip := zC rfl
@[simp, simp ↓] theorem k153_21r : sD k153_21 k153_o9 [] k153_20 := yD rfl
@[simp, simp ↓] theorem k153_23r : rR k153_23 k153_o12 := zR rfl
@[simp, simp ↓] theorem k153_24r : sB k153_24 3 k153_21 k153_23 := yB rfl
@[simp, simp ↓] theorem k153_25r : rS k153_25 k153_15 k153_24 := zS rfl
@[simp, simp ↓] theorem k153_26r : rL k153_26 k153_25 := zL rfl
@[simp, simp ↓] theorem k153_27r : rB k153_27 2 k153_26 := zB rfl
@[simp, simp ↓] theorem k153_28r : sR k153_28 k153_o7 k153_27 := yR rfl
@[simp, simp ↓] theorem k153_31r : sR k153_31 k153_o14 .ret := yR rfl
@[simp, simp ↓] theorem k153_32r : sR k153_32 k153_o13 k153_31 := yR rfl
@[simp, simp ↓] theorem k153_33r : rS k153_33 k153_28 k153_32 := zS rfl
@[simp, simp ↓] theorem k153_34r : sR k153_34 k153_o6 k153_33 := yR rfl
@[simp, simp ↓] theorem k153_35r : rC k153_35 (.t 25) k153_34 .skip := zC rfl
@[simp, simp ↓] theorem k153_36r : sD k153_36 k153_o5 [] k153_35 := yD rfl
@[simp, simp ↓] theorem k153_38r : rR k153_38 k153_o15 := zR rfl
@[simp, simp ↓] theorem k153_39r : sB k153_39 1 k153_36 k153_38 := yB rfl
@[simp, simp ↓] theorem k153_40r : rS k153_40 k153_9 k153_39 := zS rfl
@[simp, simp ↓] theorem k153_41r : rL k153_41 k153_40 := zL rfl
@[simp, simp ↓] theorem k153_42r : rB k153_42 0 k153_41 := zB rfl
@[simp, simp ↓] theorem k153_43r : sR k153_43 k153_o3 k153_42 := yR rfl
@[simp, simp ↓] theorem k153_45r : sR k153_45 k153_o16 .ret := yR rfl
@[simp, simp ↓] theorem k153_46r : rS k153_46 k153_43 k153_45 := zS rfl
@[simp, simp ↓] theorem k153_47r : rS k153_47 k153_5 k153_46 := zS rfl
@[simp, simp ↓] theorem k153_48r : sR k153_48 k153_o0 k153_47 := yR rfl
noncomputable abbrev k153_C : Orc → Cx := mkC Try.prog [] 153 61 [.tmp 2]
theorem k153_of0 : OfP0 Try.prog Try.f153 153 61 k153_C k153_48 := @ofP0 _ _ _ _ _ _ _ _ Try.func153 (by decide +kernel) rfl (by kernel_rfl) rfl (by kernel_rfl)
theorem compI_s {id : Nat} {l : List Int} {tl : Heap} (hl : l.length ≤ 1048576) : ACalls Try.prog 153 [.sl id 1 0 l.length none] ((id, ⟨1, l.map iv⟩) :: tl) (CmpOut id l tl) := by
  refine k153_of0 rfl noPure fun I => ?_
  by_cases h2 : l.length < 2
  · have h2' : (l.length : Int) < 2 := by omega
    have hcu : cu l l.length = l := by
      match l, h2 with
      | [], _ => rfl
      | [a], _ => simp [cu, kpI, List.range_succ]
    refine Run2.of I 1000 ?_
    simp -implicitDefEqProofs [h2']
    exact CmpOut.same hcu
  · have h2' : ¬ (l.length : Int) < 2 := by omega
    refine Run2.of I 1000 ?_
    simp -implicitDefEqProofs [h2']
    refine Run2.loopE (fun (i : Nat) => [(0, .sl id 1 0 l.length none), (3, .int .i64 (i + 1 : Nat))]) (fun _ => (id, ⟨1, l.map iv⟩) :: tl) (fun i => l.length - i) (fun i => i + 1 ≤ l.length ∧ cu l (i + 1) = l.take (i + 1)) 0 (by simp) rfl ⟨by omega, ?_⟩ fun i hi ih => ?_
    · match l, h2 with
      | a :: l, _ => simp [cu, kpI, List.range_succ]
      | [], h => simp at h
    by_cases hlt : i + 1 < l.length
    · have hlt' : i < l.length := by omega
      have hltI : (i : Int) + 1 < l.length := by omega
      have hc1 : ((i : Int) + 1 - 1).toNat = i := by omega
      have hkp := kpI_iff hlt
      by_cases he : l[i + 1] = l[i]
      · have hk : ¬ kpI l (i + 1) = true := fun h => hkp.1 h he
        clear ih
        refine Run2.of I 1000 ?_
        simp -implicitDefEqProofs [hltI, hlt, hlt', hc1, he]
        refine ⟨by omega, by omega, by omega, ?_⟩
        have e0 : cu l (i + 2) = cu l (i + 1) := cu_neg hk
        have e1 : cF l (i + 2) = l := by unfold cF; rw [e0, hi.2, List.length_take, Nat.min_eq_left hi.1, List.take_append_drop]
        have e2 : (cu l (i + 2)).length = i + 1 := by rw [e0, hi.2]; simp; omega
        rw [show ((l.length : Int) - (i + 1)).toNat = l.length - (i + 1) by omega]
        generalize hq : l.length - (i + 1) = q
        refine Run2.loopE (fun (j : Nat) => [(0, .sl id 1 0 l.length none), (3, .int .i64 (cu l (i + 2 + j)).length), (4, .sl id 1 (i + 1) q none), (5, .int .i64 (j + 1 : Nat))]) (fun j => (id, ⟨1, (cF l (i + 2 + j)).map iv⟩) :: tl) (fun j => l.length - j) (fun j => i + 2 + j ≤ l.length ∧ (cu l (i + 2 + j)).length + 1 ≤ i + 2 + j) 0 (by simp [e2]) (by simp [e1]) ⟨by omega, by simp only [Nat.add_zero]; omega⟩ fun j hj ih => ?_
        obtain ⟨hj1, hj2⟩ := hj
        by_cases hj3 : i + 2 + j < l.length
        · have hjI : (j : Int) + 1 < q := by omega
          have hjN : j + 1 < q := by omega
          have hjM : j < q := by omega
          have hm2 : i + 1 + j < l.length := by omega
          have hkj := kpI_iff (l := l) (i := i + 1 + j) (by omega)
          have i3 : i + 1 + j + 1 = i + 2 + j := by omega
          simp only [i3] at hkj
          have hFl := cF_len (l := l) hj1
          have hF1 : i + 2 + j < (cF l (i + 2 + j)).length := by omega
          have hF2 : i + 1 + j < (cF l (i + 2 + j)).length := by omega
          have g1 := cF_get (l := l) (m := i + 2 + j) (j := i + 2 + j) (by omega) hj3 hF1
          have g2 := cF_get (l := l) (m := i + 2 + j) (j := i + 1 + j) (by omega) hm2 hF2
          have i1 : i + 1 + (j + 1) = i + 2 + j := by omega
          have i2 : i + 1 + 1 + j = i + 2 + j := by omega
          have hF3 : (cu l (i + 2 + j)).length < (cF l (i + 2 + j)).length := by omega
          have hF4 : (cu l (i + 2 + j)).length < l.length := by omega
          by_cases hej : l[i + 2 + j] = l[i + 1 + j]
          · have hkn : ¬ kpI l (i + 2 + j) = true := fun h => hkj.1 h hej
            have hn2 : i + 2 + (j + 1) = i + 2 + j + 1 := by omega
            have go := ih (j + 1) ⟨by omega, by rw [hn2, cu_neg hkn]; omega⟩ (by omega)
            rw [hn2, cu_neg hkn, cF_neg hkn] at go
            clear ih
            generalize cF l (i + 2 + j) = F at *
            generalize (cu l (i + 2 + j)).length = c at *
            refine Run2.of I 1000 ?_
            simp -implicitDefEqProofs [hjI, hjN, hjM, i1, i2, g1, g2, hF1, hF2, hej]
            exact ⟨by omega, by omega, by omega, by simpa using go⟩
          · have hkn := hkj.2 hej
            have hn2 : i + 2 + (j + 1) = i + 2 + j + 1 := by omega
            have hsx := cF_set hj3 hkn
            have hcx : (cu l (i + 2 + j + 1)).length = (cu l (i + 2 + j)).length + 1 := by rw [cu_pos hkn]; simp
            have go := ih (j + 1) ⟨by omega, by rw [hn2, hcx]; omega⟩ (by omega)
            rw [hn2, hcx, ← hsx] at go
            clear ih
            clear hcx hsx
            generalize cF l (i + 2 + j) = F at *
            generalize (cu l (i + 2 + j)).length = c at *
            refine Run2.of I 1000 ?_
            simp -implicitDefEqProofs [hjI, hjN, hjM, i1, i2, g1, g2, hF1, hF2, hF3, hF4, hej]
            rw [show (List.map iv F).set c (AV.int .i64 l[i + 2 + j]) = (F.set c l[i + 2 + j]).map iv by rw [List.map_set]; rfl]
            exact ⟨by omega, by omega, by omega, by omega, by omega, by simpa using go⟩
        · have hm : i + 2 + j = l.length := by omega
          have hjI : ¬ (j : Int) + 1 < q := by omega
          have hc := cu_len l l.length
          have hFl := cF_len (l := l) (Nat.le_refl _)
          rw [hm]
          have hz := splice_end ((cF l l.length).map iv) (cu l l.length).length l.length (.int .i64 0) (by simpa using hFl) hc
          have hcc : (cu l l.length).length + (l.length - (cu l l.length).length) ≤ (cF l l.length).length := by omega
          have done : CmpOut id l tl (.sl id 1 0 (cu l l.length).length none) ((id, ⟨1, ((cF l l.length).map iv).take (cu l l.length).length ++ List.replicate (l.length - (cu l l.length).length) (.int .i64 0)⟩) :: tl) := by
            refine ⟨List.replicate (l.length - (cu l l.length).length) (.int .i64 0), rfl, by simp [own], ?_⟩
            have : ((cF l l.length).map iv).take (cu l l.length).length = (cu l l.length).map iv := by
              unfold cF
              rw [List.map_append, List.take_left' (by simp)]
            rw [this]
          refine Run2.of I 1000 ?_
          have hdr : List.drop l.length (List.map iv (cF l l.length)) = [] := List.drop_of_length_le (by simp [hFl])
          simp -implicitDefEqProofs [hjI, hc, hdr]
          exact ⟨by omega, done⟩
      · have hk := hkp.2 he
        have go := ih (i + 1) ⟨by omega, by
          rw [cu_pos hk, hi.2, List.take_succ_eq_append_getElem hlt]; simp [hlt]⟩ (by omega)
        clear ih
        refine Run2.of I 1000 ?_
        simp -implicitDefEqProofs [hltI, hlt, hlt', hc1, he]
        exact ⟨by omega, by omega, by omega, by simpa using go⟩
    · have hltI : ¬ (i : Int) + 1 < l.length := by omega
      have hil : i + 1 = l.length := by omega
      refine Run2.of I 1000 ?_
      simp -implicitDefEqProofs [hltI]
      have := hi.2
      rw [hil, List.take_length] at this
      exact CmpOut.same this
theorem comp0_s {v : AV} (hv : v = .nilsl ∨ v = .emp) (h : Heap) : ACalls Try.prog 153 [v] h (fun r h' => r = v ∧ h' = h) := by
  have hl : lenR v = .val (.int .i64 0) := by rcases hv with rfl | rfl <;> simp
  have hc : isCell v = true := by rcases hv with rfl | rfl <;> rfl
  refine k153_of0 rfl noPure fun I => ?_
  refine Run2.of I 1000 ?_
  simp -implicitDefEqProofs [hl, hc]
/-- All different times, in order. -/
def critL (l : List Int) : List Int := cu (sorted l) (sorted l).length
theorem sorted_len (l : List Int) : (sorted l).length = l.length := (List.mergeSort_perm _ _).length_eq
/-! ## What it is -/
theorem sorted_le (l : List Int) : (sorted l).Pairwise (· ≤ ·) := (List.pairwise_mergeSort (fun a b c => by simp; omega) (fun a b => by simp; omega) l).imp fun h => by simpa using h
theorem cu_spec {l : List Int} (hs : l.Pairwise (· ≤ ·)) : ∀ i, i ≤ l.length → (cu l i).Pairwise (· < ·) ∧ ∀ a, a ∈ cu l i ↔ ∃ (j : Nat) (h : j < l.length), j < i ∧ l[j] = a
  | 0, _ => by simp [cu]
  | i + 1, hi => by
    obtain ⟨h1, h2⟩ := cu_spec hs i (by omega)
    have hil : i < l.length := by omega
    have le : ∀ j (h : j < l.length), j < i → l[j] ≤ l[i] := fun j h hj => List.pairwise_iff_getElem.1 hs j i h hil hj
    by_cases hk : kpI l i = true
    · rw [cu_pos hk]
      have hg : l.getD i 0 = l[i] := by simp [hil]
      rw [hg]
      constructor
      · rw [List.pairwise_append]
        refine ⟨h1, by simp, fun a ha b hb => ?_⟩
        obtain rfl := List.mem_singleton.1 hb
        obtain ⟨j, hj, hji, rfl⟩ := (h2 a).1 ha
        obtain ⟨k, rfl⟩ : ∃ k, i = k + 1 := ⟨i - 1, by omega⟩
        have hne := (kpI_iff hil).1 hk
        have h3 := List.pairwise_iff_getElem.1 hs k (k + 1) (by omega) hil (by omega)
        have h4 : l[j] ≤ l[k] := by
          rcases Nat.lt_or_ge j k with h | h
          · exact List.pairwise_iff_getElem.1 hs j k hj (by omega) h
          · obtain rfl : j = k := by omega
            exact Int.le_refl _
        omega
      · intro a
        rw [List.mem_append, h2, List.mem_singleton]
        constructor
        · rintro (⟨j, hj, hji, e⟩ | rfl)
          · exact ⟨j, hj, by omega, e⟩
          · exact ⟨i, hil, by omega, rfl⟩
        · rintro ⟨j, hj, hji, e⟩
          rcases Nat.lt_or_ge j i with h | h
          · exact .inl ⟨j, hj, h, e⟩
          · obtain rfl : j = i := by omega
            exact .inr e.symm
    · rw [cu_neg hk]
      refine ⟨h1, fun a => ?_⟩
      rw [h2]
      constructor
      · rintro ⟨j, hj, hji, e⟩
        exact ⟨j, hj, by omega, e⟩
      · rintro ⟨j, hj, hji, e⟩
        rcases Nat.lt_or_ge j i with h | h
        · exact ⟨j, hj, h, e⟩
        · obtain rfl : j = i := by omega
          obtain ⟨k, rfl⟩ : ∃ k, j = k + 1 := ⟨j - 1, by
            rcases Nat.eq_zero_or_pos j with h0 | h0
            · subst h0; simp [kpI] at hk
            · omega⟩
          have he : l[k + 1] = l[k] := Classical.byContradiction fun hne => hk ((kpI_iff hil).2 hne)
          exact ⟨k, by omega, by omega, by rw [← he, e]⟩
theorem critL_strict (l : List Int) : (critL l).Pairwise (· < ·) := (cu_spec (sorted_le l) _ (Nat.le_refl _)).1
theorem critL_mem (l : List Int) (a : Int) : a ∈ critL l ↔ a ∈ l := by
  unfold critL
  rw [(cu_spec (sorted_le l) _ (Nat.le_refl _)).2, ← (List.mergeSort_perm l fun x y => decide (x ≤ y)).mem_iff]
  rw [List.mem_iff_getElem]
  exact ⟨fun ⟨j, h, _, e⟩ => ⟨j, h, e⟩, fun ⟨j, h, e⟩ => ⟨j, h, h, e⟩⟩
theorem critL_len (l : List Int) : (critL l).length ≤ l.length := by
  have := cu_len (sorted l) (sorted l).length
  rw [sorted_len] at this
  unfold critL
  rw [sorted_len]
  exact this
/-- A number put into a rising list. -/
def insI (n : Int) : List Int → List Int
  | [] => [n]
  | a :: t => if n < a then n :: a :: t else if n = a then a :: t else a :: insI n t
theorem insI_mem (n a : Int) : ∀ l : List Int, a ∈ insI n l ↔ a = n ∨ a ∈ l
  | [] => by simp [insI]
  | b :: t => by
    have := insI_mem n a t
    unfold insI
    split
    · simp
    · split
      · rename_i h; subst h; simp
      · simp only [List.mem_cons, this]
        constructor
        · rintro (h | h | h)
          · exact .inr (.inl h)
          · exact .inl h
          · exact .inr (.inr h)
        · rintro (h | h | h)
          · exact .inr (.inl h)
          · exact .inl h
          · exact .inr (.inr h)
theorem insI_strict (n : Int) : ∀ l : List Int, l.Pairwise (· < ·) → (insI n l).Pairwise (· < ·)
  | [], _ => by simp [insI]
  | b :: t, h => by
    rw [List.pairwise_cons] at h
    have ih := insI_strict n t h.2
    unfold insI
    split
    · rw [List.pairwise_cons, List.pairwise_cons]
      refine ⟨fun c hc => ?_, h.1, h.2⟩
      rcases List.mem_cons.1 hc with rfl | hc
      · assumption
      · have := h.1 c hc; omega
    · split
      · rw [List.pairwise_cons]; exact h
      · rw [List.pairwise_cons]
        refine ⟨fun c hc => ?_, ih⟩
        rcases (insI_mem n c t).1 hc with rfl | hc
        · omega
        · exact h.1 c hc
def putS (n : Int) (s : Bool × List Int) (a : Int) : Bool × List Int := if s.1 = false ∧ n ≤ a then (true, if n < a then s.2 ++ [n] ++ [a] else s.2 ++ [a]) else (s.1, s.2 ++ [a])
def putE (n : Int) (s : Bool × List Int) : List Int := if s.1 then s.2 else s.2 ++ [n]
theorem putS_true (n : Int) (l o : List Int) : l.foldl (putS n) (true, o) = (true, o ++ l) := by
  induction l generalizing o with
  | nil => simp
  | cons a t ih => rw [List.foldl_cons, show putS n (true, o) a = (true, o ++ [a]) by simp [putS], ih]; simp
theorem putE_eq (n : Int) (l o : List Int) : putE n (l.foldl (putS n) (false, o)) = o ++ insI n l := by
  induction l generalizing o with
  | nil => simp [putE, insI]
  | cons a t ih =>
    rw [List.foldl_cons]
    unfold insI
    by_cases h1 : n < a
    · rw [show putS n (false, o) a = (true, o ++ [n] ++ [a]) by simp [putS, h1, Int.le_of_lt h1], putS_true, if_pos h1]
      simp [putE]
    · by_cases h2 : n = a
      · rw [show putS n (false, o) a = (true, o ++ [a]) by simp [putS, h2], putS_true, if_neg h1, if_pos h2]
        simp [putE]
      · rw [show putS n (false, o) a = (false, o ++ [a]) by simp [putS]; omega, ih, if_neg h1, if_neg h2]
        simp
/-- All different times, put one by one. -/
def putAll (l : List Int) : List Int := l.foldl (fun o a => insI a o) []
theorem putAll_spec (l : List Int) : ∀ o : List Int, o.Pairwise (· < ·) → (l.foldl (fun o a => insI a o) o).Pairwise (· < ·) ∧ ∀ a, a ∈ l.foldl (fun o a => insI a o) o ↔ a ∈ o ∨ a ∈ l := by
  induction l with
  | nil => intro o h; simp [h]
  | cons b t ih =>
    intro o h
    rw [List.foldl_cons]
    obtain ⟨h1, h2⟩ := ih _ (insI_strict b o h)
    refine ⟨h1, fun a => ?_⟩
    rw [h2, insI_mem, List.mem_cons]
    constructor
    · rintro ((h | h) | h)
      · exact .inr (.inl h)
      · exact .inl h
      · exact .inr (.inr h)
    · rintro (h | h | h)
      · exact .inl (.inr h)
      · exact .inl (.inl h)
      · exact .inr h
theorem putAll_crit (l : List Int) : putAll l = critL l := by
  obtain ⟨h1, h2⟩ := putAll_spec l [] List.Pairwise.nil
  exact strict_ext h1 (critL_strict l) fun a => by rw [critL_mem]; exact (h2 a).trans (by simp)
end Go.AG
