/- The text of bars: the program and the reference. No statement is made here. -/
import Derived.Test.YtnbllllkaohfoaaDoorStB
import Derived.Test.YtnbllllkaohfoaaDoorBrVal
namespace Go.AG.B
open Go.Proofs Go.Proofs.YtnbllllkaohfoaaDoor
set_option linter.unusedSimpArgs false
set_option linter.unusedVariables false
set_option maxRecDepth 4000
def barT (t : T) : List UInt8 := Lib.itoa t.f ++ (58 :: (Lib.itoa t.t ++ (43 :: (if t.s = -1 then [] else Lib.itoa (t.s - t.t)))))
noncomputable def bsT (l : List T) : List UInt8 := if validB l then (if l = [] then [45] else Lib.join (l.map barT) [32]) else []
theorem el_in {t : T} (h : t.el) : in64 t.f ∧ in64 t.t ∧ in64 (t.s - t.t) := by
  unfold T.el at h
  unfold in64
  omega
theorem barT_len {t : T} (h : t.el) : (barT t).length ≤ 65 := by
  obtain ⟨h1, h2, h3⟩ := el_in h
  have e1 := itoa_len h1.1 h1.2
  have e2 := itoa_len h2.1 h2.2
  have e3 := itoa_len h3.1 h3.2
  unfold barT
  split <;> simp <;> omega
theorem bs_takeL {l : List T} (h : validB l) (i : Nat) (hi : i ≤ l.length) : (Lib.join ((l.take i).map barT) [32]).length ≤ 2000 := by
  have h1 := join_takeL barT [32] l i 65 fun t ht => barT_len (h.el ht)
  have h24 := h.2
  simp only [List.length_singleton] at h1
  omega
abbrev k41_o0 : List AJ := [.o ⟨(some 1), none, false, .box false 3 (.t 0), none⟩, .o ⟨(some 2), none, false, .mv (.c (.bool false)), (some [1])⟩]
abbrev k41_o1 : List AJ := [.o ⟨(some 3), none, false, .fieldA 2 (.t 1), none⟩, .o ⟨(some 4), none, false, .load 1 false (.t 3), none⟩, .o ⟨(some 5), none, false, .bin .neq (.t 4) (.c (.int .i64 (-1))), none⟩, .o ⟨(some 2), none, false, .mv (.t 5), (some [2])⟩]
def k41_2 : ACode := .seq (.region k41_o1) .ret
def k41_3 : ACode := .seq (.region k41_o0) k41_2
@[simp, simp ↓] theorem k41_2r : sR k41_2 k41_o1 .ret := yR rfl
@[simp, simp ↓] theorem k41_3r : sR k41_3 k41_o0 k41_2 := yR rfl
noncomputable abbrev k41_C : Orc → Cx := mkC Tryd.prog [] 41 6 [.tmp 2]
theorem k41_of0 : OfP0 Tryd.prog Tryd.f41 41 6 k41_C k41_3 := @ofP0 _ _ _ _ _ _ _ _ Tryd.func41 (by decide +kernel) rfl (by kernel_rfl) rfl (by kernel_rfl)
theorem isFinite_c (a b c : Int) (h : Heap) : ACalls Tryd.prog 41 [.agg [.int .i64 a, .int .i64 b, .int .i64 c]] h (fun v h' => v = .bool (!decide (c = -1)) ∧ h' = h) := by
  refine k41_of0 rfl noPure fun I => ?_
  refine Run2.of I 1000 ?_
  simp -implicitDefEqProofs
noncomputable def o_isFinite : List AV → Option (Prop × AV) := tab (fun (x : Int × Int × Int) => match x with | (a, b, c) => [.agg [.int .i64 a, .int .i64 b, .int .i64 c]]) (fun x => match x with | (a, b, c) => True) (fun x => match x with | (a, b, c) => .bool (!decide (c = -1)))
@[simp] theorem o_isFinite_e (a : Int) (b : Int) (c : Int) : o_isFinite [.agg [.int .i64 a, .int .i64 b, .int .i64 c]] = some (True, .bool (!decide (c = -1))) := tab_at (enc := fun (x : Int × Int × Int) => match x with | (a, b, c) => [.agg [.int .i64 a, .int .i64 b, .int .i64 c]]) (fun x y h => by
  obtain ⟨a1, b1, c1⟩ := x; obtain ⟨a2, b2, c2⟩ := y; simp at h; simp [h] <;> omega) _ _ (a, b, c)
theorem o_isFinite_k : Knows Tryd.prog 41 o_isFinite := tab_knows fun x hx h => by
  obtain ⟨a, b, c⟩ := x; exact isFinite_c _ _ _ h
@[simp] theorem o_valid_0 : o_valid [.snap 3 []] = some (([] : List T).length ≤ 1048576 ∧ okB [], .bool (decide (validB []))) := by simpa using o_valid_e []
@[simp] theorem o_l21List_0 : o_l21List [.snap 3 []] = some (([] : List T).length ≤ 1048576 ∧ okB [], .bool (decide (validB []))) := by simpa using o_l21List_e []
noncomputable def orcU1 : List (Nat × (List AV → Option (Prop × AV))) := (39, o_valid) :: (40, o_Decimal) :: (41, o_isFinite) :: []
theorem orcU1_p : Pure Tryd.prog (lk orcU1) := (lk_pure o_valid_k (lk_pure o_Decimal_k (lk_pure o_isFinite_k lk_pure0)))
@[simp] theorem orcU1_l (b : Bool) (g : FuncId) (l : List AV) : lk orcU1 b g l = if g = 39 then o_valid l else if g = 40 then o_Decimal l else if g = 41 then o_isFinite l else none := nr rfl
abbrev k15_o0 : List AJ := [.o ⟨(some 2), none, false, .mv (.c (.str [])), (some [0])⟩]
abbrev k15_o1 : List AJ := [.o ⟨(some 7), none, false, .mv (.t 0), none⟩, .o ⟨(some 8), none, false, .call 39 [(.t 7)], none⟩, .o ⟨(some 9), none, false, .un .not (.t 8), (some [0, 9])⟩]
abbrev k15_o2 : List AJ := [.o ⟨(some 2), none, false, .mv (.c (.str [])), (some [2])⟩]
def k15_3 : ACode := .seq (.region k15_o2) .ret
def k15_4 : ACode := .cond (.t 9) k15_3 .skip
def k15_5 : ACode := .seq (.region k15_o1) k15_4
abbrev k15_o3 : List AJ := [.o ⟨(some 10), none, false, .mv (.t 0), none⟩, .o ⟨(some 11), none, false, .len (.t 10), none⟩, .o ⟨(some 12), none, false, .bin .eql (.t 11) (.c (.int .i64 0)), (some [0, 12])⟩]
abbrev k15_o4 : List AJ := [.o ⟨(some 2), none, false, .mv (.c (.str [45])), (some [2])⟩]
def k15_8 : ACode := .seq (.region k15_o4) .ret
def k15_9 : ACode := .cond (.t 12) k15_8 .skip
def k15_10 : ACode := .seq (.region k15_o3) k15_9
abbrev k15_o5 : List AJ := [.o ⟨(some 3), none, false, .mv (.c .nilsl), (some [0, 3])⟩]
abbrev k15_o6 : List AJ := [.o ⟨(some 13), none, false, .mv (.t 0), none⟩, .o ⟨(some 14), none, false, .len (.t 13), none⟩, .o ⟨(some 15), none, false, .mv (.c (.int .i64 0)), (some [3, 13, 14, 15])⟩]
abbrev k15_o7 : List AJ := [.o ⟨(some 16), none, false, .bin .lss (.t 15) (.t 14), (some [3, 13, 14, 15, 16])⟩]
abbrev k15_o8 : List AJ := [.o ⟨(some 17), none, false, .idxA 3 (.t 13) (.t 15), none⟩, .o ⟨(some 18), none, false, .load 3 true (.t 17), none⟩, .v 5 3 (.agg [(.int .i64 0), (.int .i64 0), (.int .i64 0)]) [] (.t 18) (some [3, 5, 13, 14, 15])]
abbrev k15_o9 : List AI := [⟨(some 19), none, false, .fieldA 0 (.t 5), none⟩, ⟨(some 20), none, false, .load 1 false (.t 19), none⟩, ⟨(some 21), none, false, .call 40 [(.t 20)], none⟩, ⟨(some 22), none, true, .bin .add (.t 21) (.c (.str [58])), none⟩, ⟨(some 23), none, false, .fieldA 1 (.t 5), none⟩, ⟨(some 24), none, false, .load 1 false (.t 23), none⟩, ⟨(some 25), none, false, .call 40 [(.t 24)], none⟩, ⟨(some 26), none, true, .bin .add (.t 22) (.t 25), none⟩, ⟨(some 27), none, true, .bin .add (.t 26) (.c (.str [43])), none⟩, ⟨(some 6), none, false, .mv (.t 27), (some [3, 5, 6, 13, 14, 15])⟩]
abbrev k15_o10 : List AJ := [.o ⟨(some 28), none, false, .load 3 true (.t 5), none⟩, .o ⟨(some 29), none, false, .call 41 [(.t 28)], (some [3, 5, 6, 13, 14, 15, 29])⟩]
abbrev k15_o11 : List AJ := [.o ⟨(some 30), none, false, .mv (.t 6), none⟩, .o ⟨(some 31), none, false, .fieldA 2 (.t 5), none⟩, .o ⟨(some 32), none, false, .load 1 false (.t 31), none⟩, .o ⟨(some 33), none, false, .fieldA 1 (.t 5), none⟩, .o ⟨(some 34), none, false, .load 1 false (.t 33), none⟩, .o ⟨(some 35), none, true, .bin .sub (.t 32) (.t 34), none⟩, .o ⟨(some 36), none, false, .call 40 [(.t 35)], none⟩, .o ⟨(some 37), none, true, .bin .add (.t 30) (.t 36), none⟩, .o ⟨(some 6), none, false, .mv (.t 37), (some [3, 6, 13, 14, 15])⟩]
def k15_18 : ACode := .region k15_o11
def k15_19 : ACode := .cond (.t 29) k15_18 .skip
def k15_20 : ACode := .seq (.region k15_o10) k15_19
abbrev k15_o12 : List AJ := [.o ⟨(some 38), none, false, .mv (.t 3), none⟩, .o ⟨(some 39), none, false, .mv (.t 6), none⟩, .o ⟨(some 40), none, false, .bsl false 1 [(.t 39)], none⟩, .o ⟨(some 41), none, false, .append 1 16 (.t 38) (.t 40), none⟩, .o ⟨(some 3), none, false, .mv (.t 41), (some [3, 13, 14, 15])⟩]
def k15_21 : ACode := .region k15_o12
def k15_22 : ACode := .seq k15_20 k15_21
def k15_23 : ACode := .seq (.draw k15_o9 [] rfl) k15_22
def k15_24 : ACode := .seq (.region k15_o8) k15_23
abbrev k15_o13 : List AJ := [.o ⟨(some 42), none, true, .bin .add (.t 15) (.c (.int .i64 1)), none⟩, .o ⟨(some 15), none, false, .mv (.t 42), (some [3, 13, 14, 15])⟩]
def k15_26 : ACode := .region k15_o13
def k15_27 : ACode := .seq (.block 1 k15_24) k15_26
def k15_28 : ACode := .seq (.cond (.t 16) .skip (.exit 0)) k15_27
def k15_29 : ACode := .seq (.region k15_o7) k15_28
def k15_30 : ACode := .loop k15_29
def k15_31 : ACode := .block 0 k15_30
def k15_32 : ACode := .seq (.region k15_o6) k15_31
abbrev k15_o14 : List AJ := [.o ⟨(some 43), none, false, .mv (.t 3), none⟩, .o ⟨(some 44), none, false, .call 34 [(.t 43), (.c (.str [32]))], none⟩, .o ⟨(some 2), none, false, .mv (.t 44), (some [2])⟩]
def k15_34 : ACode := .seq (.region k15_o14) .ret
def k15_35 : ACode := .seq k15_32 k15_34
def k15_36 : ACode := .seq (.region k15_o5) k15_35
def k15_37 : ACode := .seq k15_10 k15_36
def k15_38 : ACode := .seq k15_5 k15_37
def k15_39 : ACode := .seq (.region k15_o0) k15_38
@[simp, simp ↓] theorem k15_3r : sR k15_3 k15_o2 .ret := yR rfl
@[simp, simp ↓] theorem k15_4r : rC k15_4 (.t 9) k15_3 .skip := zC rfl
@[simp, simp ↓] theorem k15_5r : sR k15_5 k15_o1 k15_4 := yR rfl
@[simp, simp ↓] theorem k15_8r : sR k15_8 k15_o4 .ret := yR rfl
@[simp, simp ↓] theorem k15_9r : rC k15_9 (.t 12) k15_8 .skip := zC rfl
@[simp, simp ↓] theorem k15_10r : sR k15_10 k15_o3 k15_9 := yR rfl
@[simp, simp ↓] theorem k15_18r : rR k15_18 k15_o11 := zR rfl
@[simp, simp ↓] theorem k15_19r : rC k15_19 (.t 29) k15_18 .skip := zC rfl
@[simp, simp ↓] theorem k15_20r : sR k15_20 k15_o10 k15_19 := yR rfl
@[simp, simp ↓] theorem k15_21r : rR k15_21 k15_o12 := zR rfl
@[simp, simp ↓] theorem k15_22r : rS k15_22 k15_20 k15_21 := zS rfl
@[simp, simp ↓] theorem k15_23r : sD k15_23 k15_o9 [] k15_22 := yD rfl
@[simp, simp ↓] theorem k15_24r : sR k15_24 k15_o8 k15_23 := yR rfl
@[simp, simp ↓] theorem k15_26r : rR k15_26 k15_o13 := zR rfl
@[simp, simp ↓] theorem k15_27r : sB k15_27 1 k15_24 k15_26 := yB rfl
@[simp, simp ↓] theorem k15_28r : sC k15_28 (.t 16) .skip (.exit 0) k15_27 := yC rfl
@[simp, simp ↓] theorem k15_29r : sR k15_29 k15_o7 k15_28 := yR rfl
@[simp, simp ↓] theorem k15_30r : rL k15_30 k15_29 := zL rfl
@[simp, simp ↓] theorem k15_31r : rB k15_31 0 k15_30 := zB rfl
@[simp, simp ↓] theorem k15_32r : sR k15_32 k15_o6 k15_31 := yR rfl
@[simp, simp ↓] theorem k15_34r : sR k15_34 k15_o14 .ret := yR rfl
@[simp, simp ↓] theorem k15_35r : rS k15_35 k15_32 k15_34 := zS rfl
@[simp, simp ↓] theorem k15_36r : sR k15_36 k15_o5 k15_35 := yR rfl
@[simp, simp ↓] theorem k15_37r : rS k15_37 k15_10 k15_36 := zS rfl
@[simp, simp ↓] theorem k15_38r : rS k15_38 k15_5 k15_37 := zS rfl
@[simp, simp ↓] theorem k15_39r : sR k15_39 k15_o0 k15_38 := yR rfl
noncomputable abbrev k15_C : Orc → Cx := mkC Tryd.prog [5] 15 45 [.tmp 2]
theorem k15_of : OfP Tryd.prog Tryd.f15 15 45 k15_C k15_39 := @ofP _ _ _ _ _ _ _ _ Tryd.func15 (by decide +kernel) rfl (by kernel_rfl) rfl (by kernel_rfl)
theorem implBT_c (l : List T) (h : Heap) (hl : l.length ≤ 1048576) (ok : okB l) : ACalls Tryd.prog 15 [.snap 3 (l.map T.av)] h (fun v h' => v = .str (bsT l) ∧ h' = h) := by
  refine k15_of rfl orcU1_p fun I => ?_
  by_cases hv : validB l
  · have h24 := hv.2
    by_cases h0 : l = []
    · have hT : bsT l = [45] := by unfold bsT; rw [if_pos hv, if_pos h0]
      rw [hT]
      subst h0
      refine Run2.of I 1000 ?_
      simp -implicitDefEqProofs [ok, hv]
      exact .base ⟨rfl, rfl⟩
    · have hT : bsT l = Lib.join (l.map barT) [32] := by unfold bsT; rw [if_pos hv, if_neg h0]
      rw [hT]
      refine Run2.of I 1000 ?_
      simp -implicitDefEqProofs [hl, ok, hv, h0]
      refine Run2.loopE (α := Nat × AV × Heap) (fun p => [(3, p.2.1), (13, .snap 3 (l.map T.av)), (14, .int .i64 l.length), (15, .int .i64 (p.1 : Nat))]) (fun p => p.2.2 ++ h) (fun p => l.length - p.1) (fun p => p.1 ≤ l.length ∧ Grow 1 p.2.1 (((l.take p.1).map barT).map sv) p.2.2) (0, .nilsl, []) (by simp) rfl ⟨Nat.zero_le _, by simpa using Grow.nil⟩ ?_
      rintro ⟨i, w, hp⟩ ⟨hi, hg⟩ ih
      simp only at hi hg
      have hcell := hg.cell
      by_cases hlt : i < l.length
      · have go := fun w' hp' (g : Grow 1 w' (((l.take i).map barT).map sv ++ [.str (barT l[i])]) hp') => ih (i + 1, w', hp') ⟨hlt, by
          show Grow 1 w' (((l.take (i + 1)).map barT).map sv) hp'
          rw [List.take_succ_eq_append_getElem hlt]
          simpa only [List.map_append, List.map_cons, List.map_nil, sv_eq] using g⟩ (by omega)
        have hel := hv.el (List.getElem_mem hlt)
        obtain ⟨i1, i2, i3⟩ := el_in hel
        clear ih
        generalize hti : l[i] = t at *
        have hav : T.av t = .agg [.int .i64 t.f, .int .i64 t.t, .int .i64 t.s] := rfl
        have e1 := itoa_len i1.1 i1.2
        have e2 := itoa_len i2.1 i2.2
        have e3 := itoa_len i3.1 i3.2
        have i1a := i1.1
        have i1b := i1.2
        have i2a := i2.1
        have i2b := i2.2
        have i3a := i3.1
        have i3b := i3.2
        by_cases hs : t.s = -1
        · have hb : barT t = Lib.itoa t.f ++ 58 :: (Lib.itoa t.t ++ [43]) := by unfold barT; rw [if_pos hs]
          refine Run2.of I 1000 ?_
          simp -implicitDefEqProofs [hlt, hti, hcell, hs, i1a, i1b, i2a, i2b]
          repeat (refine ⟨by omega, ?_⟩)
          rw [← hb]
          refine hg.app (by simp; omega) (by simp) fun w2 hp2 hg2 => ?_
          have hcell2 := hg2.cell
          have := go w2 hp2 hg2
          simp -implicitDefEqProofs [hcell2]
          exact ⟨by omega, by simpa using this⟩
        · have hb : barT t = Lib.itoa t.f ++ 58 :: (Lib.itoa t.t ++ 43 :: Lib.itoa (t.s - t.t)) := by unfold barT; rw [if_neg hs]
          refine Run2.of I 1000 ?_
          simp -implicitDefEqProofs [hlt, hti, hcell, hs, i1a, i1b, i2a, i2b, i3a, i3b]
          repeat (refine ⟨by omega, ?_⟩)
          rw [← hb]
          refine hg.app (by simp; omega) (by simp) fun w2 hp2 hg2 => ?_
          have hcell2 := hg2.cell
          have := go w2 hp2 hg2
          simp -implicitDefEqProofs [hcell2]
          exact ⟨by omega, by simpa using this⟩
      · obtain rfl : i = l.length := by omega
        rw [List.take_length] at hg
        have hlen := bs_takeL hv l.length (Nat.le_refl _)
        rw [List.take_length] at hlen
        clear ih
        refine Run2.of I 1000 ?_
        simp -implicitDefEqProofs [hlt, hcell]
        refine (join_g hg [32] h (by simp; omega) (by omega)).mono ?_
        rintro v2 h2 ⟨e1, e2⟩
        rw [e1, e2]
        refine gK.go ?_
        simp -implicitDefEqProofs
        exact Post.dropAll rfl (.base ⟨rfl, rfl⟩)
  · have hT : bsT l = [] := by unfold bsT; rw [if_neg hv]
    rw [hT]
    refine Run2.of I 1000 ?_
    simp -implicitDefEqProofs [hl, ok, hv]
    exact .base ⟨rfl, rfl⟩
noncomputable def orcU2 : List (Nat × (List AV → Option (Prop × AV))) := (69, o_l01Dec) :: []
theorem orcU2_p : Pure Tryd.prog (lk orcU2) := (lk_pure o_l01Dec_k lk_pure0)
@[simp] theorem orcU2_l (b : Bool) (g : FuncId) (l : List AV) : lk orcU2 b g l = if g = 69 then o_l01Dec l else none := nr rfl
abbrev k37_o0 : List AJ := [.o ⟨(some 2), none, false, .mv (.c (.str [])), (some [0])⟩]
abbrev k37_o1 : List AJ := [.o ⟨(some 5), none, false, .mv (.t 0), none⟩, .o ⟨(some 6), none, false, .len (.t 5), none⟩, .o ⟨(some 7), none, false, .bin .eql (.t 6) (.c (.int .i64 0)), (some [0, 7])⟩]
abbrev k37_o2 : List AJ := [.o ⟨(some 2), none, false, .mv (.c (.str [45])), (some [2])⟩]
def k37_3 : ACode := .seq (.region k37_o2) .ret
def k37_4 : ACode := .cond (.t 7) k37_3 .skip
def k37_5 : ACode := .seq (.region k37_o1) k37_4
abbrev k37_o3 : List AJ := [.o ⟨(some 3), none, false, .mv (.c (.str [])), (some [0, 3])⟩]
abbrev k37_o4 : List AJ := [.o ⟨(some 4), none, false, .mv (.c (.int .i64 0)), (some [0, 3, 4])⟩]
abbrev k37_o5 : List AJ := [.o ⟨(some 8), none, false, .mv (.t 4), none⟩, .o ⟨(some 9), none, false, .mv (.t 0), none⟩, .o ⟨(some 10), none, false, .len (.t 9), none⟩, .o ⟨(some 11), none, false, .bin .lss (.t 8) (.t 10), (some [0, 3, 4, 11])⟩]
def k37_9 : ACode := .cond (.t 11) .skip (.exit 0)
def k37_10 : ACode := .seq (.region k37_o5) k37_9
abbrev k37_o6 : List AJ := [.o ⟨(some 14), none, false, .mv (.t 4), none⟩, .o ⟨(some 15), none, false, .bin .gtr (.t 14) (.c (.int .i64 0)), (some [0, 3, 4, 15])⟩]
abbrev k37_o7 : List AJ := [.o ⟨(some 16), none, false, .mv (.t 3), none⟩, .o ⟨(some 17), none, true, .bin .add (.t 16) (.c (.str [32])), none⟩, .o ⟨(some 3), none, false, .mv (.t 17), (some [0, 3, 4])⟩]
def k37_12 : ACode := .region k37_o7
def k37_13 : ACode := .cond (.t 15) k37_12 .skip
def k37_14 : ACode := .seq (.region k37_o6) k37_13
abbrev k37_o8 : List AI := [⟨(some 18), none, false, .mv (.t 3), none⟩, ⟨(some 19), none, false, .mv (.t 0), none⟩, ⟨(some 20), none, false, .mv (.t 4), none⟩, ⟨(some 21), none, false, .idxA 3 (.t 19) (.t 20), none⟩, ⟨(some 22), none, false, .fieldA 0 (.t 21), none⟩, ⟨(some 23), none, false, .load 1 false (.t 22), none⟩, ⟨(some 24), none, false, .call 69 [(.t 23)], none⟩, ⟨(some 25), none, true, .bin .add (.t 24) (.c (.str [58])), none⟩, ⟨(some 26), none, false, .mv (.t 0), none⟩, ⟨(some 27), none, false, .mv (.t 4), none⟩, ⟨(some 28), none, false, .idxA 3 (.t 26) (.t 27), none⟩, ⟨(some 29), none, false, .fieldA 1 (.t 28), none⟩, ⟨(some 30), none, false, .load 1 false (.t 29), none⟩, ⟨(some 31), none, false, .call 69 [(.t 30)], (some [0, 4, 18, 25, 31])⟩, ⟨(some 32), none, true, .bin .add (.t 25) (.t 31), none⟩, ⟨(some 33), none, true, .bin .add (.t 32) (.c (.str [43])), none⟩, ⟨(some 34), none, true, .bin .add (.t 18) (.t 33), none⟩, ⟨(some 3), none, false, .mv (.t 34), (some [0, 3, 4])⟩]
abbrev k37_o9 : List AJ := [.o ⟨(some 35), none, false, .mv (.t 0), none⟩, .o ⟨(some 36), none, false, .mv (.t 4), none⟩, .o ⟨(some 37), none, false, .idxA 3 (.t 35) (.t 36), none⟩, .o ⟨(some 38), none, false, .fieldA 2 (.t 37), none⟩, .o ⟨(some 39), none, false, .load 1 false (.t 38), none⟩, .o ⟨(some 40), none, false, .bin .neq (.t 39) (.c (.int .i64 (-1))), (some [0, 3, 4, 40])⟩]
abbrev k37_o10 : List AI := [⟨(some 41), none, false, .mv (.t 3), none⟩, ⟨(some 42), none, false, .mv (.t 0), none⟩, ⟨(some 43), none, false, .mv (.t 4), none⟩, ⟨(some 44), none, false, .idxA 3 (.t 42) (.t 43), none⟩, ⟨(some 45), none, false, .fieldA 2 (.t 44), none⟩, ⟨(some 46), none, false, .load 1 false (.t 45), none⟩, ⟨(some 47), none, false, .mv (.t 0), none⟩, ⟨(some 48), none, false, .mv (.t 4), none⟩, ⟨(some 49), none, false, .idxA 3 (.t 47) (.t 48), none⟩, ⟨(some 50), none, false, .fieldA 1 (.t 49), none⟩, ⟨(some 51), none, false, .load 1 false (.t 50), none⟩, ⟨(some 52), none, true, .bin .sub (.t 46) (.t 51), none⟩, ⟨(some 53), none, false, .call 69 [(.t 52)], none⟩, ⟨(some 54), none, true, .bin .add (.t 41) (.t 53), (some [0, 4, 54])⟩, ⟨(some 3), none, false, .mv (.t 54), (some [0, 3, 4])⟩]
def k37_17 : ACode := .draw k37_o10 [] rfl
def k37_18 : ACode := .cond (.t 40) k37_17 .skip
def k37_19 : ACode := .seq (.region k37_o9) k37_18
def k37_20 : ACode := .seq (.draw k37_o8 [] rfl) k37_19
def k37_21 : ACode := .seq k37_14 k37_20
abbrev k37_o11 : List AJ := [.o ⟨(some 12), none, false, .mv (.t 4), none⟩, .o ⟨(some 13), none, true, .bin .add (.t 12) (.c (.int .i64 1)), none⟩, .o ⟨(some 4), none, false, .mv (.t 13), (some [0, 3, 4])⟩]
def k37_23 : ACode := .region k37_o11
def k37_24 : ACode := .seq (.block 1 k37_21) k37_23
def k37_25 : ACode := .seq k37_10 k37_24
def k37_26 : ACode := .loop k37_25
def k37_27 : ACode := .block 0 k37_26
def k37_28 : ACode := .seq (.region k37_o4) k37_27
abbrev k37_o12 : List AJ := [.o ⟨(some 55), none, false, .mv (.t 3), none⟩, .o ⟨(some 2), none, false, .mv (.t 55), (some [2])⟩]
def k37_30 : ACode := .seq (.region k37_o12) .ret
def k37_31 : ACode := .seq k37_28 k37_30
def k37_32 : ACode := .seq (.region k37_o3) k37_31
def k37_33 : ACode := .seq k37_5 k37_32
def k37_34 : ACode := .seq (.region k37_o0) k37_33
@[simp, simp ↓] theorem k37_3r : sR k37_3 k37_o2 .ret := yR rfl
@[simp, simp ↓] theorem k37_4r : rC k37_4 (.t 7) k37_3 .skip := zC rfl
@[simp, simp ↓] theorem k37_5r : sR k37_5 k37_o1 k37_4 := yR rfl
@[simp, simp ↓] theorem k37_9r : rC k37_9 (.t 11) .skip (.exit 0) := zC rfl
@[simp, simp ↓] theorem k37_10r : sR k37_10 k37_o5 k37_9 := yR rfl
@[simp, simp ↓] theorem k37_12r : rR k37_12 k37_o7 := zR rfl
@[simp, simp ↓] theorem k37_13r : rC k37_13 (.t 15) k37_12 .skip := zC rfl
@[simp, simp ↓] theorem k37_14r : sR k37_14 k37_o6 k37_13 := yR rfl
@[simp, simp ↓] theorem k37_17r : rD k37_17 k37_o10 [] := zD rfl
@[simp, simp ↓] theorem k37_18r : rC k37_18 (.t 40) k37_17 .skip := zC rfl
@[simp, simp ↓] theorem k37_19r : sR k37_19 k37_o9 k37_18 := yR rfl
@[simp, simp ↓] theorem k37_20r : sD k37_20 k37_o8 [] k37_19 := yD rfl
@[simp, simp ↓] theorem k37_21r : rS k37_21 k37_14 k37_20 := zS rfl
@[simp, simp ↓] theorem k37_23r : rR k37_23 k37_o11 := zR rfl
@[simp, simp ↓] theorem k37_24r : sB k37_24 1 k37_21 k37_23 := yB rfl
@[simp, simp ↓] theorem k37_25r : rS k37_25 k37_10 k37_24 := zS rfl
@[simp, simp ↓] theorem k37_26r : rL k37_26 k37_25 := zL rfl
@[simp, simp ↓] theorem k37_27r : rB k37_27 0 k37_26 := zB rfl
@[simp, simp ↓] theorem k37_28r : sR k37_28 k37_o4 k37_27 := yR rfl
@[simp, simp ↓] theorem k37_30r : sR k37_30 k37_o12 .ret := yR rfl
@[simp, simp ↓] theorem k37_31r : rS k37_31 k37_28 k37_30 := zS rfl
@[simp, simp ↓] theorem k37_32r : sR k37_32 k37_o3 k37_31 := yR rfl
@[simp, simp ↓] theorem k37_33r : rS k37_33 k37_5 k37_32 := zS rfl
@[simp, simp ↓] theorem k37_34r : sR k37_34 k37_o0 k37_33 := yR rfl
noncomputable abbrev k37_C : Orc → Cx := mkC Tryd.prog [] 37 56 [.tmp 2]
theorem k37_of0 : OfP0 Tryd.prog Tryd.f37 37 56 k37_C k37_34 := @ofP0 _ _ _ _ _ _ _ _ Tryd.func37 (by decide +kernel) rfl (by kernel_rfl) rfl (by kernel_rfl)
theorem l21Text_c (l : List T) (h : Heap) (hv : validB l) : ACalls Tryd.prog 37 [.snap 3 (l.map T.av)] h (fun v h' => v = .str (if l = [] then [45] else Lib.join (l.map barT) [32]) ∧ h' = h) := by
  have h24 := hv.2
  refine k37_of0 rfl orcU2_p fun I => ?_
  by_cases h0 : l = []
  · rw [if_pos h0]
    subst h0
    refine Run2.of I 1000 ?_
    simp -implicitDefEqProofs
  · rw [if_neg h0]
    refine Run2.of I 1000 ?_
    simp -implicitDefEqProofs [h0]
    refine Run2.loopE (fun (i : Nat) => [(0, .snap 3 (l.map T.av)), (3, .str (Lib.join ((l.take i).map barT) [32])), (4, .int .i64 i)]) (fun _ => h) (fun i => l.length - i) (fun i => i ≤ l.length) 0 (by simp [join_none']) rfl (Nat.zero_le _) fun i hi ih => ?_
    by_cases hlt : i < l.length
    · have go := ih (i + 1) hlt (by omega)
      rw [join_take _ _ hlt] at go
      have hel := hv.el (List.getElem_mem hlt)
      obtain ⟨i1, i2, i3⟩ := el_in hel
      have hlen := bs_takeL hv i hi
      clear ih
      have e1 := itoa_len i1.1 i1.2
      have e2 := itoa_len i2.1 i2.2
      have e3 := itoa_len i3.1 i3.2
      have i1a := i1.1
      have i1b := i1.2
      have i2a := i2.1
      have i2b := i2.2
      have i3a := i3.1
      have i3b := i3.2
      have hav : ∀ t : T, T.av t = .agg [.int .i64 t.f, .int .i64 t.t, .int .i64 t.s] := fun _ => rfl
      by_cases hi0 : i = 0
      · subst hi0
        rw [if_pos rfl] at go
        generalize hti : l[0] = t at *
        by_cases hs : t.s = -1
        · have hb : barT t = Lib.itoa t.f ++ 58 :: (Lib.itoa t.t ++ [43]) := by unfold barT; rw [if_pos hs]
          rw [hb] at go
          refine Run2.of I 1000 ?_
          simp -implicitDefEqProofs [hlt, hti, hs, i1a, i1b, i2a, i2b, join_none']
          repeat (refine ⟨by omega, ?_⟩)
          simpa using go
        · have hb : barT t = Lib.itoa t.f ++ 58 :: (Lib.itoa t.t ++ 43 :: Lib.itoa (t.s - t.t)) := by unfold barT; rw [if_neg hs]
          rw [hb] at go
          refine Run2.of I 1000 ?_
          simp -implicitDefEqProofs [hlt, hti, hs, i1a, i1b, i2a, i2b, i3a, i3b, join_none']
          repeat (refine ⟨by omega, ?_⟩)
          simpa using go
      · rw [if_neg hi0] at go
        generalize Lib.join ((l.take i).map barT) [32] = S at *
        have hip : 0 < i := by omega
        generalize hti : l[i] = t at *
        by_cases hs : t.s = -1
        · have hb : barT t = Lib.itoa t.f ++ 58 :: (Lib.itoa t.t ++ [43]) := by unfold barT; rw [if_pos hs]
          rw [hb] at go
          refine Run2.of I 1000 ?_
          simp -implicitDefEqProofs [hlt, hti, hs, i1a, i1b, i2a, i2b, hip]
          repeat (refine ⟨by omega, ?_⟩)
          simpa using go
        · have hb : barT t = Lib.itoa t.f ++ 58 :: (Lib.itoa t.t ++ 43 :: Lib.itoa (t.s - t.t)) := by unfold barT; rw [if_neg hs]
          rw [hb] at go
          refine Run2.of I 1000 ?_
          simp -implicitDefEqProofs [hlt, hti, hs, i1a, i1b, i2a, i2b, i3a, i3b, hip]
          repeat (refine ⟨by omega, ?_⟩)
          simpa using go
    · obtain rfl : i = l.length := by omega
      rw [List.take_length]
      refine Run2.of I 1000 ?_
      simp -implicitDefEqProofs [hlt]
noncomputable def o_l21Text : List AV → Option (Prop × AV) := tab (fun (x : List T) => match x with | l => [.snap 3 (l.map T.av)]) (fun x => match x with | l => validB l) (fun x => match x with | l => .str (if l = [] then [45] else Lib.join (l.map barT) [32]))
@[simp] theorem o_l21Text_e (l : List T) : o_l21Text [.snap 3 (l.map T.av)] = some (validB l, .str (if l = [] then [45] else Lib.join (l.map barT) [32])) := tab_at (enc := fun (x : List T) => match x with | l => [.snap 3 (l.map T.av)]) (fun x y h => by
  simp at h; simp [h] <;> omega) _ _ l
theorem o_l21Text_k : Knows Tryd.prog 37 o_l21Text := tab_knows fun x hx h => by
  exact l21Text_c x h hx
noncomputable def orcU3 : List (Nat × (List AV → Option (Prop × AV))) := (36, o_l21List) :: (37, o_l21Text) :: []
theorem orcU3_p : Pure Tryd.prog (lk orcU3) := (lk_pure o_l21List_k (lk_pure o_l21Text_k lk_pure0))
@[simp] theorem orcU3_l (b : Bool) (g : FuncId) (l : List AV) : lk orcU3 b g l = if g = 36 then o_l21List l else if g = 37 then o_l21Text l else none := nr rfl
abbrev k13_o0 : List AJ := [.o ⟨(some 2), none, false, .mv (.c (.str [])), (some [0])⟩]
abbrev k13_o1 : List AJ := [.o ⟨(some 3), none, false, .mv (.t 0), none⟩, .o ⟨(some 4), none, false, .call 36 [(.t 3)], none⟩, .o ⟨(some 5), none, false, .un .not (.t 4), (some [0, 5])⟩]
abbrev k13_o2 : List AJ := [.o ⟨(some 2), none, false, .mv (.c (.str [])), (some [2])⟩]
def k13_3 : ACode := .seq (.region k13_o2) .ret
def k13_4 : ACode := .cond (.t 5) k13_3 .skip
def k13_5 : ACode := .seq (.region k13_o1) k13_4
abbrev k13_o3 : List AJ := [.o ⟨(some 6), none, false, .mv (.t 0), none⟩, .o ⟨(some 7), none, false, .call 37 [(.t 6)], none⟩, .o ⟨(some 2), none, false, .mv (.t 7), (some [2])⟩]
def k13_7 : ACode := .seq (.region k13_o3) .ret
def k13_8 : ACode := .seq k13_5 k13_7
def k13_9 : ACode := .seq (.region k13_o0) k13_8
@[simp, simp ↓] theorem k13_3r : sR k13_3 k13_o2 .ret := yR rfl
@[simp, simp ↓] theorem k13_4r : rC k13_4 (.t 5) k13_3 .skip := zC rfl
@[simp, simp ↓] theorem k13_5r : sR k13_5 k13_o1 k13_4 := yR rfl
@[simp, simp ↓] theorem k13_7r : sR k13_7 k13_o3 .ret := yR rfl
@[simp, simp ↓] theorem k13_8r : rS k13_8 k13_5 k13_7 := zS rfl
@[simp, simp ↓] theorem k13_9r : sR k13_9 k13_o0 k13_8 := yR rfl
noncomputable abbrev k13_C : Orc → Cx := mkC Tryd.prog [] 13 8 [.tmp 2]
theorem k13_of0 : OfP0 Tryd.prog Tryd.f13 13 8 k13_C k13_9 := @ofP0 _ _ _ _ _ _ _ _ Tryd.func13 (by decide +kernel) rfl (by kernel_rfl) rfl (by kernel_rfl)
theorem specBT_c (l : List T) (h : Heap) (hl : l.length ≤ 1048576) (ok : okB l) : ACalls Tryd.prog 13 [.snap 3 (l.map T.av)] h (fun v h' => v = .str (bsT l) ∧ h' = h) := by
  refine k13_of0 rfl orcU3_p fun I => ?_
  unfold bsT
  by_cases hv : validB l
  · rw [if_pos hv]
    refine Run2.of I 1000 ?_
    simp -implicitDefEqProofs [hl, ok, hv]
  · rw [if_neg hv]
    refine Run2.of I 1000 ?_
    simp -implicitDefEqProofs [hl, ok, hv]
end Go.AG.B
