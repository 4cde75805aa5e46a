/- The text of bars: the program and the reference. No statement is made here. -/
import Derived.Test.YtiahlbbljmngnaaDoorStB
import Derived.Test.YtiahlbbljmngnaaDoorBrVal
namespace Go.AG.B
open Go.Proofs Go.Proofs.YtiahlbbljmngnaaDoor
set_option linter.unusedSimpArgs false
set_option linter.unusedVariables false
set_option maxRecDepth 4000
def barT (t : T) : List UInt8 := Lib.itoa t.f ++ (58 :: (Lib.itoa t.t ++ (43 :: (if t.s = -1 then [] else Lib.itoa (t.s - t.t)))))
noncomputable def bsT (l : List T) : List UInt8 := if validB l then (if l = [] then [45] else Lib.join (l.map barT) [32]) else []
theorem el_in {t : T} (h : t.el) : in64 t.f ∧ in64 t.t ∧ in64 (t.s - t.t) := by
  unfold T.el at h
  unfold in64
  omega
theorem barT_len {t : T} (h : t.el) : (barT t).length ≤ 65 := by
  obtain ⟨h1, h2, h3⟩ := el_in h
  have e1 := itoa_len h1.1 h1.2
  have e2 := itoa_len h2.1 h2.2
  have e3 := itoa_len h3.1 h3.2
  unfold barT
  split <;> simp <;> omega
theorem bs_takeL {l : List T} (h : validB l) (i : Nat) (hi : i ≤ l.length) : (Lib.join ((l.take i).map barT) [32]).length ≤ 2000 := by
  have h1 := join_takeL barT [32] l i 65 fun t ht => barT_len (h.el ht)
  have h24 := h.2
  simp only [List.length_singleton] at h1
  omega
abbrev k46_o0 : List AJ := [.o ⟨(some 1), none, false, .box false 3 (.t 0), none⟩, .o ⟨(some 2), none, false, .mv (.c (.bool false)), (some [1])⟩]
abbrev k46_o1 : List AJ := [.o ⟨(some 3), none, false, .fieldA 2 (.t 1), none⟩, .o ⟨(some 4), none, false, .load 1 false (.t 3), none⟩, .o ⟨(some 5), none, false, .bin .neq (.t 4) (.c (.int .i64 (-1))), none⟩, .o ⟨(some 2), none, false, .mv (.t 5), (some [2])⟩]
def k46_2 : ACode := .seq (.region k46_o1) .ret
def k46_3 : ACode := .seq (.region k46_o0) k46_2
@[simp, simp ↓] theorem k46_2r : sR k46_2 k46_o1 .ret := yR rfl
@[simp, simp ↓] theorem k46_3r : sR k46_3 k46_o0 k46_2 := yR rfl
noncomputable abbrev k46_C : Orc → Cx := mkC Tryd.prog [] 46 6 [.tmp 2]
theorem k46_of0 : OfP0 Tryd.prog Tryd.f46 46 6 k46_C k46_3 := @ofP0 _ _ _ _ _ _ _ _ Tryd.func46 (by decide +kernel) rfl (by kernel_rfl) rfl (by kernel_rfl)
theorem isFinite_c (a b c : Int) (h : Heap) : ACalls Tryd.prog 46 [.agg [.int .i64 a, .int .i64 b, .int .i64 c]] h (fun v h' => v = .bool (!decide (c = -1)) ∧ h' = h) := by
  refine k46_of0 rfl noPure fun I => ?_
  refine Run2.of I 1000 ?_
  simp -implicitDefEqProofs
noncomputable def o_isFinite : List AV → Option (Prop × AV) := tab (fun (x : Int × Int × Int) => match x with | (a, b, c) => [.agg [.int .i64 a, .int .i64 b, .int .i64 c]]) (fun x => match x with | (a, b, c) => True) (fun x => match x with | (a, b, c) => .bool (!decide (c = -1)))
@[simp] theorem o_isFinite_e (a : Int) (b : Int) (c : Int) : o_isFinite [.agg [.int .i64 a, .int .i64 b, .int .i64 c]] = some (True, .bool (!decide (c = -1))) := tab_at (enc := fun (x : Int × Int × Int) => match x with | (a, b, c) => [.agg [.int .i64 a, .int .i64 b, .int .i64 c]]) (fun x y h => by
  obtain ⟨a1, b1, c1⟩ := x; obtain ⟨a2, b2, c2⟩ := y; simp at h; simp [h] <;> omega) _ _ (a, b, c)
theorem o_isFinite_k : Knows Tryd.prog 46 o_isFinite := tab_knows fun x hx h => by
  obtain ⟨a, b, c⟩ := x; exact isFinite_c _ _ _ h
@[simp] theorem o_valid_0 : o_valid [.snap 3 []] = some (([] : List T).length ≤ 1048576 ∧ okB [], .bool (decide (validB []))) := by simpa using o_valid_e []
@[simp] theorem o_l21List_0 : o_l21List [.snap 3 []] = some (([] : List T).length ≤ 1048576 ∧ okB [], .bool (decide (validB []))) := by simpa using o_l21List_e []
noncomputable def orcU1 : List (Nat × (List AV → Option (Prop × AV))) := (21, o_valid) :: (41, o_Decimal) :: (46, o_isFinite) :: []
theorem orcU1_p : Pure Tryd.prog (lk orcU1) := (lk_pure o_valid_k (lk_pure o_Decimal_k (lk_pure o_isFinite_k lk_pure0)))
@[simp] theorem orcU1_l (b : Bool) (g : FuncId) (l : List AV) : lk orcU1 b g l = if g = 21 then o_valid l else if g = 41 then o_Decimal l else if g = 46 then o_isFinite l else none := nr rfl
abbrev k22_o0 : List AJ := [.o ⟨(some 2), none, false, .mv (.c (.str [])), (some [0])⟩]
abbrev k22_o1 : List AJ := [.o ⟨(some 7), none, false, .mv (.t 0), none⟩, .o ⟨(some 8), none, false, .call 21 [(.t 7)], none⟩, .o ⟨(some 9), none, false, .un .not (.t 8), (some [0, 9])⟩]
abbrev k22_o2 : List AJ := [.o ⟨(some 2), none, false, .mv (.c (.str [])), (some [2])⟩]
def k22_3 : ACode := .seq (.region k22_o2) .ret
def k22_4 : ACode := .cond (.t 9) k22_3 .skip
def k22_5 : ACode := .seq (.region k22_o1) k22_4
abbrev k22_o3 : List AJ := [.o ⟨(some 10), none, false, .mv (.t 0), none⟩, .o ⟨(some 11), none, false, .len (.t 10), none⟩, .o ⟨(some 12), none, false, .bin .eql (.t 11) (.c (.int .i64 0)), (some [0, 12])⟩]
abbrev k22_o4 : List AJ := [.o ⟨(some 2), none, false, .mv (.c (.str [45])), (some [2])⟩]
def k22_8 : ACode := .seq (.region k22_o4) .ret
def k22_9 : ACode := .cond (.t 12) k22_8 .skip
def k22_10 : ACode := .seq (.region k22_o3) k22_9
abbrev k22_o5 : List AJ := [.o ⟨(some 3), none, false, .mv (.c .nilsl), (some [0, 3])⟩]
abbrev k22_o6 : List AJ := [.o ⟨(some 13), none, false, .mv (.t 0), none⟩, .o ⟨(some 14), none, false, .len (.t 13), none⟩, .o ⟨(some 15), none, false, .mv (.c (.int .i64 0)), (some [3, 13, 14, 15])⟩]
abbrev k22_o7 : List AJ := [.o ⟨(some 16), none, false, .bin .lss (.t 15) (.t 14), (some [3, 13, 14, 15, 16])⟩]
abbrev k22_o8 : List AJ := [.o ⟨(some 17), none, false, .idxA 3 (.t 13) (.t 15), none⟩, .o ⟨(some 18), none, false, .load 3 true (.t 17), none⟩, .v 5 3 (.agg [(.int .i64 0), (.int .i64 0), (.int .i64 0)]) [] (.t 18) (some [3, 5, 13, 14, 15])]
abbrev k22_o9 : List AI := [⟨(some 19), none, false, .fieldA 0 (.t 5), none⟩, ⟨(some 20), none, false, .load 1 false (.t 19), none⟩, ⟨(some 21), none, false, .call 41 [(.t 20)], none⟩, ⟨(some 22), none, true, .bin .add (.t 21) (.c (.str [58])), none⟩, ⟨(some 23), none, false, .fieldA 1 (.t 5), none⟩, ⟨(some 24), none, false, .load 1 false (.t 23), none⟩, ⟨(some 25), none, false, .call 41 [(.t 24)], none⟩, ⟨(some 26), none, true, .bin .add (.t 22) (.t 25), none⟩, ⟨(some 27), none, true, .bin .add (.t 26) (.c (.str [43])), none⟩, ⟨(some 6), none, false, .mv (.t 27), (some [3, 5, 6, 13, 14, 15])⟩]
abbrev k22_o10 : List AJ := [.o ⟨(some 28), none, false, .load 3 true (.t 5), none⟩, .o ⟨(some 29), none, false, .call 46 [(.t 28)], (some [3, 5, 6, 13, 14, 15, 29])⟩]
abbrev k22_o11 : List AJ := [.o ⟨(some 30), none, false, .mv (.t 6), none⟩, .o ⟨(some 31), none, false, .fieldA 2 (.t 5), none⟩, .o ⟨(some 32), none, false, .load 1 false (.t 31), none⟩, .o ⟨(some 33), none, false, .fieldA 1 (.t 5), none⟩, .o ⟨(some 34), none, false, .load 1 false (.t 33), none⟩, .o ⟨(some 35), none, true, .bin .sub (.t 32) (.t 34), none⟩, .o ⟨(some 36), none, false, .call 41 [(.t 35)], none⟩, .o ⟨(some 37), none, true, .bin .add (.t 30) (.t 36), none⟩, .o ⟨(some 6), none, false, .mv (.t 37), (some [3, 6, 13, 14, 15])⟩]
def k22_18 : ACode := .region k22_o11
def k22_19 : ACode := .cond (.t 29) k22_18 .skip
def k22_20 : ACode := .seq (.region k22_o10) k22_19
abbrev k22_o12 : List AJ := [.o ⟨(some 38), none, false, .mv (.t 3), none⟩, .o ⟨(some 39), none, false, .mv (.t 6), none⟩, .o ⟨(some 40), none, false, .bsl false 1 [(.t 39)], none⟩, .o ⟨(some 41), none, false, .append 1 16 (.t 38) (.t 40), none⟩, .o ⟨(some 3), none, false, .mv (.t 41), (some [3, 13, 14, 15])⟩]
def k22_21 : ACode := .region k22_o12
def k22_22 : ACode := .seq k22_20 k22_21
def k22_23 : ACode := .seq (.draw k22_o9 [] rfl) k22_22
def k22_24 : ACode := .seq (.region k22_o8) k22_23
abbrev k22_o13 : List AJ := [.o ⟨(some 42), none, true, .bin .add (.t 15) (.c (.int .i64 1)), none⟩, .o ⟨(some 15), none, false, .mv (.t 42), (some [3, 13, 14, 15])⟩]
def k22_26 : ACode := .region k22_o13
def k22_27 : ACode := .seq (.block 1 k22_24) k22_26
def k22_28 : ACode := .seq (.cond (.t 16) .skip (.exit 0)) k22_27
def k22_29 : ACode := .seq (.region k22_o7) k22_28
def k22_30 : ACode := .loop k22_29
def k22_31 : ACode := .block 0 k22_30
def k22_32 : ACode := .seq (.region k22_o6) k22_31
abbrev k22_o14 : List AJ := [.o ⟨(some 43), none, false, .mv (.t 3), none⟩, .o ⟨(some 44), none, false, .call 47 [(.t 43), (.c (.str [32]))], none⟩, .o ⟨(some 2), none, false, .mv (.t 44), (some [2])⟩]
def k22_34 : ACode := .seq (.region k22_o14) .ret
def k22_35 : ACode := .seq k22_32 k22_34
def k22_36 : ACode := .seq (.region k22_o5) k22_35
def k22_37 : ACode := .seq k22_10 k22_36
def k22_38 : ACode := .seq k22_5 k22_37
def k22_39 : ACode := .seq (.region k22_o0) k22_38
@[simp, simp ↓] theorem k22_3r : sR k22_3 k22_o2 .ret := yR rfl
@[simp, simp ↓] theorem k22_4r : rC k22_4 (.t 9) k22_3 .skip := zC rfl
@[simp, simp ↓] theorem k22_5r : sR k22_5 k22_o1 k22_4 := yR rfl
@[simp, simp ↓] theorem k22_8r : sR k22_8 k22_o4 .ret := yR rfl
@[simp, simp ↓] theorem k22_9r : rC k22_9 (.t 12) k22_8 .skip := zC rfl
@[simp, simp ↓] theorem k22_10r : sR k22_10 k22_o3 k22_9 := yR rfl
@[simp, simp ↓] theorem k22_18r : rR k22_18 k22_o11 := zR rfl
@[simp, simp ↓] theorem k22_19r : rC k22_19 (.t 29) k22_18 .skip := zC rfl
@[simp, simp ↓] theorem k22_20r : sR k22_20 k22_o10 k22_19 := yR rfl
@[simp, simp ↓] theorem k22_21r : rR k22_21 k22_o12 := zR rfl
@[simp, simp ↓] theorem k22_22r : rS k22_22 k22_20 k22_21 := zS rfl
@[simp, simp ↓] theorem k22_23r : sD k22_23 k22_o9 [] k22_22 := yD rfl
@[simp, simp ↓] theorem k22_24r : sR k22_24 k22_o8 k22_23 := yR rfl
@[simp, simp ↓] theorem k22_26r : rR k22_26 k22_o13 := zR rfl
@[simp, simp ↓] theorem k22_27r : sB k22_27 1 k22_24 k22_26 := yB rfl
@[simp, simp ↓] theorem k22_28r : sC k22_28 (.t 16) .skip (.exit 0) k22_27 := yC rfl
@[simp, simp ↓] theorem k22_29r : sR k22_29 k22_o7 k22_28 := yR rfl
@[simp, simp ↓] theorem k22_30r : rL k22_30 k22_29 := zL rfl
@[simp, simp ↓] theorem k22_31r : rB k22_31 0 k22_30 := zB rfl
@[simp, simp ↓] theorem k22_32r : sR k22_32 k22_o6 k22_31 := yR rfl
@[simp, simp ↓] theorem k22_34r : sR k22_34 k22_o14 .ret := yR rfl
@[simp, simp ↓] theorem k22_35r : rS k22_35 k22_32 k22_34 := zS rfl
@[simp, simp ↓] theorem k22_36r : sR k22_36 k22_o5 k22_35 := yR rfl
@[simp, simp ↓] theorem k22_37r : rS k22_37 k22_10 k22_36 := zS rfl
@[simp, simp ↓] theorem k22_38r : rS k22_38 k22_5 k22_37 := zS rfl
@[simp, simp ↓] theorem k22_39r : sR k22_39 k22_o0 k22_38 := yR rfl
noncomputable abbrev k22_C : Orc → Cx := mkC Tryd.prog [5] 22 45 [.tmp 2]
theorem k22_of : OfP Tryd.prog Tryd.f22 22 45 k22_C k22_39 := @ofP _ _ _ _ _ _ _ _ Tryd.func22 (by decide +kernel) rfl (by kernel_rfl) rfl (by kernel_rfl)
theorem implBT_c (l : List T) (h : Heap) (hl : l.length ≤ 1048576) (ok : okB l) : ACalls Tryd.prog 22 [.snap 3 (l.map T.av)] h (fun v h' => v = .str (bsT l) ∧ h' = h) := by
  refine k22_of rfl orcU1_p fun I => ?_
  by_cases hv : validB l
  · have h24 := hv.2
    by_cases h0 : l = []
    · have hT : bsT l = [45] := by unfold bsT; rw [if_pos hv, if_pos h0]
      rw [hT]
      subst h0
      refine Run2.of I 1000 ?_
      simp -implicitDefEqProofs [ok, hv]
      exact .base ⟨rfl, rfl⟩
    · have hT : bsT l = Lib.join (l.map barT) [32] := by unfold bsT; rw [if_pos hv, if_neg h0]
      rw [hT]
      refine Run2.of I 1000 ?_
      simp -implicitDefEqProofs [hl, ok, hv, h0]
      refine Run2.loopE (α := Nat × AV × Heap) (fun p => [(3, p.2.1), (13, .snap 3 (l.map T.av)), (14, .int .i64 l.length), (15, .int .i64 (p.1 : Nat))]) (fun p => p.2.2 ++ h) (fun p => l.length - p.1) (fun p => p.1 ≤ l.length ∧ Grow 1 p.2.1 (((l.take p.1).map barT).map sv) p.2.2) (0, .nilsl, []) (by simp) rfl ⟨Nat.zero_le _, by simpa using Grow.nil⟩ ?_
      rintro ⟨i, w, hp⟩ ⟨hi, hg⟩ ih
      simp only at hi hg
      have hcell := hg.cell
      by_cases hlt : i < l.length
      · have go := fun w' hp' (g : Grow 1 w' (((l.take i).map barT).map sv ++ [.str (barT l[i])]) hp') => ih (i + 1, w', hp') ⟨hlt, by
          show Grow 1 w' (((l.take (i + 1)).map barT).map sv) hp'
          rw [List.take_succ_eq_append_getElem hlt]
          simpa only [List.map_append, List.map_cons, List.map_nil, sv_eq] using g⟩ (by omega)
        have hel := hv.el (List.getElem_mem hlt)
        obtain ⟨i1, i2, i3⟩ := el_in hel
        clear ih
        generalize hti : l[i] = t at *
        have hav : T.av t = .agg [.int .i64 t.f, .int .i64 t.t, .int .i64 t.s] := rfl
        have e1 := itoa_len i1.1 i1.2
        have e2 := itoa_len i2.1 i2.2
        have e3 := itoa_len i3.1 i3.2
        have i1a := i1.1
        have i1b := i1.2
        have i2a := i2.1
        have i2b := i2.2
        have i3a := i3.1
        have i3b := i3.2
        by_cases hs : t.s = -1
        · have hb : barT t = Lib.itoa t.f ++ 58 :: (Lib.itoa t.t ++ [43]) := by unfold barT; rw [if_pos hs]
          refine Run2.of I 1000 ?_
          simp -implicitDefEqProofs [hlt, hti, hcell, hs, i1a, i1b, i2a, i2b]
          repeat (refine ⟨by omega, ?_⟩)
          rw [← hb]
          refine hg.app (by simp; omega) (by simp) fun w2 hp2 hg2 => ?_
          have hcell2 := hg2.cell
          have := go w2 hp2 hg2
          simp -implicitDefEqProofs [hcell2]
          exact ⟨by omega, by simpa using this⟩
        · have hb : barT t = Lib.itoa t.f ++ 58 :: (Lib.itoa t.t ++ 43 :: Lib.itoa (t.s - t.t)) := by unfold barT; rw [if_neg hs]
          refine Run2.of I 1000 ?_
          simp -implicitDefEqProofs [hlt, hti, hcell, hs, i1a, i1b, i2a, i2b, i3a, i3b]
          repeat (refine ⟨by omega, ?_⟩)
          rw [← hb]
          refine hg.app (by simp; omega) (by simp) fun w2 hp2 hg2 => ?_
          have hcell2 := hg2.cell
          have := go w2 hp2 hg2
          simp -implicitDefEqProofs [hcell2]
          exact ⟨by omega, by simpa using this⟩
      · obtain rfl : i = l.length := by omega
        rw [List.take_length] at hg
        have hlen := bs_takeL hv l.length (Nat.le_refl _)
        rw [List.take_length] at hlen
        clear ih
        refine Run2.of I 1000 ?_
        simp -implicitDefEqProofs [hlt, hcell]
        refine (join_g hg [32] h (by simp; omega) (by omega)).mono ?_
        rintro v2 h2 ⟨e1, e2⟩
        rw [e1, e2]
        refine gK.go ?_
        simp -implicitDefEqProofs
        exact Post.dropAll rfl (.base ⟨rfl, rfl⟩)
  · have hT : bsT l = [] := by unfold bsT; rw [if_neg hv]
    rw [hT]
    refine Run2.of I 1000 ?_
    simp -implicitDefEqProofs [hl, ok, hv]
    exact .base ⟨rfl, rfl⟩
end Go.AG.B
