/- Bars read from a text: the program and the reference. No statement is made here. -/
import Derived.Test.YtiahlbbljmngnaaDoorRdA
import Derived.Test.YtiahlbbljmngnaaDoorBsT
namespace Go.AG.B
open Go.Proofs Go.Proofs.YtiahlbbljmngnaaDoor
set_option linter.unusedSimpArgs false
set_option linter.unusedVariables false
set_option maxRecDepth 4000
/-! ## The plain law -/
/-- The bar of a word, however bad. -/
noncomputable def lenW (w : Txt) : T :=
  ⟨(rd (Lib.cut w [58]).1).1, (rd (Lib.cut (Lib.cut w [58]).2.1 [43]).1).1, if (rd (Lib.cut (Lib.cut w [58]).2.1 [43]).2.1).2 then (rd (Lib.cut (Lib.cut w [58]).2.1 [43]).1).1 + (rd (Lib.cut (Lib.cut w [58]).2.1 [43]).2.1).1 else -1⟩
noncomputable def lenB (s : Txt) : List T := if s = [45] then [] else (spl 32 s).map lenW
noncomputable def rbL (s : Txt) : List T := open Classical in if validB (lenB s) ∧ bsT (lenB s) = s then lenB s else []
noncomputable def rbO (s : Txt) : Bool := open Classical in decide (validB (lenB s) ∧ bsT (lenB s) = s)
noncomputable def two (x p q : Txt) : T × Bool :=
  if q = [] then (⟨(rd x).1, (rd p).1, -1⟩, (rd x).2 && (rd p).2)
  else if (rd q).2 = true ∧ 1 ≤ (rd q).1 ∧ (rd q).1 ≤ 1000 then (⟨(rd x).1, (rd p).1, (rd p).1 + (rd q).1⟩, (rd x).2 && (rd p).2) else (⟨0, 0, 0⟩, false)
noncomputable def oneW (w : Txt) : T × Bool :=
  match spl 58 w with
  | [x, y] => match spl 43 y with
    | [p, q] => two x p q
    | _ => (⟨0, 0, 0⟩, false)
  | _ => (⟨0, 0, 0⟩, false)
theorem rd_nil : rd [] = (0, false) := rd_len (.inl (by simp [tl]))
theorem rd_true {s : Txt} (h : (rd s).2 = true) : s = Lib.itoa (rd s).1 := (rd_spec (n := (rd s).1) (by rw [← h])).1
theorem one_len {w : Txt} {t : T} (h : oneW w = (t, true)) : lenW w = t ∧ (t.el → barT t = w) := by
  unfold oneW at h
  split at h
  · rename_i x y hx
    split at h
    · rename_i p q hp
      obtain ⟨e1, n1, n2⟩ := spl_two hx
      obtain ⟨e2, n3, n4⟩ := spl_two hp
      have c1 : Lib.cut w [58] = (x, y, true) := by rw [e1]; exact cut_hit 58 n1
      have c2 : Lib.cut y [43] = (p, q, true) := by rw [e2]; exact cut_hit 43 n3
      unfold two at h
      unfold lenW
      simp only [c1, c2]
      by_cases hq : q = []
      · rw [if_pos hq] at h
        obtain ⟨h1, h2⟩ := Prod.mk.inj h
        simp only [Bool.and_eq_true] at h2
        subst hq
        rw [rd_nil]
        refine ⟨by simpa using h1, fun _ => ?_⟩
        subst h1
        unfold barT
        simp only [if_true]
        rw [← rd_true h2.1, ← rd_true h2.2, e1, e2]
      · rw [if_neg hq] at h
        split at h
        · rename_i hr
          obtain ⟨h1, h2⟩ := Prod.mk.inj h
          simp only [Bool.and_eq_true] at h2
          rw [hr.1]
          refine ⟨by simpa using h1, fun hel => ?_⟩
          subst h1
          unfold T.el at hel
          simp only at hel
          unfold barT
          simp only
          rw [if_neg (by omega)]
          have e : (rd p).1 + (rd q).1 - (rd p).1 = (rd q).1 := by omega
          rw [e, ← rd_true h2.1, ← rd_true h2.2, ← rd_true hr.1, e1, e2]
        · simp at h
    · simp at h
  · simp at h
theorem it58 (n : Int) : (58 : UInt8) ∉ Lib.itoa n := itoa_no (by decide) (by decide)
theorem it43 (n : Int) : (43 : UInt8) ∉ Lib.itoa n := itoa_no (by decide) (by decide)
theorem it32 (n : Int) : (32 : UInt8) ∉ Lib.itoa n := itoa_no (by decide) (by decide)
theorem bar_one {t : T} (h : t.el) : oneW (barT t) = (t, true) := by
  have h' := h
  unfold T.el at h'
  have r1 : rd (Lib.itoa t.f) = (t.f, true) := rd_some rfl (by unfold in18; omega)
  have r2 : rd (Lib.itoa t.t) = (t.t, true) := rd_some rfl (by unfold in18; omega)
  by_cases hs : t.s = -1
  · have hb : barT t = Lib.itoa t.f ++ 58 :: (Lib.itoa t.t ++ 43 :: []) := by unfold barT; rw [if_pos hs]
    have s1 : spl 58 (barT t) = [Lib.itoa t.f, Lib.itoa t.t ++ 43 :: []] := by
      rw [hb]
      exact two_spl (it58 _) (by simpa using it58 _)
    unfold oneW
    rw [s1]
    simp only
    rw [two_spl (it43 _) (by simp)]
    simp only
    unfold two
    rw [if_pos rfl, r1, r2, ← hs]
    rfl
  · have hb : barT t = Lib.itoa t.f ++ 58 :: (Lib.itoa t.t ++ 43 :: Lib.itoa (t.s - t.t)) := by unfold barT; rw [if_neg hs]
    have r3 : rd (Lib.itoa (t.s - t.t)) = (t.s - t.t, true) := rd_some rfl (by unfold in18; omega)
    have s1 : spl 58 (barT t) = [Lib.itoa t.f, Lib.itoa t.t ++ 43 :: Lib.itoa (t.s - t.t)] := by
      rw [hb]
      refine two_spl (it58 _) ?_
      intro hm
      rcases List.mem_append.1 hm with hm | hm
      · exact it58 _ hm
      · rcases List.mem_cons.1 hm with e | hm
        · exact absurd e (by decide)
        · exact it58 _ hm
    unfold oneW
    rw [s1]
    simp only
    rw [two_spl (it43 _) (it43 _)]
    simp only
    unfold two
    rw [if_neg (itoa_ne _), r1, r2, r3, if_pos ⟨rfl, by simp only; omega, by simp only; omega⟩]
    simp only [Bool.and_self, Prod.mk.injEq, and_true]
    exact T.ext' rfl rfl (by simp only; omega)
theorem barT_32 (t : T) : (32 : UInt8) ∉ barT t := by
  unfold barT
  intro hm
  rcases List.mem_append.1 hm with hm | hm
  · exact it32 _ hm
  · rcases List.mem_cons.1 hm with e | hm
    · exact absurd e (by decide)
    · rcases List.mem_append.1 hm with hm | hm
      · exact it32 _ hm
      · rcases List.mem_cons.1 hm with e | hm
        · exact absurd e (by decide)
        · split at hm
          · simp at hm
          · exact it32 _ hm
theorem lenB_dash : lenB [45] = [] := if_pos rfl
theorem valid_nil : validB ([] : List T) := ⟨fun j hj => absurd hj (by simp), by simp⟩
theorem rb_dash : rbL [45] = [] ∧ rbO [45] = true := by
  have h : validB (lenB [45]) ∧ bsT (lenB [45]) = [45] := by
    rw [lenB_dash]
    exact ⟨valid_nil, by unfold bsT; rw [if_pos valid_nil, if_pos rfl]⟩
  unfold rbL rbO
  rw [if_pos h, decide_eq_true h, lenB_dash]
  exact ⟨rfl, rfl⟩
/-- All words are good and the bars too. -/
theorem rb_good {s : Txt} (h0 : s ≠ [45]) (h1 : ∀ w ∈ spl 32 s, (oneW w).2 = true) (h2 : validB ((spl 32 s).map fun w => (oneW w).1)) : rbL s = (spl 32 s).map (fun w => (oneW w).1) ∧ rbO s = true := by
  have hl : lenB s = (spl 32 s).map fun w => (oneW w).1 := by
    unfold lenB
    rw [if_neg h0]
    exact List.map_congr_left fun w hw => (one_len (t := (oneW w).1) (by rw [← h1 w hw])).1
  have hne : lenB s ≠ [] := by rw [hl]; simpa using spl_ne 32 s
  have hb : (lenB s).map barT = spl 32 s := by
    rw [hl, List.map_map]
    conv => rhs; rw [← List.map_id (spl 32 s)]
    refine List.map_congr_left fun w hw => ?_
    have hx : oneW w = ((oneW w).1, true) := by rw [← h1 w hw]
    exact (one_len hx).2 (h2.el (List.mem_map.2 ⟨w, hw, rfl⟩))
  have h : validB (lenB s) ∧ bsT (lenB s) = s := by
    refine ⟨by rw [hl]; exact h2, ?_⟩
    unfold bsT
    rw [if_pos (by rw [hl]; exact h2), if_neg hne, hb, spl_join]
  unfold rbL rbO
  rw [if_pos h, decide_eq_true h]
  exact ⟨hl, rfl⟩
/-- What is printed is read. -/
theorem rb_back {s : Txt} (h0 : s ≠ [45]) (h : validB (lenB s) ∧ bsT (lenB s) = s) : (∀ w ∈ spl 32 s, (oneW w).2 = true) ∧ validB ((spl 32 s).map fun w => (oneW w).1) := by
  have hne : lenB s ≠ [] := by unfold lenB; rw [if_neg h0]; simpa using spl_ne 32 s
  have he : Lib.join ((lenB s).map barT) [32] = s := by
    have := h.2
    unfold bsT at this
    rwa [if_pos h.1, if_neg hne] at this
  have hs : spl 32 s = (lenB s).map barT := by
    conv => lhs; rw [← he]
    exact join_spl 32 _ (by simpa using hne) (fun x hx => by
      obtain ⟨t, _, rfl⟩ := List.mem_map.1 hx
      exact barT_32 t)
  have hone : ∀ t ∈ lenB s, oneW (barT t) = (t, true) := fun t ht => bar_one (h.1.el ht)
  refine ⟨fun w hw => ?_, ?_⟩
  · rw [hs] at hw
    obtain ⟨t, ht, rfl⟩ := List.mem_map.1 hw
    rw [hone t ht]
  · rw [hs, List.map_map]
    have : (lenB s).map ((fun w => (oneW w).1) ∘ barT) = lenB s := by
      conv => rhs; rw [← List.map_id (lenB s)]
      exact List.map_congr_left fun t ht => by simp [hone t ht]
    rw [this]
    exact h.1
theorem rb_bad {s : Txt} (h : ¬ (validB (lenB s) ∧ bsT (lenB s) = s)) : rbL s = [] ∧ rbO s = false := by
  unfold rbL rbO
  rw [if_neg h, decide_eq_false h]
  exact ⟨rfl, rfl⟩
theorem rb_bad1 {s : Txt} (h0 : s ≠ [45]) {w : Txt} (hw : w ∈ spl 32 s) (hb : (oneW w).2 = false) : rbL s = [] ∧ rbO s = false := rb_bad fun h => by
  have := (rb_back h0 h).1 w hw
  rw [hb] at this
  cases this
theorem rb_bad2 {s : Txt} (h0 : s ≠ [45]) (hb : ¬ validB ((spl 32 s).map fun w => (oneW w).1)) : rbL s = [] ∧ rbO s = false := rb_bad fun h => hb (rb_back h0 h).2
/-! ## The reference -/
theorem len2 {α : Type} {l : List α} (h : l.length = 2) : ∃ a b, l = [a, b] := by
  match l, h with
  | [a, b], _ => exact ⟨a, b, rfl⟩
noncomputable def orcRb1 : List (Nat × (List AV → Option (Prop × AV))) := (15, o_l01Split) :: (24, o_l01Number) :: (33, o_l00In) :: []
theorem orcRb1_p : Pure Tryd.prog (lk orcRb1) := (lk_pure o_l01Split_k (lk_pure o_l01Number_k (lk_pure o_l00In_k lk_pure0)))
@[simp] theorem orcRb1_l (b : Bool) (g : FuncId) (l : List AV) : lk orcRb1 b g l = if g = 15 then o_l01Split l else if g = 24 then o_l01Number l else if g = 33 then o_l00In l else none := nr rfl
abbrev k16_o0 : List AJ := [.o ⟨(some 2), none, false, .alloc true 3 (.agg [(.int .i64 0), (.int .i64 0), (.int .i64 0)]), none⟩, .o ⟨(some 3), none, false, .mv (.c (.bool false)), (some [0, 2])⟩]
abbrev k16_o1 : List AJ := [.o ⟨(some 13), none, false, .mv (.t 0), none⟩, .o ⟨(some 14), none, false, .call 15 [(.t 13), (.c (.int .u8 58))], none⟩, .o ⟨(some 4), none, false, .mv (.t 14), (some [2, 4])⟩]
abbrev k16_o2 : List AJ := [.o ⟨(some 15), none, false, .mv (.t 4), none⟩, .o ⟨(some 16), none, false, .len (.t 15), none⟩, .o ⟨(some 17), none, false, .bin .neq (.t 16) (.c (.int .i64 2)), (some [2, 4, 17])⟩]
abbrev k16_o3 : List AJ := [.o ⟨(some 18), none, false, .build [(.int .i64 0), (.int .i64 0), (.int .i64 0)] [], none⟩, .o ⟨none, none, false, .store 3 (.t 2) (.t 18), none⟩, .o ⟨(some 3), none, false, .mv (.c (.bool false)), (some [2, 3])⟩]
def k16_4 : ACode := .seq (.region k16_o3) .ret
def k16_5 : ACode := .cond (.t 17) k16_4 .skip
def k16_6 : ACode := .seq (.region k16_o2) k16_5
abbrev k16_o4 : List AJ := [.o ⟨(some 19), none, false, .mv (.t 4), none⟩, .o ⟨(some 20), none, false, .idxA 1 (.t 19) (.c (.int .i64 1)), none⟩, .o ⟨(some 21), none, false, .load 1 false (.t 20), none⟩, .o ⟨(some 22), none, false, .call 15 [(.t 21), (.c (.int .u8 43))], none⟩, .o ⟨(some 5), none, false, .mv (.t 22), (some [2, 4, 5])⟩]
abbrev k16_o5 : List AJ := [.o ⟨(some 23), none, false, .mv (.t 5), none⟩, .o ⟨(some 24), none, false, .len (.t 23), none⟩, .o ⟨(some 25), none, false, .bin .neq (.t 24) (.c (.int .i64 2)), (some [2, 4, 5, 25])⟩]
abbrev k16_o6 : List AJ := [.o ⟨(some 26), none, false, .build [(.int .i64 0), (.int .i64 0), (.int .i64 0)] [], none⟩, .o ⟨none, none, false, .store 3 (.t 2) (.t 26), none⟩, .o ⟨(some 3), none, false, .mv (.c (.bool false)), (some [2, 3])⟩]
def k16_10 : ACode := .seq (.region k16_o6) .ret
def k16_11 : ACode := .cond (.t 25) k16_10 .skip
def k16_12 : ACode := .seq (.region k16_o5) k16_11
abbrev k16_o7 : List AJ := [.o ⟨(some 28), none, false, .mv (.t 4), none⟩, .o ⟨(some 29), none, false, .idxA 1 (.t 28) (.c (.int .i64 0)), none⟩, .o ⟨(some 30), none, false, .load 1 false (.t 29), none⟩, .o ⟨(some 31), none, false, .call 24 [(.t 30)], none⟩, .o ⟨(some 27), none, false, .mv (.t 31), none⟩, .o ⟨(some 32), none, false, .extract (.t 27) 0, none⟩, .o ⟨(some 33), none, false, .extract (.t 27) 1, none⟩, .o ⟨(some 6), none, false, .mv (.t 32), none⟩, .o ⟨(some 7), none, false, .mv (.t 33), (some [2, 5, 6, 7])⟩]
abbrev k16_o8 : List AJ := [.o ⟨(some 35), none, false, .mv (.t 5), none⟩, .o ⟨(some 36), none, false, .idxA 1 (.t 35) (.c (.int .i64 0)), none⟩, .o ⟨(some 37), none, false, .load 1 false (.t 36), none⟩, .o ⟨(some 38), none, false, .call 24 [(.t 37)], none⟩, .o ⟨(some 34), none, false, .mv (.t 38), none⟩, .o ⟨(some 39), none, false, .extract (.t 34) 0, none⟩, .o ⟨(some 40), none, false, .extract (.t 34) 1, none⟩, .o ⟨(some 8), none, false, .mv (.t 39), none⟩, .o ⟨(some 9), none, false, .mv (.t 40), (some [2, 5, 6, 7, 8, 9])⟩]
abbrev k16_o9 : List AJ := [.o ⟨(some 41), none, false, .mv (.t 6), none⟩, .o ⟨(some 42), none, false, .mv (.t 8), none⟩, .o ⟨(some 43), none, false, .build [(.int .i64 0), (.int .i64 0), (.int .i64 0)] [(0, 1, (.t 41)), (1, 1, (.t 42)), (2, 1, (.c (.int .i64 (-1))))], none⟩, .o ⟨(some 10), none, false, .alloc true 3 (.agg [(.int .i64 0), (.int .i64 0), (.int .i64 0)]), none⟩, .o ⟨none, none, false, .store 3 (.t 10) (.t 43), (some [2, 5, 7, 8, 9, 10])⟩]
abbrev k16_o10 : List AJ := [.o ⟨(some 44), none, false, .mv (.t 5), none⟩, .o ⟨(some 45), none, false, .idxA 1 (.t 44) (.c (.int .i64 1)), none⟩, .o ⟨(some 46), none, false, .load 1 false (.t 45), none⟩, .o ⟨(some 47), none, false, .bin .neq (.t 46) (.c (.str [])), (some [2, 5, 7, 8, 9, 10, 47])⟩]
abbrev k16_o11 : List AJ := [.o ⟨(some 49), none, false, .mv (.t 5), none⟩, .o ⟨(some 50), none, false, .idxA 1 (.t 49) (.c (.int .i64 1)), none⟩, .o ⟨(some 51), none, false, .load 1 false (.t 50), none⟩, .o ⟨(some 52), none, false, .call 24 [(.t 51)], none⟩, .o ⟨(some 48), none, false, .mv (.t 52), none⟩, .o ⟨(some 53), none, false, .extract (.t 48) 0, none⟩, .o ⟨(some 54), none, false, .extract (.t 48) 1, none⟩, .o ⟨(some 11), none, false, .mv (.t 53), none⟩, .o ⟨(some 12), none, false, .mv (.t 54), (some [2, 7, 8, 9, 10, 11, 12])⟩]
abbrev k16_o12 : List AJ := [.o ⟨(some 55), none, false, .mv (.t 12), none⟩, .o ⟨(some 56), none, false, .un .not (.t 55), none⟩, .o ⟨(some 57), none, false, .mv (.t 56), none⟩, .o ⟨(some 58), (some (57, false)), false, .mv (.t 11), none⟩, .o ⟨(some 59), (some (57, false)), false, .call 33 [(.t 58), (.c (.int .i64 1)), (.c (.int .i64 1000))], none⟩, .o ⟨(some 60), (some (57, false)), false, .un .not (.t 59), none⟩, .o ⟨(some 61), none, false, .pick (.t 57) (.c (.bool true)) (.t 60), (some [2, 7, 8, 9, 10, 11, 61])⟩]
abbrev k16_o13 : List AJ := [.o ⟨(some 62), none, false, .build [(.int .i64 0), (.int .i64 0), (.int .i64 0)] [], none⟩, .o ⟨none, none, false, .store 3 (.t 2) (.t 62), none⟩, .o ⟨(some 3), none, false, .mv (.c (.bool false)), (some [2, 3])⟩]
def k16_20 : ACode := .seq (.region k16_o13) .ret
def k16_21 : ACode := .cond (.t 61) k16_20 .skip
def k16_22 : ACode := .seq (.region k16_o12) k16_21
abbrev k16_o14 : List AJ := [.o ⟨(some 63), none, false, .mv (.t 8), none⟩, .o ⟨(some 64), none, false, .mv (.t 11), none⟩, .o ⟨(some 65), none, true, .bin .add (.t 63) (.t 64), none⟩, .o ⟨(some 66), none, false, .fieldA 2 (.t 10), none⟩, .o ⟨none, none, false, .store 1 (.t 66) (.t 65), (some [2, 7, 9, 10])⟩]
def k16_23 : ACode := .region k16_o14
def k16_24 : ACode := .seq k16_22 k16_23
def k16_25 : ACode := .seq (.region k16_o11) k16_24
def k16_26 : ACode := .cond (.t 47) k16_25 .skip
def k16_27 : ACode := .seq (.region k16_o10) k16_26
abbrev k16_o15 : List AJ := [.o ⟨(some 67), none, false, .load 3 true (.t 10), none⟩, .o ⟨(some 68), none, false, .mv (.t 7), none⟩, .o ⟨(some 69), none, false, .mv (.t 68), none⟩, .o ⟨(some 70), (some (69, true)), false, .mv (.t 9), none⟩, .o ⟨(some 71), none, false, .pick (.t 69) (.t 70) (.c (.bool false)), none⟩, .o ⟨none, none, false, .store 3 (.t 2) (.t 67), none⟩, .o ⟨(some 3), none, false, .mv (.t 71), (some [2, 3])⟩]
def k16_29 : ACode := .seq (.region k16_o15) .ret
def k16_30 : ACode := .seq k16_27 k16_29
def k16_31 : ACode := .seq (.region k16_o9) k16_30
def k16_32 : ACode := .seq (.region k16_o8) k16_31
def k16_33 : ACode := .seq (.region k16_o7) k16_32
def k16_34 : ACode := .seq k16_12 k16_33
def k16_35 : ACode := .seq (.region k16_o4) k16_34
def k16_36 : ACode := .seq k16_6 k16_35
def k16_37 : ACode := .seq (.region k16_o1) k16_36
def k16_38 : ACode := .seq (.region k16_o0) k16_37
@[simp, simp ↓] theorem k16_4r : sR k16_4 k16_o3 .ret := yR rfl
@[simp, simp ↓] theorem k16_5r : rC k16_5 (.t 17) k16_4 .skip := zC rfl
@[simp, simp ↓] theorem k16_6r : sR k16_6 k16_o2 k16_5 := yR rfl
@[simp, simp ↓] theorem k16_10r : sR k16_10 k16_o6 .ret := yR rfl
@[simp, simp ↓] theorem k16_11r : rC k16_11 (.t 25) k16_10 .skip := zC rfl
@[simp, simp ↓] theorem k16_12r : sR k16_12 k16_o5 k16_11 := yR rfl
@[simp, simp ↓] theorem k16_20r : sR k16_20 k16_o13 .ret := yR rfl
@[simp, simp ↓] theorem k16_21r : rC k16_21 (.t 61) k16_20 .skip := zC rfl
@[simp, simp ↓] theorem k16_22r : sR k16_22 k16_o12 k16_21 := yR rfl
@[simp, simp ↓] theorem k16_23r : rR k16_23 k16_o14 := zR rfl
@[simp, simp ↓] theorem k16_24r : rS k16_24 k16_22 k16_23 := zS rfl
@[simp, simp ↓] theorem k16_25r : sR k16_25 k16_o11 k16_24 := yR rfl
@[simp, simp ↓] theorem k16_26r : rC k16_26 (.t 47) k16_25 .skip := zC rfl
@[simp, simp ↓] theorem k16_27r : sR k16_27 k16_o10 k16_26 := yR rfl
@[simp, simp ↓] theorem k16_29r : sR k16_29 k16_o15 .ret := yR rfl
@[simp, simp ↓] theorem k16_30r : rS k16_30 k16_27 k16_29 := zS rfl
@[simp, simp ↓] theorem k16_31r : sR k16_31 k16_o9 k16_30 := yR rfl
@[simp, simp ↓] theorem k16_32r : sR k16_32 k16_o8 k16_31 := yR rfl
@[simp, simp ↓] theorem k16_33r : sR k16_33 k16_o7 k16_32 := yR rfl
@[simp, simp ↓] theorem k16_34r : rS k16_34 k16_12 k16_33 := zS rfl
@[simp, simp ↓] theorem k16_35r : sR k16_35 k16_o4 k16_34 := yR rfl
@[simp, simp ↓] theorem k16_36r : rS k16_36 k16_6 k16_35 := zS rfl
@[simp, simp ↓] theorem k16_37r : sR k16_37 k16_o1 k16_36 := yR rfl
@[simp, simp ↓] theorem k16_38r : sR k16_38 k16_o0 k16_37 := yR rfl
noncomputable abbrev k16_C : Orc → Cx := mkC Tryd.prog [2, 10] 16 72 [.cell 2 3 true, .tmp 3]
theorem k16_of : OfP Tryd.prog Tryd.f16 16 72 k16_C k16_38 := @ofP _ _ _ _ _ _ _ _ Tryd.func16 (by decide +kernel) rfl (by kernel_rfl) rfl (by kernel_rfl)
theorem ReadOne_c (w : Txt) (h : Heap) (hw : w.length ≤ 1048576) : ACalls Tryd.prog 16 [.str w] h (fun v h' => v = .tup [T.av (oneW w).1, .bool (oneW w).2] ∧ h' = h) := by
  refine k16_of rfl orcRb1_p fun I => ?_
  by_cases h2 : (spl 58 w).length = 2
  · obtain ⟨x, y, hxy⟩ := len2 h2
    have hx : x.length ≤ 1048576 := Nat.le_trans (spl_le 58 w x (by rw [hxy]; simp)) hw
    have hy : y.length ≤ 1048576 := Nat.le_trans (spl_le 58 w y (by rw [hxy]; simp)) hw
    by_cases h3 : (spl 43 y).length = 2
    · obtain ⟨p, q, hpq⟩ := len2 h3
      have hp : p.length ≤ 1048576 := Nat.le_trans (spl_le 43 y p (by rw [hpq]; simp)) hy
      have hq : q.length ≤ 1048576 := Nat.le_trans (spl_le 43 y q (by rw [hpq]; simp)) hy
      have e : oneW w = two x p q := by unfold oneW; rw [hxy]; simp only; rw [hpq]
      rw [e]
      have ix := rd_in x
      have ip := rd_in p
      have iq := rd_in q
      unfold in18 at ix ip iq
      unfold two
      by_cases h0 : q = []
      · rw [if_pos h0]
        refine Run2.of I 1000 ?_
        simp -implicitDefEqProofs [hxy, hpq, hw, hx, hy, hp, hq, h0]
        intro a ha b hb hb2
        refine gK.go ?_
        simp -implicitDefEqProofs [hb, hxy, hpq, hw, hx, hy, hp, hq, h0]
        try (refine ⟨by omega, ?_⟩)
        first | exact .drop b (.drop a (.base ⟨rfl, by simp [hdel, hb]⟩)) | exact ⟨fun hz => .drop b (.drop a (.base ⟨by simp [hz], by simp [hdel, hb]⟩)), fun hz => .drop b (.drop a (.base ⟨by simp [hz], by simp [hdel, hb]⟩))⟩ | exact ⟨fun _ => .drop b (.drop a (.base ⟨rfl, by simp [hdel, hb]⟩)), fun u v => absurd ⟨r1, u, v⟩ hr⟩
      · rw [if_neg h0]
        by_cases hr : (rd q).2 = true ∧ 1 ≤ (rd q).1 ∧ (rd q).1 ≤ 1000
        · rw [if_pos hr]
          obtain ⟨r1, r2, r3⟩ := hr
          refine Run2.of I 1000 ?_
          simp -implicitDefEqProofs [hxy, hpq, hw, hx, hy, hp, hq, h0, r1, r2, r3]
          intro a ha b hb hb2
          refine gK.go ?_
          simp -implicitDefEqProofs [hb, hxy, hpq, hw, hx, hy, hp, hq, h0, r1, r2, r3]
          try (refine ⟨by omega, ?_⟩)
          first | exact .drop b (.drop a (.base ⟨rfl, by simp [hdel, hb]⟩)) | exact ⟨fun hz => .drop b (.drop a (.base ⟨by simp [hz], by simp [hdel, hb]⟩)), fun hz => .drop b (.drop a (.base ⟨by simp [hz], by simp [hdel, hb]⟩))⟩ | exact ⟨fun _ => .drop b (.drop a (.base ⟨rfl, by simp [hdel, hb]⟩)), fun u v => absurd ⟨r1, u, v⟩ hr⟩
        · rw [if_neg hr]
          by_cases r1 : (rd q).2 = true
          · refine Run2.of I 1000 ?_
            simp -implicitDefEqProofs [hxy, hpq, hw, hx, hy, hp, hq, h0, r1]
            intro a ha b hb hb2
            refine gK.go ?_
            simp -implicitDefEqProofs [hb, hxy, hpq, hw, hx, hy, hp, hq, h0, r1]
            try (refine ⟨by omega, ?_⟩)
            first | exact .drop b (.drop a (.base ⟨rfl, by simp [hdel, hb]⟩)) | exact ⟨fun hz => .drop b (.drop a (.base ⟨by simp [hz], by simp [hdel, hb]⟩)), fun hz => .drop b (.drop a (.base ⟨by simp [hz], by simp [hdel, hb]⟩))⟩ | exact ⟨fun _ => .drop b (.drop a (.base ⟨rfl, by simp [hdel, hb]⟩)), fun u v => absurd ⟨r1, u, v⟩ hr⟩
          · refine Run2.of I 1000 ?_
            simp -implicitDefEqProofs [hxy, hpq, hw, hx, hy, hp, hq, h0, r1]
            intro a ha b hb hb2
            refine gK.go ?_
            simp -implicitDefEqProofs [hb, hxy, hpq, hw, hx, hy, hp, hq, h0, r1]
            try (refine ⟨by omega, ?_⟩)
            first | exact .drop b (.drop a (.base ⟨rfl, by simp [hdel, hb]⟩)) | exact ⟨fun hz => .drop b (.drop a (.base ⟨by simp [hz], by simp [hdel, hb]⟩)), fun hz => .drop b (.drop a (.base ⟨by simp [hz], by simp [hdel, hb]⟩))⟩ | exact ⟨fun _ => .drop b (.drop a (.base ⟨rfl, by simp [hdel, hb]⟩)), fun u v => absurd ⟨r1, u, v⟩ hr⟩
    · have e : oneW w = (⟨0, 0, 0⟩, false) := by
        unfold oneW; rw [hxy]; simp only
        split
        · rename_i e; rw [e] at h3; exact absurd rfl h3
        · rfl
      rw [e]
      refine Run2.of I 1000 ?_
      have h3i : ¬ ((spl 43 y).length : Int) = 2 := by omega
      simp -implicitDefEqProofs [hxy, hw, hx, hy, h3i]
      intro a ha
      exact .drop a (.base ⟨rfl, by simp [hdel]⟩)
  · have e : oneW w = (⟨0, 0, 0⟩, false) := by
      unfold oneW
      split
      · rename_i e; rw [e] at h2; exact absurd rfl h2
      · rfl
    rw [e]
    refine Run2.of I 1000 ?_
    have h2i : ¬ ((spl 58 w).length : Int) = 2 := by omega
    simp -implicitDefEqProofs [hw, h2i]
    intro a ha
    exact .drop a (.base ⟨rfl, by simp [hdel]⟩)
noncomputable def o_ReadOne : List AV → Option (Prop × AV) := tab (fun (x : Txt) => match x with | s => [.str s]) (fun x => match x with | s => s.length ≤ 1048576) (fun x => match x with | s => .tup [T.av (oneW s).1, .bool (oneW s).2])
@[simp] theorem o_ReadOne_e (s : Txt) : o_ReadOne [.str s] = some (s.length ≤ 1048576, .tup [T.av (oneW s).1, .bool (oneW s).2]) := tab_at (enc := fun (x : Txt) => match x with | s => [.str s]) (fun x y h => by
  simp at h; simp [h] <;> omega) _ _ s
theorem o_ReadOne_k : Knows Tryd.prog 16 o_ReadOne := tab_knows fun x hx h => by
  exact ReadOne_c x h hx
theorem two_in (x p q : Txt) : (two x p q).1.ok := by
  have ix := rd_in x
  have ip := rd_in p
  have iq := rd_in q
  unfold in18 at ix ip iq
  unfold two T.ok in64
  split
  · simp only; omega
  · split
    · simp only; omega
    · simp
theorem one_in (w : Txt) : (oneW w).1.ok := by
  unfold oneW
  split
  · split
    · exact two_in _ _ _
    · unfold T.ok in64; simp
  · unfold T.ok in64; simp
theorem okB_one (W : List Txt) : okB (W.map fun w => (oneW w).1) := fun t ht => by
  obtain ⟨w, _, rfl⟩ := List.mem_map.1 ht
  exact one_in w
noncomputable def o_listL : List AV → Option (Prop × AV) := tab (fun (x : List T) => match x with | l => [.snap 3 (l.map T.av)]) (fun x => match x with | l => (l.length ≤ 4194304 ∧ okB l)) (fun x => match x with | l => .bool (decide (validB l)))
@[simp] theorem o_listL_e (l : List T) : o_listL [.snap 3 (l.map T.av)] = some ((l.length ≤ 4194304 ∧ okB l), .bool (decide (validB l))) := tab_at (enc := fun (x : List T) => match x with | l => [.snap 3 (l.map T.av)]) (fun x y h => by
  simp at h; simp [h] <;> omega) _ _ l
theorem o_listL_k : Knows Tryd.prog 17 o_listL := tab_knows fun x hx h => by
  exact l21List_cL x h hx.1 hx.2
noncomputable def orcRb2 : List (Nat × (List AV → Option (Prop × AV))) := (15, o_l01Split) :: (16, o_ReadOne) :: (17, o_listL) :: []
theorem orcRb2_p : Pure Tryd.prog (lk orcRb2) := (lk_pure o_l01Split_k (lk_pure o_ReadOne_k (lk_pure o_listL_k lk_pure0)))
@[simp] theorem orcRb2_l (b : Bool) (g : FuncId) (l : List AV) : lk orcRb2 b g l = if g = 15 then o_l01Split l else if g = 16 then o_ReadOne l else if g = 17 then o_listL l else none := nr rfl
abbrev k5_o0 : List AJ := [.o ⟨(some 2), none, false, .mv (.c .nilsl), none⟩, .o ⟨(some 3), none, false, .mv (.c (.bool false)), (some [0])⟩]
abbrev k5_o1 : List AJ := [.o ⟨(some 9), none, false, .mv (.t 0), none⟩, .o ⟨(some 10), none, false, .bin .eql (.t 9) (.c (.str [45])), (some [0, 10])⟩]
abbrev k5_o2 : List AJ := [.o ⟨(some 11), none, false, .bsl false 3 [], none⟩, .o ⟨(some 2), none, false, .mv (.t 11), none⟩, .o ⟨(some 3), none, false, .mv (.c (.bool true)), (some [2, 3])⟩]
def k5_3 : ACode := .seq (.region k5_o2) .ret
def k5_4 : ACode := .cond (.t 10) k5_3 .skip
def k5_5 : ACode := .seq (.region k5_o1) k5_4
abbrev k5_o3 : List AJ := [.o ⟨(some 12), none, false, .mv (.t 0), none⟩, .o ⟨(some 13), none, false, .call 15 [(.t 12), (.c (.int .u8 32))], none⟩, .o ⟨(some 4), none, false, .mv (.t 13), (some [4])⟩]
abbrev k5_o4 : List AJ := [.e 14 3 none, .o ⟨(some 5), none, false, .mv (.t 14), (some [4, 5])⟩]
abbrev k5_o5 : List AJ := [.o ⟨(some 6), none, false, .mv (.c (.int .i64 0)), (some [4, 5, 6])⟩]
abbrev k5_o6 : List AJ := [.o ⟨(some 15), none, false, .mv (.t 6), none⟩, .o ⟨(some 16), none, false, .mv (.t 4), none⟩, .o ⟨(some 17), none, false, .len (.t 16), none⟩, .o ⟨(some 18), none, false, .bin .lss (.t 15) (.t 17), (some [4, 5, 6, 18])⟩]
def k5_10 : ACode := .cond (.t 18) .skip (.exit 0)
def k5_11 : ACode := .seq (.region k5_o6) k5_10
abbrev k5_o7 : List AJ := [.o ⟨(some 22), none, false, .mv (.t 4), none⟩, .o ⟨(some 23), none, false, .mv (.t 6), none⟩, .o ⟨(some 24), none, false, .idxA 1 (.t 22) (.t 23), none⟩, .o ⟨(some 25), none, false, .load 1 false (.t 24), none⟩, .o ⟨(some 26), none, false, .call 16 [(.t 25)], none⟩, .o ⟨(some 21), none, false, .mv (.t 26), none⟩, .o ⟨(some 27), none, false, .extract (.t 21) 0, none⟩, .o ⟨(some 28), none, false, .extract (.t 21) 1, none⟩, .v 7 3 (.agg [(.int .i64 0), (.int .i64 0), (.int .i64 0)]) [] (.t 27) none, .o ⟨(some 8), none, false, .mv (.t 28), (some [4, 5, 6, 7, 8])⟩]
abbrev k5_o8 : List AJ := [.o ⟨(some 29), none, false, .mv (.t 8), none⟩, .o ⟨(some 30), none, false, .un .not (.t 29), (some [4, 5, 6, 7, 30])⟩]
abbrev k5_o9 : List AJ := [.o ⟨(some 2), none, false, .mv (.c .nilsl), none⟩, .o ⟨(some 3), none, false, .mv (.c (.bool false)), (some [2, 3])⟩]
def k5_15 : ACode := .seq (.region k5_o9) .ret
def k5_16 : ACode := .cond (.t 30) k5_15 .skip
def k5_17 : ACode := .seq (.region k5_o8) k5_16
abbrev k5_o10 : List AJ := [.o ⟨(some 31), none, false, .mv (.t 5), none⟩, .o ⟨(some 32), none, false, .load 3 true (.t 7), none⟩, .o ⟨(some 33), none, false, .bsl false 3 [(.t 32)], none⟩, .o ⟨(some 34), none, false, .append 3 24 (.t 31) (.t 33), none⟩, .o ⟨(some 5), none, false, .mv (.t 34), (some [4, 5, 6])⟩]
def k5_18 : ACode := .region k5_o10
def k5_19 : ACode := .seq k5_17 k5_18
def k5_20 : ACode := .seq (.region k5_o7) k5_19
abbrev k5_o11 : List AJ := [.o ⟨(some 19), none, false, .mv (.t 6), none⟩, .o ⟨(some 20), none, true, .bin .add (.t 19) (.c (.int .i64 1)), none⟩, .o ⟨(some 6), none, false, .mv (.t 20), (some [4, 5, 6])⟩]
def k5_22 : ACode := .region k5_o11
def k5_23 : ACode := .seq (.block 1 k5_20) k5_22
def k5_24 : ACode := .seq k5_11 k5_23
def k5_25 : ACode := .loop k5_24
def k5_26 : ACode := .block 0 k5_25
def k5_27 : ACode := .seq (.region k5_o5) k5_26
abbrev k5_o12 : List AJ := [.o ⟨(some 35), none, false, .mv (.t 5), none⟩, .o ⟨(some 36), none, false, .call 17 [(.t 35)], none⟩, .o ⟨(some 37), none, false, .un .not (.t 36), (some [5, 37])⟩]
abbrev k5_o13 : List AJ := [.o ⟨(some 2), none, false, .mv (.c .nilsl), none⟩, .o ⟨(some 3), none, false, .mv (.c (.bool false)), (some [2, 3])⟩]
def k5_30 : ACode := .seq (.region k5_o13) .ret
def k5_31 : ACode := .cond (.t 37) k5_30 .skip
def k5_32 : ACode := .seq (.region k5_o12) k5_31
abbrev k5_o14 : List AJ := [.o ⟨(some 38), none, false, .mv (.t 5), none⟩, .o ⟨(some 2), none, false, .mv (.t 38), none⟩, .o ⟨(some 3), none, false, .mv (.c (.bool true)), (some [2, 3])⟩]
def k5_34 : ACode := .seq (.region k5_o14) .ret
def k5_35 : ACode := .seq k5_32 k5_34
def k5_36 : ACode := .seq k5_27 k5_35
def k5_37 : ACode := .seq (.region k5_o4) k5_36
def k5_38 : ACode := .seq (.region k5_o3) k5_37
def k5_39 : ACode := .seq k5_5 k5_38
def k5_40 : ACode := .seq (.region k5_o0) k5_39
@[simp, simp ↓] theorem k5_3r : sR k5_3 k5_o2 .ret := yR rfl
@[simp, simp ↓] theorem k5_4r : rC k5_4 (.t 10) k5_3 .skip := zC rfl
@[simp, simp ↓] theorem k5_5r : sR k5_5 k5_o1 k5_4 := yR rfl
@[simp, simp ↓] theorem k5_10r : rC k5_10 (.t 18) .skip (.exit 0) := zC rfl
@[simp, simp ↓] theorem k5_11r : sR k5_11 k5_o6 k5_10 := yR rfl
@[simp, simp ↓] theorem k5_15r : sR k5_15 k5_o9 .ret := yR rfl
@[simp, simp ↓] theorem k5_16r : rC k5_16 (.t 30) k5_15 .skip := zC rfl
@[simp, simp ↓] theorem k5_17r : sR k5_17 k5_o8 k5_16 := yR rfl
@[simp, simp ↓] theorem k5_18r : rR k5_18 k5_o10 := zR rfl
@[simp, simp ↓] theorem k5_19r : rS k5_19 k5_17 k5_18 := zS rfl
@[simp, simp ↓] theorem k5_20r : sR k5_20 k5_o7 k5_19 := yR rfl
@[simp, simp ↓] theorem k5_22r : rR k5_22 k5_o11 := zR rfl
@[simp, simp ↓] theorem k5_23r : sB k5_23 1 k5_20 k5_22 := yB rfl
@[simp, simp ↓] theorem k5_24r : rS k5_24 k5_11 k5_23 := zS rfl
@[simp, simp ↓] theorem k5_25r : rL k5_25 k5_24 := zL rfl
@[simp, simp ↓] theorem k5_26r : rB k5_26 0 k5_25 := zB rfl
@[simp, simp ↓] theorem k5_27r : sR k5_27 k5_o5 k5_26 := yR rfl
@[simp, simp ↓] theorem k5_30r : sR k5_30 k5_o13 .ret := yR rfl
@[simp, simp ↓] theorem k5_31r : rC k5_31 (.t 37) k5_30 .skip := zC rfl
@[simp, simp ↓] theorem k5_32r : sR k5_32 k5_o12 k5_31 := yR rfl
@[simp, simp ↓] theorem k5_34r : sR k5_34 k5_o14 .ret := yR rfl
@[simp, simp ↓] theorem k5_35r : rS k5_35 k5_32 k5_34 := zS rfl
@[simp, simp ↓] theorem k5_36r : rS k5_36 k5_27 k5_35 := zS rfl
@[simp, simp ↓] theorem k5_37r : sR k5_37 k5_o4 k5_36 := yR rfl
@[simp, simp ↓] theorem k5_38r : sR k5_38 k5_o3 k5_37 := yR rfl
@[simp, simp ↓] theorem k5_39r : rS k5_39 k5_5 k5_38 := zS rfl
@[simp, simp ↓] theorem k5_40r : sR k5_40 k5_o0 k5_39 := yR rfl
noncomputable abbrev k5_C : Orc → Cx := mkC Tryd.prog [7, 14] 5 39 [.tmp 2, .tmp 3]
theorem k5_of : OfP Tryd.prog Tryd.f5 5 39 k5_C k5_40 := @ofP _ _ _ _ _ _ _ _ Tryd.func5 (by decide +kernel) rfl (by kernel_rfl) rfl (by kernel_rfl)
theorem specRB_c (s : Txt) (h : Heap) (hs : s.length ≤ 1048576) : ACalls Tryd.prog 5 [.str s] h (fun v h' => v = .tup [.snap 3 ((rbL s).map T.av), .bool (rbO s)] ∧ h' = h) := by
  refine k5_of rfl orcRb2_p fun I => ?_
  by_cases h0 : s = [45]
  · rw [h0, rb_dash.1, rb_dash.2]
    refine Run2.of I 1000 ?_
    simp -implicitDefEqProofs
    exact .base ⟨rfl, rfl⟩
  · refine Run2.of I 1000 ?_
    simp -implicitDefEqProofs [h0, hs]
    have hmany := spl_many 32 s
    have hmem : ∀ i (hi : i < (spl 32 s).length), (spl 32 s)[i] ∈ spl 32 s := fun i hi => List.getElem_mem hi
    have hlen : ∀ w ∈ spl 32 s, List.length w ≤ 1048576 := fun w hw => Nat.le_trans (spl_le 32 s w hw) hs
    have hgood := rb_good h0
    have hbad1 := fun w hw hb => rb_bad1 h0 (w := w) hw hb
    have hbad2 := rb_bad2 h0
    have hWne := spl_ne 32 s
    generalize spl 32 s = W at *
    refine Run2.loopE (α := Nat × AV × Heap) (fun p => [(4, .snap 1 (W.map sv)), (5, p.2.1), (6, .int .i64 (p.1 : Nat))]) (fun p => p.2.2 ++ h) (fun p => W.length - p.1) (fun p => p.1 ≤ W.length ∧ (∀ w ∈ W.take p.1, (oneW w).2 = true) ∧ Grow 3 p.2.1 (((W.take p.1).map fun w => (oneW w).1).map T.av) p.2.2) (0, .emp, []) (by simp) rfl ⟨Nat.zero_le _, by simp, .emp⟩ ?_
    rintro ⟨i, u, hp⟩ ⟨hi, hok, hg⟩ ih
    simp only at hi hok hg
    have hcell := hg.cell
    by_cases hlt : i < W.length
    · have hwl := hlen _ (hmem i hlt)
      have hb1 := hbad1 _ (hmem i hlt)
      have go := fun (hw : (oneW W[i]).2 = true) u' hp' (g : Grow 3 u' (((W.take i).map fun w => (oneW w).1).map T.av ++ [T.av (oneW W[i]).1]) hp') => ih (i + 1, u', hp') ⟨hlt, fun w hm => by
        rw [List.take_succ_eq_append_getElem hlt] at hm
        rcases List.mem_append.1 hm with hm | hm
        · exact hok w hm
        · rw [List.mem_singleton.1 hm]; exact hw, by
        show Grow 3 u' (((W.take (i + 1)).map fun w => (oneW w).1).map T.av) hp'
        rw [List.take_succ_eq_append_getElem hlt]
        simpa only [List.map_append, List.map_cons, List.map_nil] using g⟩ (by omega)
      clear ih hbad1 hbad2 hgood
      generalize hti : W[i] = x at *
      have hav : ∀ t : T, T.av t = .agg [.int .i64 t.f, .int .i64 t.t, .int .i64 t.s] := fun _ => rfl
      by_cases hx : (oneW x).2 = true
      · refine Run2.of I 1000 ?_
        simp -implicitDefEqProofs [hlt, hti, hcell, hwl, hx]
        refine hg.app (by simp; omega) (by simp) fun u2 hp2 hg2 => ?_
        have hcell2 := hg2.cell
        have := go hx u2 hp2 hg2
        simp -implicitDefEqProofs [hcell2]
        exact ⟨by omega, by simpa using this⟩
      · have hx2 : (oneW x).2 = false := by simpa using hx
        obtain ⟨e1, e2⟩ := hb1 hx2
        rw [e1, e2]
        refine Run2.of I 1000 ?_
        simp -implicitDefEqProofs [hlt, hti, hcell, hwl, hx2]
        exact .wk (Wk.tup (.cons (Wk.nil 3) (.cons (.refl _) .nil))) (Post.dropAll rfl (.base ⟨rfl, rfl⟩))
    · obtain rfl : i = W.length := by omega
      rw [List.take_length] at hok hg
      have hl : (W.map fun w => (oneW w).1).length ≤ 4194304 := by rw [List.length_map]; omega
      have hokB := okB_one W
      have hWl : W.length = (W.map fun w => (oneW w).1).length := by simp
      have hgood := hgood hok
      generalize hL : (W.map fun w => (oneW w).1) = L at *
      obtain ⟨id, rfl, rfl⟩ := hg.ne (by simpa [← hL] using hWne)
      clear ih
      refine Run2.freeze id (by simp [hget]; rfl) ?_
      have htk : List.take L.length (L.map T.av) = L.map T.av := List.take_of_length_le (by simp)
      by_cases hv : validB L
      · obtain ⟨e1, e2⟩ := hgood hv
        rw [e1, e2]
        simp -implicitDefEqProofs [fzE, fz, fzs, hdel, htk]
        refine Run2.of I 1000 ?_
        simp -implicitDefEqProofs [hlt, hl, hokB, hv]
        exact .base ⟨rfl, rfl⟩
      · obtain ⟨e1, e2⟩ := hbad2 hv
        rw [e1, e2]
        simp -implicitDefEqProofs [fzE, fz, fzs, hdel, htk]
        refine Run2.of I 1000 ?_
        simp -implicitDefEqProofs [hlt, hl, hokB, hv]
        exact .wk (Wk.tup (.cons (Wk.nil 3) (.cons (.refl _) .nil))) (.base ⟨rfl, rfl⟩)
/-! ## The program -/
theorem Post.dropAll0 {R : AV → Heap → Prop} {L : Heap} {v : AV} (hv : cold v = true) (hk : Post R v []) : Post R v L := by
  have := Post.dropAll (L := L) hv hk
  rwa [List.append_nil] at this
theorem Grow.app_1 {sz : Nat} {w : AV} {l new : List AV} {hp : Heap} {C : Cx} {n : Nat} {d : Option Nat} {ks : Option (List Nat)} {is : List AJ} {sk : List AItem} {R : AV → Heap → Prop} {e : Env} {h0 : Heap} {bytes id : Nat} {b : Blk} (g : Grow sz w l hp) (hid : id ∉ dom hp) (hb : (2 * (l.length + new.length)) * bytes ≤ 281474976710656) (hn : new ≠ [])
    (k : ∀ w' hp', Grow sz w' (l ++ new) hp' → vc2 C n is sk (kp (put e d w') ks) (hp' ++ [(id, b)]) R) : resK C n d ks is sk R e h0 (appR ((id, b) :: hp) sz bytes w new) := by
  have := g.app_mid (C := C) (n := n) (d := d) (ks := ks) (is := is) (sk := sk) (R := R) (e := e) (h0 := h0) (bytes := bytes) (new := new) (pre := [(id, b)]) (post := []) (fun i hi hm => by simp [dom] at hm; exact hid (hm ▸ hi)) hb hn (fun w' hp' g' _ => by simpa using k w' hp' g')
  simpa using this
theorem lenW_in (w : Txt) : (lenW w).ok := by
  have ia := rd_in (Lib.cut w [58]).1
  have ib := rd_in (Lib.cut (Lib.cut w [58]).2.1 [43]).1
  have ic := rd_in (Lib.cut (Lib.cut w [58]).2.1 [43]).2.1
  unfold in18 at ia ib ic
  unfold lenW T.ok in64
  split
  · simp only; omega
  · simp only; omega
theorem okB_len (W : List Txt) : okB (W.map lenW) := fun t ht => by
  obtain ⟨w, _, rfl⟩ := List.mem_map.1 ht
  exact lenW_in w
theorem valid_g {w : AV} {l : List T} {hp : Heap} (G : Grow 3 w (l.map T.av) hp) (hl : l.length ≤ 4194304) (ok : okB l) : ACalls Tryd.prog 21 [w] hp (fun v h' => v = .bool (decide (validB l)) ∧ h' = hp) := by
  refine ACalls.reads hp (fun p hp' => hp') ?_ rfl
  rw [lend_cons, lend_nil']
  exact ACalls.wk (.cons G.lentWkS .nil) (valid_cL l [] hl ok)
theorem BarsText_g {w : AV} {l : List T} {hp : Heap} (G : Grow 3 w (l.map T.av) hp) (hl : l.length ≤ 1048576) (ok : okB l) : ACalls Tryd.prog 22 [w] hp (fun v h' => v = .str (bsT l) ∧ h' = hp) := by
  refine ACalls.reads hp (fun p hp' => hp') ?_ rfl
  rw [lend_cons, lend_nil']
  exact ACalls.wk (.cons G.lentWkS .nil) (implBT_c l [] hl ok)
noncomputable def orcRb3 : List (Nat × (List AV → Option (Prop × AV))) := (18, o_split) :: (19, o_cut) :: (20, o_ReadDecimal) :: []
theorem orcRb3_p : Pure Tryd.prog (lk orcRb3) := (lk_pure o_split_k (lk_pure o_cut_k (lk_pure o_ReadDecimal_k lk_pure0)))
@[simp] theorem orcRb3_l (b : Bool) (g : FuncId) (l : List AV) : lk orcRb3 b g l = if g = 18 then o_split l else if g = 19 then o_cut l else if g = 20 then o_ReadDecimal l else none := nr rfl
abbrev k6_o0 : List AJ := [.o ⟨(some 2), none, false, .mv (.c .nilsl), none⟩, .o ⟨(some 3), none, false, .mv (.c (.bool false)), (some [0])⟩]
abbrev k6_o1 : List AJ := [.o ⟨(some 4), none, false, .mv (.c .nilsl), (some [0, 4])⟩]
abbrev k6_o2 : List AJ := [.o ⟨(some 16), none, false, .mv (.t 0), none⟩, .o ⟨(some 17), none, false, .bin .neq (.t 16) (.c (.str [45])), (some [0, 4, 17])⟩]
abbrev k6_o3 : List AJ := [.o ⟨(some 18), none, false, .mv (.t 0), none⟩, .o ⟨(some 19), none, false, .call 18 [(.t 18), (.c (.str [32]))], none⟩, .o ⟨(some 20), none, false, .len (.t 19), none⟩, .o ⟨(some 21), none, false, .mv (.c (.int .i64 0)), (some [0, 4, 19, 20, 21])⟩]
abbrev k6_o4 : List AJ := [.o ⟨(some 22), none, false, .bin .lss (.t 21) (.t 20), (some [0, 4, 19, 20, 21, 22])⟩]
abbrev k6_o5 : List AJ := [.o ⟨(some 23), none, false, .idxA 1 (.t 19) (.t 21), none⟩, .o ⟨(some 24), none, false, .load 1 false (.t 23), none⟩, .o ⟨(some 6), none, false, .mv (.t 24), (some [0, 4, 6, 19, 20, 21])⟩]
abbrev k6_o6 : List AJ := [.o ⟨(some 26), none, false, .mv (.t 6), none⟩, .o ⟨(some 27), none, false, .call 19 [(.t 26), (.c (.str [58]))], none⟩, .o ⟨(some 25), none, false, .mv (.t 27), none⟩, .o ⟨(some 28), none, false, .extract (.t 25) 0, none⟩, .o ⟨(some 29), none, false, .extract (.t 25) 1, none⟩, .o ⟨(some 30), none, false, .extract (.t 25) 2, none⟩, .o ⟨(some 7), none, false, .mv (.t 28), none⟩, .o ⟨(some 8), none, false, .mv (.t 29), none⟩, .o ⟨(some 9), none, false, .mv (.t 30), (some [0, 4, 7, 8, 19, 20, 21])⟩]
abbrev k6_o7 : List AJ := [.o ⟨(some 32), none, false, .mv (.t 8), none⟩, .o ⟨(some 33), none, false, .call 19 [(.t 32), (.c (.str [43]))], none⟩, .o ⟨(some 31), none, false, .mv (.t 33), none⟩, .o ⟨(some 34), none, false, .extract (.t 31) 0, none⟩, .o ⟨(some 35), none, false, .extract (.t 31) 1, none⟩, .o ⟨(some 36), none, false, .extract (.t 31) 2, none⟩, .o ⟨(some 10), none, false, .mv (.t 34), none⟩, .o ⟨(some 11), none, false, .mv (.t 35), none⟩, .o ⟨(some 12), none, false, .mv (.t 36), (some [0, 4, 7, 10, 11, 19, 20, 21])⟩]
abbrev k6_o8 : List AJ := [.o ⟨(some 13), none, false, .alloc true 3 (.agg [(.int .i64 0), (.int .i64 0), (.int .i64 0)]), (some [0, 4, 7, 10, 11, 13, 19, 20, 21])⟩]
abbrev k6_o9 : List AJ := [.o ⟨(some 38), none, false, .mv (.t 7), none⟩, .o ⟨(some 39), none, false, .call 20 [(.t 38)], none⟩, .o ⟨(some 37), none, false, .mv (.t 39), none⟩, .o ⟨(some 40), none, false, .extract (.t 37) 0, none⟩, .o ⟨(some 41), none, false, .extract (.t 37) 1, none⟩, .o ⟨(some 42), none, false, .fieldA 0 (.t 13), none⟩, .o ⟨none, none, false, .store 1 (.t 42) (.t 40), (some [0, 4, 10, 11, 13, 19, 20, 21])⟩]
abbrev k6_o10 : List AJ := [.o ⟨(some 44), none, false, .mv (.t 10), none⟩, .o ⟨(some 45), none, false, .call 20 [(.t 44)], none⟩, .o ⟨(some 43), none, false, .mv (.t 45), none⟩, .o ⟨(some 46), none, false, .extract (.t 43) 0, none⟩, .o ⟨(some 47), none, false, .extract (.t 43) 1, none⟩, .o ⟨(some 48), none, false, .fieldA 1 (.t 13), none⟩, .o ⟨none, none, false, .store 1 (.t 48) (.t 46), (some [0, 4, 11, 13, 19, 20, 21])⟩]
abbrev k6_o11 : List AJ := [.o ⟨(some 49), none, false, .fieldA 2 (.t 13), none⟩, .o ⟨none, none, false, .store 1 (.t 49) (.c (.int .i64 (-1))), (some [0, 4, 11, 13, 19, 20, 21])⟩]
abbrev k6_o12 : List AJ := [.o ⟨(some 51), none, false, .mv (.t 11), none⟩, .o ⟨(some 52), none, false, .call 20 [(.t 51)], none⟩, .o ⟨(some 50), none, false, .mv (.t 52), none⟩, .o ⟨(some 53), none, false, .extract (.t 50) 0, none⟩, .o ⟨(some 54), none, false, .extract (.t 50) 1, none⟩, .o ⟨(some 14), none, false, .mv (.t 53), none⟩, .o ⟨(some 15), none, false, .mv (.t 54), (some [0, 4, 13, 14, 15, 19, 20, 21])⟩]
abbrev k6_o13 : List AJ := [.o ⟨(some 55), none, false, .mv (.t 15), (some [0, 4, 13, 14, 19, 20, 21, 55])⟩]
abbrev k6_o14 : List AJ := [.o ⟨(some 56), none, false, .fieldA 1 (.t 13), none⟩, .o ⟨(some 57), none, false, .load 1 false (.t 56), none⟩, .o ⟨(some 58), none, false, .mv (.t 14), none⟩, .o ⟨(some 59), none, true, .bin .add (.t 57) (.t 58), none⟩, .o ⟨(some 60), none, false, .fieldA 2 (.t 13), none⟩, .o ⟨none, none, false, .store 1 (.t 60) (.t 59), (some [0, 4, 13, 19, 20, 21])⟩]
def k6_15 : ACode := .region k6_o14
def k6_16 : ACode := .cond (.t 55) k6_15 .skip
def k6_17 : ACode := .seq (.region k6_o13) k6_16
def k6_18 : ACode := .seq (.region k6_o12) k6_17
abbrev k6_o15 : List AJ := [.o ⟨(some 61), none, false, .mv (.t 4), none⟩, .o ⟨(some 62), none, false, .load 3 true (.t 13), none⟩, .o ⟨(some 63), none, false, .bsl false 3 [(.t 62)], none⟩, .o ⟨(some 64), none, false, .append 3 24 (.t 61) (.t 63), none⟩, .o ⟨(some 4), none, false, .mv (.t 64), (some [0, 4, 19, 20, 21])⟩]
def k6_19 : ACode := .region k6_o15
def k6_20 : ACode := .seq k6_18 k6_19
def k6_21 : ACode := .seq (.region k6_o11) k6_20
def k6_22 : ACode := .seq (.region k6_o10) k6_21
def k6_23 : ACode := .seq (.region k6_o9) k6_22
def k6_24 : ACode := .seq (.region k6_o8) k6_23
def k6_25 : ACode := .seq (.region k6_o7) k6_24
def k6_26 : ACode := .seq (.region k6_o6) k6_25
def k6_27 : ACode := .seq (.region k6_o5) k6_26
abbrev k6_o16 : List AJ := [.o ⟨(some 65), none, true, .bin .add (.t 21) (.c (.int .i64 1)), none⟩, .o ⟨(some 21), none, false, .mv (.t 65), (some [0, 4, 19, 20, 21])⟩]
def k6_29 : ACode := .region k6_o16
def k6_30 : ACode := .seq (.block 1 k6_27) k6_29
def k6_31 : ACode := .seq (.cond (.t 22) .skip (.exit 0)) k6_30
def k6_32 : ACode := .seq (.region k6_o4) k6_31
def k6_33 : ACode := .loop k6_32
def k6_34 : ACode := .block 0 k6_33
def k6_35 : ACode := .seq (.region k6_o3) k6_34
def k6_36 : ACode := .cond (.t 17) k6_35 .skip
def k6_37 : ACode := .seq (.region k6_o2) k6_36
abbrev k6_o17 : List AJ := [.o ⟨(some 66), none, false, .mv (.t 4), none⟩, .o ⟨(some 67), none, false, .call 21 [(.t 66)], none⟩, .o ⟨(some 68), none, false, .un .not (.t 67), none⟩, .o ⟨(some 69), none, false, .mv (.t 68), none⟩, .o ⟨(some 70), (some (69, false)), false, .mv (.t 4), none⟩, .o ⟨(some 71), (some (69, false)), false, .call 22 [(.t 70)], none⟩, .o ⟨(some 72), (some (69, false)), false, .mv (.t 0), none⟩, .o ⟨(some 73), (some (69, false)), false, .bin .neq (.t 71) (.t 72), none⟩, .o ⟨(some 74), none, false, .pick (.t 69) (.c (.bool true)) (.t 73), (some [4, 74])⟩]
abbrev k6_o18 : List AJ := [.o ⟨(some 2), none, false, .mv (.c .nilsl), none⟩, .o ⟨(some 3), none, false, .mv (.c (.bool false)), (some [2, 3])⟩]
def k6_40 : ACode := .seq (.region k6_o18) .ret
def k6_41 : ACode := .cond (.t 74) k6_40 .skip
def k6_42 : ACode := .seq (.region k6_o17) k6_41
abbrev k6_o19 : List AJ := [.o ⟨(some 75), none, false, .mv (.t 4), none⟩, .o ⟨(some 2), none, false, .mv (.t 75), none⟩, .o ⟨(some 3), none, false, .mv (.c (.bool true)), (some [2, 3])⟩]
def k6_44 : ACode := .seq (.region k6_o19) .ret
def k6_45 : ACode := .seq k6_42 k6_44
def k6_46 : ACode := .seq k6_37 k6_45
def k6_47 : ACode := .seq (.region k6_o1) k6_46
def k6_48 : ACode := .seq (.region k6_o0) k6_47
@[simp, simp ↓] theorem k6_15r : rR k6_15 k6_o14 := zR rfl
@[simp, simp ↓] theorem k6_16r : rC k6_16 (.t 55) k6_15 .skip := zC rfl
@[simp, simp ↓] theorem k6_17r : sR k6_17 k6_o13 k6_16 := yR rfl
@[simp, simp ↓] theorem k6_18r : sR k6_18 k6_o12 k6_17 := yR rfl
@[simp, simp ↓] theorem k6_19r : rR k6_19 k6_o15 := zR rfl
@[simp, simp ↓] theorem k6_20r : rS k6_20 k6_18 k6_19 := zS rfl
@[simp, simp ↓] theorem k6_21r : sR k6_21 k6_o11 k6_20 := yR rfl
@[simp, simp ↓] theorem k6_22r : sR k6_22 k6_o10 k6_21 := yR rfl
@[simp, simp ↓] theorem k6_23r : sR k6_23 k6_o9 k6_22 := yR rfl
@[simp, simp ↓] theorem k6_24r : sR k6_24 k6_o8 k6_23 := yR rfl
@[simp, simp ↓] theorem k6_25r : sR k6_25 k6_o7 k6_24 := yR rfl
@[simp, simp ↓] theorem k6_26r : sR k6_26 k6_o6 k6_25 := yR rfl
@[simp, simp ↓] theorem k6_27r : sR k6_27 k6_o5 k6_26 := yR rfl
@[simp, simp ↓] theorem k6_29r : rR k6_29 k6_o16 := zR rfl
@[simp, simp ↓] theorem k6_30r : sB k6_30 1 k6_27 k6_29 := yB rfl
@[simp, simp ↓] theorem k6_31r : sC k6_31 (.t 22) .skip (.exit 0) k6_30 := yC rfl
@[simp, simp ↓] theorem k6_32r : sR k6_32 k6_o4 k6_31 := yR rfl
@[simp, simp ↓] theorem k6_33r : rL k6_33 k6_32 := zL rfl
@[simp, simp ↓] theorem k6_34r : rB k6_34 0 k6_33 := zB rfl
@[simp, simp ↓] theorem k6_35r : sR k6_35 k6_o3 k6_34 := yR rfl
@[simp, simp ↓] theorem k6_36r : rC k6_36 (.t 17) k6_35 .skip := zC rfl
@[simp, simp ↓] theorem k6_37r : sR k6_37 k6_o2 k6_36 := yR rfl
@[simp, simp ↓] theorem k6_40r : sR k6_40 k6_o18 .ret := yR rfl
@[simp, simp ↓] theorem k6_41r : rC k6_41 (.t 74) k6_40 .skip := zC rfl
@[simp, simp ↓] theorem k6_42r : sR k6_42 k6_o17 k6_41 := yR rfl
@[simp, simp ↓] theorem k6_44r : sR k6_44 k6_o19 .ret := yR rfl
@[simp, simp ↓] theorem k6_45r : rS k6_45 k6_42 k6_44 := zS rfl
@[simp, simp ↓] theorem k6_46r : rS k6_46 k6_37 k6_45 := zS rfl
@[simp, simp ↓] theorem k6_47r : sR k6_47 k6_o1 k6_46 := yR rfl
@[simp, simp ↓] theorem k6_48r : sR k6_48 k6_o0 k6_47 := yR rfl
noncomputable abbrev k6_C : Orc → Cx := mkC Tryd.prog [13] 6 76 [.tmp 2, .tmp 3]
theorem k6_of : OfP Tryd.prog Tryd.f6 6 76 k6_C k6_48 := @ofP _ _ _ _ _ _ _ _ Tryd.func6 (by decide +kernel) rfl (by kernel_rfl) rfl (by kernel_rfl)
/-- The bars that are read are in memory of their own. -/
theorem implRB_o (s : Txt) (hs : s.length ≤ 1048576) : ACalls Tryd.prog 6 [.str s] [] (fun v h' => ∃ w, v = .tup [w, .bool (rbO s)] ∧ OwnL T.av 3 w (rbL s) h') := by
  refine k6_of rfl orcRb3_p fun I => ?_
  by_cases h0 : s = [45]
  · rw [h0, rb_dash.1, rb_dash.2]
    have hv0 := valid_g (w := .nilsl) (l := []) (hp := []) .nil (by simp) (fun t ht => by simp at ht)
    have ht0 := BarsText_g (w := .nilsl) (l := []) (hp := []) .nil (by simp) (fun t ht => by simp at ht)
    have e0 : bsT [] = [45] := by unfold bsT; rw [if_pos valid_nil, if_pos rfl]
    rw [decide_eq_true valid_nil] at hv0
    rw [e0] at ht0
    refine Run2.of I 1000 ?_
    simp -implicitDefEqProofs
    first | refine dcallK (hv0) ?_ | (refine (hv0).mono ?_; rintro v h' ⟨rfl, rfl⟩; refine gK.go ?_)
    simp -implicitDefEqProofs
    first | refine dcallK (ht0) ?_ | (refine (ht0).mono ?_; rintro v h' ⟨rfl, rfl⟩; refine gK.go ?_)
    simp -implicitDefEqProofs
    exact .base ⟨_, rfl, .nil⟩
  · have hL0 : lenB s = (spl 32 s).map lenW := by unfold lenB; rw [if_neg h0]
    have hgood : validB (lenB s) ∧ bsT (lenB s) = s → rbL s = lenB s ∧ rbO s = true := fun hh => by
      unfold rbL rbO
      rw [if_pos hh, decide_eq_true hh]; exact ⟨rfl, rfl⟩
    have hbad := rb_bad (s := s)
    rw [hL0] at hgood hbad
    have hs2 : s.length < 4294967281 := by omega
    refine Run2.of I 1000 ?_
    simp -implicitDefEqProofs [h0, hs2]
    have hmany := spl_many 32 s
    have hmem : ∀ i (hi : i < (spl 32 s).length), (spl 32 s)[i] ∈ spl 32 s := fun i hi => List.getElem_mem hi
    have hlen : ∀ w ∈ spl 32 s, List.length w ≤ 1048576 := fun w hw => Nat.le_trans (spl_le 32 s w hw) hs
    have hWne := spl_ne 32 s
    generalize spl 32 s = W at *
    refine Run2.loopE (α := Nat × AV × Heap) (fun p => [(0, .str s), (4, p.2.1), (19, .snap 1 (W.map sv)), (20, .int .i64 W.length), (21, .int .i64 (p.1 : Nat))]) (fun p => p.2.2) (fun p => W.length - p.1) (fun p => p.1 ≤ W.length ∧ Grow 3 p.2.1 (((W.take p.1).map lenW).map T.av) p.2.2) (0, .nilsl, []) (by simp) rfl ⟨Nat.zero_le _, .nil⟩ ?_
    rintro ⟨i, u, hp⟩ ⟨hi, hg⟩ ih
    simp only at hi hg
    have hcell := hg.cell
    by_cases hlt : i < W.length
    · have hwl := hlen _ (hmem i hlt)
      have go := fun u' hp' (g : Grow 3 u' (((W.take i).map lenW).map T.av ++ [T.av (lenW W[i])]) hp') => ih (i + 1, u', hp') ⟨hlt, by
        show Grow 3 u' (((W.take (i + 1)).map lenW).map T.av) hp'
        rw [List.take_succ_eq_append_getElem hlt]
        simpa only [List.map_append, List.map_cons, List.map_nil] using g⟩ (by omega)
      clear ih hgood hbad
      generalize hti : W[i] = x at *
      have c1 := cut1_len x [58]
      have c2 := cut2_len x [58]
      have c3 := cut1_len (Lib.cut x [58]).2.1 [43]
      have c4 := cut2_len (Lib.cut x [58]).2.1 [43]
      have hx : lenW x = ⟨(rd (Lib.cut x [58]).1).1, (rd (Lib.cut (Lib.cut x [58]).2.1 [43]).1).1, if (rd (Lib.cut (Lib.cut x [58]).2.1 [43]).2.1).2 then (rd (Lib.cut (Lib.cut x [58]).2.1 [43]).1).1 + (rd (Lib.cut (Lib.cut x [58]).2.1 [43]).2.1).1 else -1⟩ := rfl
      generalize hc1 : Lib.cut x [58] = a at *
      generalize hc2 : Lib.cut a.2.1 [43] = b at *
      have hn1 : List.length x < 4294967281 := by omega
      have hn2 : List.length a.2.1 < 4294967281 := by omega
      have hn3 : List.length a.1 ≤ 1048576 := by omega
      have hn4 : List.length b.1 ≤ 1048576 := by omega
      have hn5 : List.length b.2.1 ≤ 1048576 := by omega
      have ib := rd_in b.1
      have ic := rd_in b.2.1
      unfold in18 at ib ic
      have hav : ∀ t : T, T.av t = .agg [.int .i64 t.f, .int .i64 t.t, .int .i64 t.s] := fun _ => rfl
      rw [hx] at go
      by_cases hb : (rd b.2.1).2 = true
      · rw [if_pos hb] at go
        refine Run2.of I 1000 ?_
        simp -implicitDefEqProofs [hlt, hti, hcell, hc1, hc2, hn1, hn2, hn3, hn4, hn5, hb]
        intro id hid
        refine ⟨by omega, ?_⟩
        refine Grow.app_1 hg hid (by simp; omega) (by simp) fun u2 hp2 hg2 => ?_
        have hcell2 := hg2.cell
        have := go u2 hp2 hg2
        simp -implicitDefEqProofs [hcell2]
        refine ⟨by omega, ?_⟩
        refine Run2.sub (h' := hp2) (fun p hp => by simp [hp]) (fun nd => ?_) (by simpa using this)
        rw [dom_append] at nd
        exact (List.nodup_append.1 nd).1
      · have hb2 : (rd b.2.1).2 = false := by simpa using hb
        rw [if_neg hb] at go
        refine Run2.of I 1000 ?_
        simp -implicitDefEqProofs [hlt, hti, hcell, hc1, hc2, hn1, hn2, hn3, hn4, hn5, hb2]
        intro id hid
        refine Grow.app_1 hg hid (by simp; omega) (by simp) fun u2 hp2 hg2 => ?_
        have hcell2 := hg2.cell
        have := go u2 hp2 hg2
        simp -implicitDefEqProofs [hcell2]
        refine ⟨by omega, ?_⟩
        refine Run2.sub (h' := hp2) (fun p hp => by simp [hp]) (fun nd => ?_) (by simpa using this)
        rw [dom_append] at nd
        exact (List.nodup_append.1 nd).1
    · obtain rfl : i = W.length := by omega
      rw [List.take_length] at hg
      have hl : (W.map lenW).length ≤ 4194304 := by rw [List.length_map]; omega
      have hokB := okB_len W
      clear ih
      generalize hLL : W.map lenW = L at *
      have hvg := valid_g hg hl hokB
      by_cases hv : validB L
      · have h24 := hv.2
        have htg := BarsText_g hg (by omega) hokB
        rw [decide_eq_true hv] at hvg
        by_cases ht : bsT L = s
        · obtain ⟨e1, e2⟩ := hgood ⟨hv, ht⟩
          rw [e1, e2]
          rw [ht] at htg
          refine Run2.of I 1000 ?_
          simp -implicitDefEqProofs [hlt, hcell]
          first | refine dcallK (hvg) ?_ | (refine (hvg).mono ?_; rintro v h' ⟨rfl, rfl⟩; refine gK.go ?_)
          simp -implicitDefEqProofs [hcell]
          first | refine dcallK (htg) ?_ | (refine (htg).mono ?_; rintro v h' ⟨rfl, rfl⟩; refine gK.go ?_)
          simp -implicitDefEqProofs [hcell]
          exact .base ⟨_, rfl, Grow.own hg⟩
        · obtain ⟨e1, e2⟩ := hbad (fun hh => ht hh.2)
          rw [e1, e2]
          refine Run2.of I 1000 ?_
          simp -implicitDefEqProofs [hlt, hcell]
          first | refine dcallK (hvg) ?_ | (refine (hvg).mono ?_; rintro v h' ⟨rfl, rfl⟩; refine gK.go ?_)
          simp -implicitDefEqProofs [hcell]
          first | refine dcallK (htg) ?_ | (refine (htg).mono ?_; rintro v h' ⟨rfl, rfl⟩; refine gK.go ?_)
          simp -implicitDefEqProofs [hcell, ht]
          exact Post.dropAll0 rfl (.base ⟨_, rfl, .nil⟩)
      · obtain ⟨e1, e2⟩ := hbad (fun hh => hv hh.1)
        rw [e1, e2]
        rw [decide_eq_false hv] at hvg
        refine Run2.of I 1000 ?_
        simp -implicitDefEqProofs [hlt, hcell]
        first | refine dcallK (hvg) ?_ | (refine (hvg).mono ?_; rintro v h' ⟨rfl, rfl⟩; refine gK.go ?_)
        simp -implicitDefEqProofs [hcell]
        exact Post.dropAll0 rfl (.base ⟨_, rfl, .nil⟩)
end Go.AG.B
