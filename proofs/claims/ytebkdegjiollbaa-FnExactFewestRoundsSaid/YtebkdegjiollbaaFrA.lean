/- The search for the fewest rounds, as plain data. No statement is made here. -/
import Derived.Test.YtebkdegjiollbaaCtA
import Derived.Test.YtebkdegjiollbaaAGLists2
namespace Go.AG
open Go.Proofs Go.Proofs.Ytebkdegjiollbaa
set_option linter.unusedSimpArgs false
set_option linter.unusedVariables false
set_option maxRecDepth 4000
theorem ACalls.inSub {P : Program} {g : FuncId} {args : List AV} {h h' : Heap} {R : AV → Heap → Prop} (hs : ∀ p ∈ h', p ∈ h) (nd : (dom h).Nodup → (dom h').Nodup) (H : ACalls P g args h' R) : ACalls P g args h R :=
  ⟨H.1, fun w vs hw hv => by
    obtain ⟨H', Ev⟩ := hw.sub hs (nd hw.nd)
    exact (H.2 w vs H' (Reps.mono Ev.keeps _ _ hv)).mono fun _ _ ⟨cv, v, h', e1, e2, e3, e4, e5⟩ => ⟨cv, v, h', e1, e2, e3, Ev.trans e4, e5⟩⟩
theorem ACalls.inPerm {P : Program} {g : FuncId} {args : List AV} {h h' : Heap} {R : AV → Heap → Prop} (p : h.Perm h') (H : ACalls P g args h' R) : ACalls P g args h R :=
  ACalls.inSub (fun _ hq => p.mem_iff.2 hq) (nodup_perm p) H
/-- What a search gives: the rounds, the nodes, whether there were too many. -/
abbrev FrR := Option (List (List Int)) × Int × Bool
/-- An edge put into a round, or into a new one. -/
def frPut (rs : List (List Int)) (i : Nat) (e : Int) : List (List Int) := if i < rs.length then rs.set i (rs.getD i [] ++ [e]) else rs ++ [[e]]
def frL (x : Gr) (F : List (List Int) → Int → FrR) (B : Int) (rs : List (List Int)) (e : Int) : List Nat → Int → FrR
  | [], k => (none, k, false)
  | i :: is, k => if i < rs.length ∧ ¬ x.free (rs.getD i []) e then frL x F B rs e is k else if k = B then (none, k, true) else
    match F (frPut rs i e) (k + 1) with
    | (some r, k', f) => (some r, k', f)
    | (none, k', true) => (none, k', true)
    | (none, k', false) => frL x F B rs e is k'
def Gr.eNo (x : Gr) (d : Nat) : Int := (x.ts.length : Int) - d
def frS (x : Gr) (m : Nat) (B : Int) : Nat → List (List Int) → Int → FrR
  | 0, rs, k => (some rs, k, false)
  | d + 1, rs, k => frL x (frS x m B d) B rs (x.eNo (d + 1)) (List.range (min m (rs.length + 1))) k
theorem frS_succ (x : Gr) (m : Nat) (B : Int) (d : Nat) (rs : List (List Int)) (k : Int) : frS x m B (d + 1) rs k = frL x (frS x m B d) B rs (x.eNo (d + 1)) (List.range (min m (rs.length + 1))) k := rfl
theorem frL_skip {x : Gr} {F : List (List Int) → Int → FrR} {B : Int} {rs : List (List Int)} {e : Int} {i : Nat} {is : List Nat} {k : Int} (h : i < rs.length ∧ ¬ x.free (rs.getD i []) e) : frL x F B rs e (i :: is) k = frL x F B rs e is k := by
  rw [frL, if_pos h]
theorem frL_full {x : Gr} {F : List (List Int) → Int → FrR} {B : Int} {rs : List (List Int)} {e : Int} {i : Nat} {is : List Nat} {k : Int} (h : ¬ (i < rs.length ∧ ¬ x.free (rs.getD i []) e)) (hk : k = B) : frL x F B rs e (i :: is) k = (none, k, true) := by
  rw [frL, if_neg h, if_pos hk]
theorem frL_go {x : Gr} {F : List (List Int) → Int → FrR} {B : Int} {rs : List (List Int)} {e : Int} {i : Nat} {is : List Nat} {k : Int} (h : ¬ (i < rs.length ∧ ¬ x.free (rs.getD i []) e)) (hk : ¬ k = B) : frL x F B rs e (i :: is) k =
    match F (frPut rs i e) (k + 1) with
    | (some r, k', f) => (some r, k', f)
    | (none, k', true) => (none, k', true)
    | (none, k', false) => frL x F B rs e is k' := by
  rw [frL, if_neg h, if_neg hk]
/-- The nodes only grow, up to the budget. -/
theorem frL_bd {x : Gr} {F : List (List Int) → Int → FrR} {B : Int} (hF : ∀ rs k, k ≤ B → k ≤ (F rs k).2.1 ∧ (F rs k).2.1 ≤ B) (rs : List (List Int)) (e : Int) : ∀ (is : List Nat) (k : Int), k ≤ B → k ≤ (frL x F B rs e is k).2.1 ∧ (frL x F B rs e is k).2.1 ≤ B
  | [], k, h => ⟨Int.le_refl _, h⟩
  | i :: is, k, h => by
    by_cases h1 : i < rs.length ∧ ¬ x.free (rs.getD i []) e
    · rw [frL_skip h1]; exact frL_bd hF rs e is k h
    · by_cases h2 : k = B
      · rw [frL_full h1 h2]; exact ⟨Int.le_refl _, h⟩
      · rw [frL_go h1 h2]
        have := hF (frPut rs i e) (k + 1) (by omega)
        generalize F (frPut rs i e) (k + 1) = G at *
        obtain ⟨o, k', f⟩ := G
        simp only at this
        cases o with
        | some r => simp only; omega
        | none =>
          cases f with
          | true => simp only; omega
          | false =>
            have := frL_bd (x := x) hF rs e is k' (by omega)
            simp only; omega
theorem frS_bd (x : Gr) (m : Nat) (B : Int) : ∀ (d : Nat) (rs : List (List Int)) (k : Int), k ≤ B → k ≤ (frS x m B d rs k).2.1 ∧ (frS x m B d rs k).2.1 ≤ B
  | 0, rs, k, h => ⟨Int.le_refl _, h⟩
  | d + 1, rs, k, h => by
    rw [frS_succ]
    exact frL_bd (frS_bd x m B d) rs _ _ k h
theorem frPut_len (rs : List (List Int)) (i : Nat) (e : Int) : rs.length ≤ (frPut rs i e).length ∧ (frPut rs i e).length ≤ rs.length + 1 ∧ (i < rs.length → (frPut rs i e).length = rs.length) ∧ (¬ i < rs.length → (frPut rs i e).length = rs.length + 1) := by
  unfold frPut
  split <;> simp_all
/-- What holds of the rounds: d edges are left. -/
def frI (x : Gr) (m d : Nat) (rs : List (List Int)) : Prop := rs.length ≤ m ∧ (∀ r ∈ rs, r ≠ [] ∧ ∀ a ∈ r, 0 ≤ a ∧ a < x.eNo d) ∧ sumL rs + d = x.ts.length
theorem frI_put {x : Gr} {m d : Nat} {rs : List (List Int)} (h : frI x m (d + 1) rs) {i : Nat} (hi : i < min m (rs.length + 1)) : frI x m d (frPut rs i (x.eNo (d + 1))) := by
  obtain ⟨h1, h2, h3⟩ := h
  have he : 0 ≤ x.eNo (d + 1) ∧ x.eNo (d + 1) + 1 = x.eNo d := by unfold Gr.eNo; omega
  have hl := frPut_len rs i (x.eNo (d + 1))
  refine ⟨by by_cases h : i < rs.length <;> omega, fun r hr => ?_, ?_⟩
  · unfold frPut at hr
    split at hr
    · rename_i hlt
      rcases List.mem_or_eq_of_mem_set hr with hr | rfl
      · exact ⟨(h2 r hr).1, fun a ha => by have := (h2 r hr).2 a ha; omega⟩
      · refine ⟨by simp, fun a ha => ?_⟩
        rcases List.mem_append.1 ha with ha | ha
        · rw [show rs.getD i [] = rs[i] by simp [hlt]] at ha
          have := (h2 _ (List.getElem_mem hlt)).2 a ha; omega
        · rw [List.mem_singleton.1 ha]; omega
    · rcases List.mem_append.1 hr with hr | hr
      · exact ⟨(h2 r hr).1, fun a ha => by have := (h2 r hr).2 a ha; omega⟩
      · rw [List.mem_singleton.1 hr]
        exact ⟨by simp, fun a ha => by rw [List.mem_singleton.1 ha]; omega⟩
  · unfold frPut
    split
    · rename_i hlt
      have : sumL (rs.set i (rs.getD i [] ++ [x.eNo (d + 1)])) = sumL rs + 1 := by
        have e : rs.getD i [] = rs[i] := by simp [hlt]
        rw [e, List.set_eq_take_append_cons_drop, if_pos hlt]
        conv => rhs; rw [← List.take_append_drop i rs, List.drop_eq_getElem_cons hlt]
        unfold sumL
        simp only [List.map_append, List.sum_append, List.map_cons, List.sum_cons, List.length_append, List.length_cons, List.length_nil]
        omega
      omega
    · have : sumL (rs ++ [[x.eNo (d + 1)]]) = sumL rs + 1 := by simp [sumL]
      omega
/-- What a search finds is as it must be. -/
theorem frL_some {x : Gr} {F : List (List Int) → Int → FrR} {B : Int} {rs : List (List Int)} {e : Int} {P : List (List Int) → Prop} {r : List (List Int)} : ∀ {is : List Nat} {k : Int}, (∀ i ∈ is, ∀ k, (F (frPut rs i e) k).1 = some r → P r) → (frL x F B rs e is k).1 = some r → P r
  | [], k, _, h => by simp [frL] at h
  | i :: is, k, hF, h => by
    by_cases h1 : i < rs.length ∧ ¬ x.free (rs.getD i []) e
    · rw [frL_skip h1] at h; exact frL_some (fun j hj => hF j (List.mem_cons_of_mem _ hj)) h
    · by_cases h2 : k = B
      · rw [frL_full h1 h2] at h; cases h
      · rw [frL_go h1 h2] at h
        have hi := hF i (List.mem_cons_self ..) (k + 1)
        generalize F (frPut rs i e) (k + 1) = G at *
        obtain ⟨o, k', f⟩ := G
        cases o with
        | some r' => simp only at h hi; exact hi h
        | none =>
          cases f with
          | true => simp at h
          | false => simp only at h; exact frL_some (fun j hj => hF j (List.mem_cons_of_mem _ hj)) h
theorem frS_some (x : Gr) (m : Nat) (B : Int) : ∀ (d : Nat) (rs : List (List Int)) (k : Int) (r : List (List Int)), frI x m d rs → (frS x m B d rs k).1 = some r → frI x m 0 r ∧ rs.length ≤ r.length
  | 0, rs, k, r, h, e => by simp only [frS, Option.some.injEq] at e; subst e; exact ⟨h, Nat.le_refl _⟩
  | d + 1, rs, k, r, h, e => by
    rw [frS_succ] at e
    refine frL_some (P := fun r => frI x m 0 r ∧ rs.length ≤ r.length) (fun i hi k' e' => ?_) e
    have hi := List.mem_range.1 hi
    have h1 := frS_some x m B d _ k' r (frI_put h hi) e'
    have h2 := (frPut_len rs i (x.eNo (d + 1))).1
    exact ⟨h1.1, by omega⟩
/-- With rounds enough something is found. -/
theorem frL_enough {x : Gr} {F : List (List Int) → Int → FrR} {B : Int} {rs : List (List Int)} {e : Int} : ∀ {is : List Nat} {k : Int}, (∀ i ∈ is, ∀ k, (F (frPut rs i e) k).1 = none → (F (frPut rs i e) k).2.2 = true) → (∃ i ∈ is, ¬ i < rs.length) → (frL x F B rs e is k).1 = none → (frL x F B rs e is k).2.2 = true
  | [], k, _, h, _ => by obtain ⟨i, hi, _⟩ := h; cases hi
  | i :: is, k, hF, hx, h => by
    by_cases h1 : i < rs.length ∧ ¬ x.free (rs.getD i []) e
    · rw [frL_skip h1] at h ⊢
      refine frL_enough (fun j hj => hF j (List.mem_cons_of_mem _ hj)) ?_ h
      obtain ⟨j, hj, hn⟩ := hx
      rcases List.mem_cons.1 hj with rfl | hj
      · exact absurd h1.1 hn
      · exact ⟨j, hj, hn⟩
    · by_cases h2 : k = B
      · rw [frL_full h1 h2]
      · rw [frL_go h1 h2] at h ⊢
        have hi := hF i (List.mem_cons_self ..) (k + 1)
        generalize F (frPut rs i e) (k + 1) = G at *
        obtain ⟨o, k', f⟩ := G
        cases o with
        | some r' => simp at h
        | none =>
          obtain rfl : f = true := hi rfl
          rfl
theorem frS_enough (x : Gr) (m : Nat) (B : Int) : ∀ (d : Nat) (rs : List (List Int)) (k : Int), rs.length + d ≤ m → (frS x m B d rs k).1 = none → (frS x m B d rs k).2.2 = true
  | 0, rs, k, h, e => by simp [frS] at e
  | d + 1, rs, k, h, e => by
    rw [frS_succ] at e ⊢
    refine frL_enough (fun i hi k' => frS_enough x m B d _ k' ?_) ⟨rs.length, List.mem_range.2 (by omega), by omega⟩ e
    have := frPut_len rs i (x.eNo (d + 1))
    omega
/-- One round more: what fails there fails here, and what is found there with a round to spare is found here. -/
theorem frL_mono {x : Gr} {F G : List (List Int) → Int → FrR} {B : Int} {m : Nat} {rs : List (List Int)} {e : Int} (hb : ∀ rs k, k ≤ B → k ≤ (F rs k).2.1 ∧ (F rs k).2.1 ≤ B) (t : List Nat) (ht : ∀ i ∈ t, ∀ k r, (F (frPut rs i e) k).1 = some r → m < r.length) :
    ∀ (l : List Nat) (k1 k2 : Int), (∀ i ∈ l, ∀ k1 k2 : Int, k1 ≤ k2 → k2 ≤ B → ((F (frPut rs i e) k2).1 = none → (F (frPut rs i e) k2).2.2 = false → (G (frPut rs i e) k1).1 = none ∧ (G (frPut rs i e) k1).2.2 = false ∧ (G (frPut rs i e) k1).2.1 ≤ (F (frPut rs i e) k2).2.1) ∧ (∀ r, (F (frPut rs i e) k2).1 = some r → r.length ≤ m → (G (frPut rs i e) k1).1 = some r)) → k1 ≤ k2 → k2 ≤ B →
    ((frL x F B rs e (l ++ t) k2).1 = none → (frL x F B rs e (l ++ t) k2).2.2 = false → (frL x G B rs e l k1).1 = none ∧ (frL x G B rs e l k1).2.2 = false ∧ (frL x G B rs e l k1).2.1 ≤ (frL x F B rs e (l ++ t) k2).2.1) ∧ (∀ r, (frL x F B rs e (l ++ t) k2).1 = some r → r.length ≤ m → (frL x G B rs e l k1).1 = some r)
  | [], k1, k2, hl, hk, hB => by
    rw [List.nil_append]
    refine ⟨fun _ _ => ⟨rfl, rfl, ?_⟩, fun r hr hm => ?_⟩
    · have := (frL_bd (x := x) hb rs e t k2 hB).1
      show k1 ≤ _
      omega
    · have := frL_some (P := fun r => m < r.length) (fun i hi k' => ht i hi k' r) hr
      omega
  | i :: l, k1, k2, hl, hk, hB => by
    have ih := fun k1 k2 => frL_mono (x := x) hb t ht l k1 k2 (fun j hj => hl j (List.mem_cons_of_mem _ hj))
    rw [List.cons_append]
    by_cases h1 : i < rs.length ∧ ¬ x.free (rs.getD i []) e
    · rw [frL_skip h1, frL_skip h1]; exact ih k1 k2 hk hB
    · by_cases h2 : k2 = B
      · rw [frL_full h1 h2]
        exact ⟨(fun _ h => by cases h), (fun r h => by cases h)⟩
      · have h3 : ¬ k1 = B := by omega
        rw [frL_go h1 h2, frL_go h1 h3]
        obtain ⟨a1, a2⟩ := hl i (List.mem_cons_self ..) (k1 + 1) (k2 + 1) (by omega) (by omega)
        have hbF := hb (frPut rs i e) (k2 + 1) (by omega)
        generalize F (frPut rs i e) (k2 + 1) = X at *
        generalize G (frPut rs i e) (k1 + 1) = Y at *
        obtain ⟨o, k', f⟩ := X
        obtain ⟨p, k'', g⟩ := Y
        cases o with
        | some r' =>
          refine ⟨fun h => by simp at h, fun r hr hm => ?_⟩
          simp only [Option.some.injEq] at hr
          subst hr
          have := a2 r' rfl hm
          simp only at this
          subst this
          rfl
        | none =>
          cases f with
          | true => exact ⟨(fun _ h => by cases h), (fun r h => by cases h)⟩
          | false =>
            obtain ⟨b1, b2, b3⟩ := a1 rfl rfl
            simp only at b1 b2 b3 hbF
            subst b1; subst b2
            exact ih k'' k' b3 (by omega)
theorem frS_mono (x : Gr) (m : Nat) (B : Int) : ∀ (d : Nat) (rs : List (List Int)) (k1 k2 : Int), frI x m d rs → k1 ≤ k2 → k2 ≤ B →
    ((frS x (m + 1) B d rs k2).1 = none → (frS x (m + 1) B d rs k2).2.2 = false → (frS x m B d rs k1).1 = none ∧ (frS x m B d rs k1).2.2 = false ∧ (frS x m B d rs k1).2.1 ≤ (frS x (m + 1) B d rs k2).2.1) ∧ (∀ r, (frS x (m + 1) B d rs k2).1 = some r → r.length ≤ m → (frS x m B d rs k1).1 = some r)
  | 0, rs, k1, k2, hI, hk, hB => by
    refine ⟨fun h => by simp [frS] at h, fun r hr _ => ?_⟩
    simpa [frS] using hr
  | d + 1, rs, k1, k2, hI, hk, hB => by
    rw [frS_succ, frS_succ]
    have hlen := hI.1
    have hI' : frI x (m + 1) (d + 1) rs := ⟨by omega, hI.2⟩
    rw [show min (m + 1) (rs.length + 1) = rs.length + 1 by omega]
    rcases Nat.lt_or_ge rs.length m with hlt | hge
    · rw [show min m (rs.length + 1) = rs.length + 1 by omega]
      have := frL_mono (x := x) (F := frS x (m + 1) B d) (G := frS x m B d) (B := B) (m := m) (rs := rs) (e := x.eNo (d + 1)) (frS_bd x (m + 1) B d) [] (by simp) (List.range (rs.length + 1)) k1 k2 (fun i hi k1 k2 h1 h2 => frS_mono x m B d _ k1 k2 (frI_put hI (by have := List.mem_range.1 hi; omega)) h1 h2) hk hB
      simpa using this
    · obtain rfl : m = rs.length := by omega
      rw [show min rs.length (rs.length + 1) = rs.length by omega, List.range_succ]
      refine frL_mono (x := x) (F := frS x (rs.length + 1) B d) (G := frS x rs.length B d) (B := B) (m := rs.length) (rs := rs) (e := x.eNo (d + 1)) (frS_bd x (rs.length + 1) B d) [rs.length] ?_ (List.range rs.length) k1 k2 (fun i hi k1 k2 h1 h2 => frS_mono x rs.length B d _ k1 k2 (frI_put hI (by have := List.mem_range.1 hi; omega)) h1 h2) hk hB
      intro i hi k r hr
      rw [List.mem_singleton.1 hi] at hr
      have h1 := (frS_some x (rs.length + 1) B d _ k r (frI_put hI' (by omega)) hr).2
      have h2 := (frPut_len rs rs.length (x.eNo (d + 1))).2.2.2 (by omega)
      omega
/-- The least number of rounds. -/
def frT (x : Gr) (B : Int) : Nat → Nat → Int → Option (List (List Int))
  | 0, _, _ => none
  | n + 1, m, k => match frS x m B x.ts.length [] k with
    | (some r, _, _) => some r
    | (none, _, true) => none
    | (none, k', false) => frT x B n (m + 1) k'
theorem frI_nil (x : Gr) (m : Nat) : frI x m x.ts.length [] := ⟨Nat.zero_le _, by simp, by simp [sumL]⟩
theorem frT_some (x : Gr) (B : Int) : ∀ (n m : Nat) (k : Int) (r : List (List Int)), frT x B n m k = some r → ∃ m, frI x m 0 r
  | 0, m, k, r, h => by cases h
  | n + 1, m, k, r, h => by
    rw [frT] at h
    have hs := frS_some x m B x.ts.length [] k r (frI_nil x m)
    generalize frS x m B x.ts.length [] k = G at *
    obtain ⟨o, k', f⟩ := G
    cases o with
    | some r' =>
      simp only [Option.some.injEq] at h
      subst h
      exact ⟨m, (hs rfl).1⟩
    | none =>
      cases f with
      | true => cases h
      | false => exact frT_some x B n (m + 1) k' r h
noncomputable def Gr.fwO (x : Gr) (B : Int) : Option (List (List Int)) := if x.valid ∧ 1 ≤ B ∧ B ≤ 20000 then frT x B (x.ts.length + 1) 0 0 else none
noncomputable def Gr.fwL (x : Gr) (B : Int) : List (List Int) := (x.fwO B).getD []
noncomputable def Gr.fwC (x : Gr) (B : Int) : Int := if x.valid then if 1 ≤ B ∧ B ≤ 20000 then if (x.fwO B).isSome = true then 0 else 5 else 2 else 1
theorem Gr.fwL_tot (x : Gr) (B : Int) : ssTot (x.fwL B) ≤ 48 := by
  unfold Gr.fwL Gr.fwO
  split
  · rename_i h
    have h24 := h.1.2.2.2
    cases hr : frT x B (x.ts.length + 1) 0 0 with
    | none => simp [ssTot, sumL]
    | some r =>
      obtain ⟨m, h1, h2, h3⟩ := frT_some x B _ _ _ r hr
      have h4 : ∀ l : List (List Int), (∀ r ∈ l, r ≠ []) → l.length ≤ sumL l := by
        intro l
        induction l with
        | nil => intro _; simp [sumL]
        | cons a l ih =>
          intro h
          have h5 := ih fun r hr => h r (List.mem_cons_of_mem _ hr)
          have h6 : 0 < a.length := List.length_pos_iff.2 (h a (List.mem_cons_self ..))
          simp only [sumL, List.map_cons, List.sum_cons, List.length_cons] at h5 ⊢
          omega
      have := h4 r fun r hr => (h2 r hr).1
      simp only [Option.getD_some, ssTot]
      omega
  · simp [ssTot, sumL]
end Go.AG
