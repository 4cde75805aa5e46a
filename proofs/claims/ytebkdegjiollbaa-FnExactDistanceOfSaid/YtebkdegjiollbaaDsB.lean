/- Matchings of bars, and of bars or none, as plain data. No statement is made here. -/
import Derived.Test.YtebkdegjiollbaaDsA
namespace Go.AG
set_option linter.unusedSimpArgs false
set_option linter.unusedVariables false
set_option maxRecDepth 4000
theorem pig {f : Nat → Nat} : ∀ {L T : List Nat}, L.Nodup → (∀ a ∈ L, f a ∈ T) → (∀ a ∈ L, ∀ b ∈ L, f a = f b → a = b) → L.length ≤ T.length
  | [], T, _, _, _ => Nat.zero_le _
  | a :: L, T, hn, hm, hi => by
    rw [List.nodup_cons] at hn
    have ha := hm a (List.mem_cons_self ..)
    have := pig (L := L) (T := T.erase (f a)) hn.2 (fun b hb => by
      refine (List.mem_erase_of_ne fun e => ?_).2 (hm b (List.mem_cons_of_mem _ hb))
      have := hi b (List.mem_cons_of_mem _ hb) a (List.mem_cons_self ..) e
      subst this
      exact hn.1 hb) fun b hb c hc => hi b (List.mem_cons_of_mem _ hb) c (List.mem_cons_of_mem _ hc)
    rw [List.length_erase_of_mem ha] at this
    have := List.length_pos_of_mem ha
    rw [List.length_cons]; omega
/-- All get a partner of their own. -/
def Mt (adj : Nat → Nat → Bool) (R : Nat) (ks : List Nat) : Prop := ∃ f : Nat → Nat, (∀ k ∈ ks, f k < R ∧ adj k (f k) = true) ∧ ∀ k ∈ ks, ∀ k' ∈ ks, f k = f k' → k = k'
/-- More of them than there are partners for these. -/
def Vi (adj : Nat → Nat → Bool) (R : Nat) (ks : List Nat) : Prop := ∃ L T : List Nat, L.Nodup ∧ (∀ k ∈ L, k ∈ ks) ∧ (∀ k ∈ L, ∀ j, j < R → adj k j = true → j ∈ T) ∧ T.length < L.length
theorem Mt.no {adj : Nat → Nat → Bool} {R : Nat} {ks : List Nat} (h : Mt adj R ks) : ¬ Vi adj R ks := by
  rintro ⟨L, T, h1, h2, h3, h4⟩
  obtain ⟨f, g1, g2⟩ := h
  have := pig (f := f) h1 (fun a ha => h3 a ha _ (g1 a (h2 a ha)).1 (g1 a (h2 a ha)).2) fun a ha b hb => g2 a (h2 a ha) b (h2 b hb)
  omega
def kAll (adj : Nat → Nat → Bool) (R : Nat) : List Nat → List Int → Bool
  | [], _ => true
  | k :: ks, o => match kt adj R (R + 1) k (o, List.replicate R false) with
    | (true, s) => kAll adj R ks s.1
    | (false, _) => false
/-- Those of P have partners. -/
structure KInv (adj : Nat → Nat → Bool) (R : Nat) (P : List Nat) (o : List Int) : Prop where
  len : o.length = R
  adj : ∀ j, j < R → 0 ≤ o.getD j 0 → adj (o.getD j 0).toNat j = true
  cnt : ∀ x : Nat, o.count (x : Int) = if x ∈ P then 1 else 0
theorem KInv.nil (adj : Nat → Nat → Bool) (R : Nat) : KInv adj R [] (List.replicate R (-1)) := by
  refine ⟨by simp, fun j hj h => ?_, fun x => ?_⟩
  · simp [hj] at h
  · rw [List.count_replicate]
    simp
theorem count_two {x : Int} {l : List Int} {i j : Nat} (hij : i < j) (hj : j < l.length) (h1 : l[i] = x) (h2 : l[j] = x) : 2 ≤ l.count x := by
  have e : l = l.take j ++ l.drop j := (List.take_append_drop j l).symm
  rw [e, List.count_append]
  have a : 0 < (l.take j).count x := List.count_pos_iff.2 (List.mem_iff_getElem.2 ⟨i, by simp; omega, by simpa using h1⟩)
  have b : 0 < (l.drop j).count x := List.count_pos_iff.2 (List.mem_iff_getElem.2 ⟨0, by simp; omega, by simpa using h2⟩)
  omega
theorem KInv.inj {adj : Nat → Nat → Bool} {R : Nat} {P : List Nat} {o : List Int} (h : KInv adj R P o) {i j : Nat} (hi : i < R) (hj : j < R) (h0 : 0 ≤ o.getD i 0) (e : o.getD i 0 = o.getD j 0) : i = j := by
  have hl := h.len
  have gi : o.getD i 0 = o[i]'(by omega) := by simp [show i < o.length by omega]
  have gj : o.getD j 0 = o[j]'(by omega) := by simp [show j < o.length by omega]
  have hc := h.cnt (o.getD i 0).toNat
  rw [show (((o.getD i 0).toNat : Nat) : Int) = o.getD i 0 by omega] at hc
  rcases Nat.lt_trichotomy i j with h1 | h1 | h1
  · have := count_two (x := o.getD i 0) h1 (by omega) gi.symm (by rw [e, gj])
    split at hc <;> omega
  · exact h1
  · have := count_two (x := o.getD i 0) h1 (by omega) (by rw [e, gj]) gi.symm
    split at hc <;> omega
theorem KInv.mt {adj : Nat → Nat → Bool} {R : Nat} {P : List Nat} {o : List Int} (h : KInv adj R P o) : Mt adj R P := by
  have hl := h.len
  have key : ∀ k ∈ P, ∃ hk : o.idxOf (k : Int) < o.length, o[o.idxOf (k : Int)] = (k : Int) := fun k hk => by
    have hc := h.cnt k
    rw [if_pos hk] at hc
    have hm : (k : Int) ∈ o := List.count_pos_iff.1 (by omega)
    have h1 := List.idxOf_lt_length_iff.2 hm
    exact ⟨h1, List.getElem_idxOf h1⟩
  refine ⟨fun k => o.idxOf (k : Int), fun k hk => ?_, fun k hk k' hk' e => ?_⟩
  · obtain ⟨h1, h2⟩ := key k hk
    have g : o.getD (o.idxOf (k : Int)) 0 = (k : Int) := by simp [h1, h2]
    have := h.adj (o.idxOf (k : Int)) (by omega) (by rw [g]; omega)
    rw [g] at this
    exact ⟨show o.idxOf (k : Int) < R by omega, by simpa using this⟩
  · obtain ⟨h1, h2⟩ := key k hk
    obtain ⟨h3, h4⟩ := key k' hk'
    have e : o.idxOf (k : Int) = o.idxOf (k' : Int) := e
    have : o[o.idxOf (k : Int)] = o[o.idxOf (k' : Int)] := by congr 1
    rw [h2, h4] at this
    omega
theorem fls_rep (R : Nat) : fls (List.replicate R false) = R := by simp [fls]
theorem kAll_inv {adj : Nat → Nat → Bool} {R : Nat} : ∀ (ks P : List Nat) (o : List Int), KInv adj R P o → (P ++ ks).Nodup → (kAll adj R ks o = true → ∃ o', KInv adj R (P ++ ks) o') ∧ (kAll adj R ks o = false → Vi adj R (P ++ ks))
  | [], P, o, h, hn => ⟨fun _ => ⟨o, by simpa using h⟩, fun h => by simp [kAll] at h⟩
  | k :: ks, P, o, h, hn => by
    have hl := h.len
    obtain ⟨a, b⟩ := kt_spec adj R (R + 1) k (o, List.replicate R false) ⟨hl, by simp⟩ (by simp only [fls_rep]; omega)
    rw [kAll]
    have hkP : k ∉ P := fun hm => (List.nodup_append.1 hn).2.2 k hm k (List.mem_cons_self ..) rfl
    generalize kt adj R (R + 1) k (o, List.replicate R false) = G at *
    obtain ⟨r, s⟩ := G
    cases r with
    | true =>
      obtain ⟨q1, q2, q3, q4⟩ := a rfl
      simp only at q2 q3 q4
      have hI : KInv adj R (P ++ [k]) s.1 := by
        refine ⟨q1.1, fun j hj h0 => ?_, fun x => ?_⟩
        · rcases q4 j hj h0 with e | e
          · rw [e] at h0 ⊢
            exact h.adj j hj h0
          · exact e
        · rw [q3 x, h.cnt x]
          by_cases hx : x = k
          · subst hx; simp [hkP]
          · simp [hx]
      have := kAll_inv ks (P ++ [k]) s.1 hI (by simpa using hn)
      simpa using this
    | false =>
      refine ⟨fun h => by simp at h, fun _ => ?_⟩
      obtain ⟨q, q5, _⟩ := b rfl
      have hsame := q.same
      have hrep : ∀ j, j < R → (List.replicate R false).getD j true = false := fun j hj => by simp [hj]
      have hclo : ∀ j, j < R → s.2.getD j true = true → 0 ≤ o.getD j 0 ∧ ∀ i, i < R → adj (o.getD j 0).toNat i = true → s.2.getD i true = true := fun j hj ht => by
        rcases q.clo j hj ht with h1 | h1
        · simp only at h1
          rw [hrep j hj] at h1; cases h1
        · exact h1
      have hT : ∀ j, j ∈ (List.range R).filter (fun j => s.2.getD j true) ↔ j < R ∧ s.2.getD j true = true := fun j => by
        rw [List.mem_filter, List.mem_range]
      have hown : ∀ j, j < R → s.2.getD j true = true → (o.getD j 0).toNat ∈ P := fun j hj ht => by
        obtain ⟨h0, _⟩ := hclo j hj ht
        have hc := h.cnt (o.getD j 0).toNat
        rw [show (((o.getD j 0).toNat : Nat) : Int) = o.getD j 0 by omega] at hc
        have hm : o.getD j 0 ∈ o := by
          rw [show o.getD j 0 = o[j]'(by omega) by simp [show j < o.length by omega]]
          exact List.getElem_mem _
        have := List.count_pos_iff.2 hm
        exact Classical.byContradiction fun hno => by rw [if_neg hno] at hc; omega
      refine ⟨k :: ((List.range R).filter fun j => s.2.getD j true).map fun j => (o.getD j 0).toNat, (List.range R).filter fun j => s.2.getD j true, ?_, ?_, ?_, by simp⟩
      · rw [List.nodup_cons]
        constructor
        · intro hm
          obtain ⟨j, hj, e⟩ := List.mem_map.1 hm
          obtain ⟨hj1, hj2⟩ := (hT j).1 hj
          have := hown j hj1 hj2
          rw [e] at this
          exact hkP this
        · have hnd : ((List.range R).filter fun j => s.2.getD j true).Nodup := List.nodup_range.filter _
          rw [List.nodup_iff_pairwise_ne] at hnd ⊢
          rw [List.pairwise_map]
          refine List.Pairwise.imp_of_mem (fun {i j} hi hj hne e => hne ?_) hnd
          obtain ⟨hi1, hi2⟩ := (hT i).1 hi
          obtain ⟨hj1, hj2⟩ := (hT j).1 hj
          have a1 := (hclo i hi1 hi2).1
          have a2 := (hclo j hj1 hj2).1
          exact h.inj hi1 hj1 a1 (by omega)
      · intro x hx
        rcases List.mem_cons.1 hx with rfl | hx
        · exact List.mem_append_right _ (List.mem_cons_self ..)
        · obtain ⟨j, hj, rfl⟩ := List.mem_map.1 hx
          obtain ⟨hj1, hj2⟩ := (hT j).1 hj
          exact List.mem_append_left _ (hown j hj1 hj2)
      · intro x hx i hi ha
        rw [hT]
        refine ⟨hi, ?_⟩
        rcases List.mem_cons.1 hx with rfl | hx
        · exact q5 i hi ha
        · obtain ⟨j, hj, rfl⟩ := List.mem_map.1 hx
          obtain ⟨hj1, hj2⟩ := (hT j).1 hj
          exact (hclo j hj1 hj2).2 i hi ha
theorem kAll_iff {adj : Nat → Nat → Bool} {R : Nat} {ks : List Nat} (hn : ks.Nodup) : kAll adj R ks (List.replicate R (-1)) = true ↔ Mt adj R ks := by
  obtain ⟨a, b⟩ := kAll_inv (adj := adj) ks [] _ (KInv.nil adj R) (by simpa using hn)
  simp only [List.nil_append] at a b
  constructor
  · intro h
    obtain ⟨o, ho⟩ := a h
    exact ho.mt
  · intro h
    cases hk : kAll adj R ks (List.replicate R (-1)) with
    | true => rfl
    | false => exact absurd (b hk) h.no
theorem kAll_vi {adj : Nat → Nat → Bool} {R : Nat} {ks : List Nat} (hn : ks.Nodup) (h : ¬ Mt adj R ks) : Vi adj R ks := by
  obtain ⟨a, b⟩ := kAll_inv (adj := adj) ks [] _ (KInv.nil adj R) (by simpa using hn)
  simp only [List.nil_append] at a b
  cases hk : kAll adj R ks (List.replicate R (-1)) with
  | true => exact absurd ((kAll_iff hn).1 hk) h
  | false => exact b hk
/-- Bars, or none: places behind the bars stand for none. -/
def aug (A B : Nat) (c : Nat → Nat → Bool) (la lb : Nat → Bool) (i j : Nat) : Bool := if i < A then (if j < B then c i j else !la i) else (if j < B then !lb j else true)
theorem aug_mt (A B : Nat) (c : Nat → Nat → Bool) (la lb : Nat → Bool) : Mt (aug A B c la lb) (A + B) (List.range (A + B)) ↔ Mt c B ((List.range A).filter la) ∧ Mt (fun k i => c i k) A ((List.range B).filter lb) := by
  constructor
  · rintro ⟨f, h1, h2⟩
    have h1' : ∀ k, k < A + B → f k < A + B ∧ aug A B c la lb k (f k) = true := fun k hk => h1 k (List.mem_range.2 hk)
    have h2' : ∀ k k', k < A + B → k' < A + B → f k = f k' → k = k' := fun k k' hk hk' => h2 k (List.mem_range.2 hk) k' (List.mem_range.2 hk')
    have sur : ∀ j, j < A + B → ∃ i, i < A + B ∧ f i = j := fun j hj => Classical.byContradiction fun hno => by
      have := pig (f := f) (L := List.range (A + B)) (T := (List.range (A + B)).erase j) List.nodup_range (fun a ha => by
        refine (List.mem_erase_of_ne fun e => hno ⟨a, List.mem_range.1 ha, e⟩).2 (List.mem_range.2 (h1 a ha).1)) h2
      rw [List.length_erase_of_mem (List.mem_range.2 hj), List.length_range] at this
      omega
    have hA : ∀ i, i < A → la i = true → f i < B ∧ c i (f i) = true := fun i hi hl => by
      have := (h1' i (by omega)).2
      unfold aug at this
      rw [if_pos hi] at this
      split at this
      · exact ⟨by assumption, this⟩
      · rw [hl] at this; cases this
    refine ⟨⟨f, fun k hk => ?_, fun k hk k' hk' e => ?_⟩, ?_⟩
    · obtain ⟨a, b⟩ := List.mem_filter.1 hk
      exact hA k (List.mem_range.1 a) b
    · have a := List.mem_range.1 (List.mem_filter.1 hk).1
      have a' := List.mem_range.1 (List.mem_filter.1 hk').1
      exact h2' k k' (by omega) (by omega) e
    · have sur' : ∀ j, ∃ i, j < A + B → i < A + B ∧ f i = j := fun j => by
        by_cases hj : j < A + B
        · obtain ⟨i, hi⟩ := sur j hj
          exact ⟨i, fun _ => hi⟩
        · exact ⟨0, fun h => absurd h hj⟩
      obtain ⟨g, hg⟩ := Classical.axiomOfChoice sur'
      refine ⟨g, fun k hk => ?_, fun k hk k' hk' e => ?_⟩
      · obtain ⟨a, b⟩ := List.mem_filter.1 hk
        have a := List.mem_range.1 a
        obtain ⟨g1, g2⟩ := hg k (by omega)
        have := (h1' (g k) g1).2
        unfold aug at this
        rw [g2] at this
        by_cases hgA : g k < A
        · rw [if_pos hgA, if_pos a] at this
          exact ⟨hgA, this⟩
        · rw [if_neg hgA, if_pos a, b] at this
          cases this
      · have a := List.mem_range.1 (List.mem_filter.1 hk).1
        have a' := List.mem_range.1 (List.mem_filter.1 hk').1
        have e : g k = g k' := e
        rw [← (hg k (by omega)).2, ← (hg k' (by omega)).2, e]
  · rintro ⟨⟨f, f1, f2⟩, ⟨g, g1, g2⟩⟩
    refine Classical.byContradiction fun hno => ?_
    obtain ⟨L, T, h1, h2, h3, h4⟩ := kAll_vi List.nodup_range hno
    have hL : ∀ i ∈ L, i < A + B := fun i hi => List.mem_range.1 (h2 i hi)
    by_cases hall : ∀ i ∈ L, i < A ∧ la i = true
    · have := pig (f := f) (T := T) h1 (fun i hi => by
        obtain ⟨a, b⟩ := hall i hi
        obtain ⟨p, q⟩ := f1 i (List.mem_filter.2 ⟨List.mem_range.2 a, b⟩)
        refine h3 i hi _ (by omega) ?_
        unfold aug
        rw [if_pos a, if_pos p]
        exact q) fun i hi i' hi' => by
          obtain ⟨a, b⟩ := hall i hi
          obtain ⟨a', b'⟩ := hall i' hi'
          exact f2 i (List.mem_filter.2 ⟨List.mem_range.2 a, b⟩) i' (List.mem_filter.2 ⟨List.mem_range.2 a', b'⟩)
      omega
    · have hex : ∃ i ∈ L, ¬ (i < A ∧ la i = true) := Classical.byContradiction fun h => hall fun i hi => Classical.byContradiction fun h' => h ⟨i, hi, h'⟩
      obtain ⟨i0, hi0, hn0⟩ := hex
      have hdum : ∀ j, j < A → B + j ∈ T := fun j hj => by
        refine h3 i0 hi0 _ (by omega) ?_
        unfold aug
        split
        · rename_i h
          rw [if_neg (by omega)]
          cases hl : la i0 with
          | true => exact absurd ⟨h, hl⟩ hn0
          | false => rfl
        · rw [if_neg (by omega)]
      have hsh : ∀ i ∈ L, ¬ i < A → ∀ j, j < B → lb j = false → j ∈ T := fun i hi hA j hj hl => by
        refine h3 i hi _ (by omega) ?_
        unfold aug
        rw [if_neg hA, if_pos hj, hl]; rfl
      have hlong : ∀ j, j < B → j ∉ T → ∀ i ∈ L, ¬ i < A → lb j = true := fun j hj hjT i hi hA => by
        cases hl : lb j with
        | true => rfl
        | false => exact absurd (hsh i hi hA j hj hl) hjT
      have hgL : ∀ j, j < B → j ∉ T → lb j = true → g j < A ∧ g j ∉ L := fun j hj hjT hl => by
        obtain ⟨p, q⟩ := g1 j (List.mem_filter.2 ⟨List.mem_range.2 hj, hl⟩)
        refine ⟨p, fun hm => hjT (h3 _ hm j (by omega) ?_)⟩
        unfold aug
        rw [if_pos p, if_pos hj]
        exact q
      have := pig (f := fun i => if i < A then B + i else if i - A ∈ T then i - A else B + g (i - A)) (L := L) (T := T) h1 (fun i hi => by
        have := hL i hi
        split
        · exact hdum i (by assumption)
        · split
          · assumption
          · rename_i hA hT
            exact hdum _ (hgL (i - A) (by omega) hT (hlong _ (by omega) hT i hi hA)).1) fun i hi i' hi' e => by
          have b1 := hL i hi
          have b2 := hL i' hi'
          by_cases a1 : i < A
          · rw [if_pos a1] at e
            by_cases a2 : i' < A
            · rw [if_pos a2] at e; omega
            · rw [if_neg a2] at e
              by_cases t2 : i' - A ∈ T
              · rw [if_pos t2] at e; omega
              · rw [if_neg t2] at e
                have := hgL (i' - A) (by omega) t2 (hlong _ (by omega) t2 i' hi' a2)
                have e2 : i = g (i' - A) := by omega
                rw [e2] at hi
                exact absurd hi this.2
          · rw [if_neg a1] at e
            by_cases t1 : i - A ∈ T
            · rw [if_pos t1] at e
              by_cases a2 : i' < A
              · rw [if_pos a2] at e; omega
              · rw [if_neg a2] at e
                by_cases t2 : i' - A ∈ T
                · rw [if_pos t2] at e; omega
                · rw [if_neg t2] at e; omega
            · rw [if_neg t1] at e
              have q1 := hlong (i - A) (by omega) t1 i hi a1
              by_cases a2 : i' < A
              · rw [if_pos a2] at e
                have := hgL (i - A) (by omega) t1 q1
                have e2 : i' = g (i - A) := by omega
                rw [e2] at hi'
                exact absurd hi' this.2
              · rw [if_neg a2] at e
                by_cases t2 : i' - A ∈ T
                · rw [if_pos t2] at e; omega
                · rw [if_neg t2] at e
                  have q2 := hlong (i' - A) (by omega) t2 i' hi' a2
                  have := g2 (i - A) (List.mem_filter.2 ⟨List.mem_range.2 (by omega), q1⟩) (i' - A) (List.mem_filter.2 ⟨List.mem_range.2 (by omega), q2⟩) (by omega)
                  omega
      omega
end Go.AG
