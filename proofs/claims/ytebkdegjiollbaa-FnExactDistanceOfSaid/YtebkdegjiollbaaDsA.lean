/- Matchings by augmenting paths, as plain data. No statement is made here. -/
import Derived.Test.YtebkdegjiollbaaAGInts
namespace Go.AG
set_option linter.unusedSimpArgs false
set_option linter.unusedVariables false
set_option maxRecDepth 4000
/-- Owners of the partners (or -1), and those that have been tried. -/
abbrev KS := List Int × List Bool
def kLoop (adj : Nat → Nat → Bool) (rec : Nat → KS → Bool × KS) (k : Nat) : List Nat → KS → Bool × KS
  | [], s => (false, s)
  | j :: js, s => if s.2.getD j true = true ∨ adj k j = false then kLoop adj rec k js s else
    if s.1.getD j 0 < 0 then (true, (s.1.set j k, s.2.set j true)) else
      match rec (s.1.getD j 0).toNat (s.1, s.2.set j true) with
      | (true, s2) => (true, (s2.1.set j k, s2.2))
      | (false, s2) => kLoop adj rec k js s2
def kt (adj : Nat → Nat → Bool) (R : Nat) : Nat → Nat → KS → Bool × KS
  | 0, _, s => (false, s)
  | n + 1, k, s => kLoop adj (kt adj R n) k (List.range R) s
theorem kLoop_skip {adj : Nat → Nat → Bool} {rec : Nat → KS → Bool × KS} {k j : Nat} {js : List Nat} {s : KS} (h : s.2.getD j true = true ∨ adj k j = false) : kLoop adj rec k (j :: js) s = kLoop adj rec k js s := by
  rw [kLoop, if_pos h]
theorem kLoop_free {adj : Nat → Nat → Bool} {rec : Nat → KS → Bool × KS} {k j : Nat} {js : List Nat} {s : KS} (h : ¬ (s.2.getD j true = true ∨ adj k j = false)) (h2 : s.1.getD j 0 < 0) : kLoop adj rec k (j :: js) s = (true, (s.1.set j k, s.2.set j true)) := by
  rw [kLoop, if_neg h, if_pos h2]
theorem kLoop_go {adj : Nat → Nat → Bool} {rec : Nat → KS → Bool × KS} {k j : Nat} {js : List Nat} {s : KS} (h : ¬ (s.2.getD j true = true ∨ adj k j = false)) (h2 : ¬ s.1.getD j 0 < 0) : kLoop adj rec k (j :: js) s =
    match rec (s.1.getD j 0).toNat (s.1, s.2.set j true) with
      | (true, s2) => (true, (s2.1.set j k, s2.2))
      | (false, s2) => kLoop adj rec k js s2 := by
  rw [kLoop, if_neg h, if_neg h2]
theorem count_set (x a : Int) : ∀ (l : List Int) (j : Nat), j < l.length → (l.set j a).count x + (if l.getD j 0 = x then 1 else 0) = l.count x + (if a = x then 1 else 0)
  | [], j, h => by simp at h
  | b :: l, 0, h => by
    simp only [List.set_cons_zero, List.count_cons, List.getD_cons_zero, beq_iff_eq]
    omega
  | b :: l, j + 1, h => by
    have := count_set x a l j (by simpa using h)
    simp only [List.set_cons_succ, List.count_cons, List.getD_cons_succ]
    omega
theorem getD_set {α : Type} (l : List α) (j i : Nat) (a d : α) (h : j < l.length) : (l.set j a).getD i d = if i = j then a else l.getD i d := by
  by_cases e : i = j
  · subst e; simp [h]
  · rw [if_neg e]
    simp only [List.getD_eq_getElem?_getD]
    rw [List.getElem?_set_ne (fun h => e h.symm)]
/-- What a state must be. -/
def KS.ok (R : Nat) (s : KS) : Prop := s.1.length = R ∧ s.2.length = R
/-- A search that finds something. -/
structure KSucc (adj : Nat → Nat → Bool) (R k : Nat) (s s' : KS) : Prop where
  ok : s'.ok R
  keep : ∀ j, s.2.getD j true = true → s'.1.getD j 0 = s.1.getD j 0
  cnt : ∀ x : Nat, s'.1.count (x : Int) = s.1.count (x : Int) + if x = k then 1 else 0
  adj : ∀ j, j < R → 0 ≤ s'.1.getD j 0 → s'.1.getD j 0 = s.1.getD j 0 ∨ adj (s'.1.getD j 0).toNat j = true
/-- A search that finds nothing. -/
structure KFail (adj : Nat → Nat → Bool) (R : Nat) (s s' : KS) : Prop where
  ok : s'.ok R
  same : s'.1 = s.1
  more : ∀ j, s.2.getD j true = true → s'.2.getD j true = true
  clo : ∀ j, j < R → s'.2.getD j true = true → s.2.getD j true = true ∨ (0 ≤ s.1.getD j 0 ∧ ∀ i, i < R → adj (s.1.getD j 0).toNat i = true → s'.2.getD i true = true)
def fls (l : List Bool) : Nat := l.count false
theorem fls_set : ∀ (l : List Bool) (j : Nat), l.getD j true = false → fls (l.set j true) + 1 = fls l
  | [], j, h => by simp at h
  | b :: l, 0, h => by
    simp only [List.getD_cons_zero] at h
    subst h
    simp [fls]
  | b :: l, j + 1, h => by
    have := fls_set l j (by simpa using h)
    simp only [fls, List.set_cons_succ, List.count_cons] at this ⊢
    omega
theorem kLoop_spec {adj : Nat → Nat → Bool} {R k n : Nat} {rec : Nat → KS → Bool × KS}
    (hrec : ∀ k (s : KS), s.ok R → fls s.2 < n → ((rec k s).1 = true → KSucc adj R k s (rec k s).2) ∧ ((rec k s).1 = false → KFail adj R s (rec k s).2 ∧ (∀ i, i < R → adj k i = true → (rec k s).2.2.getD i true = true) ∧ fls (rec k s).2.2 ≤ fls s.2)) :
    ∀ (js : List Nat) (s : KS), (∀ j ∈ js, j < R) → s.ok R → fls s.2 ≤ n → ((kLoop adj rec k js s).1 = true → KSucc adj R k s (kLoop adj rec k js s).2) ∧
      ((kLoop adj rec k js s).1 = false → KFail adj R s (kLoop adj rec k js s).2 ∧ (∀ i ∈ js, adj k i = true → (kLoop adj rec k js s).2.2.getD i true = true) ∧ fls (kLoop adj rec k js s).2.2 ≤ fls s.2)
  | [], s, hj, hok, hn => ⟨fun h => by simp [kLoop] at h, fun _ => ⟨⟨hok, rfl, fun _ h => h, fun j _ h => .inl h⟩, by simp, Nat.le_refl _⟩⟩
  | j :: js, s, hj, hok, hn => by
    have hjR := hj j (List.mem_cons_self ..)
    by_cases h1 : s.2.getD j true = true ∨ adj k j = false
    · rw [kLoop_skip h1]
      obtain ⟨a, b⟩ := kLoop_spec hrec js s (fun i hi => hj i (List.mem_cons_of_mem _ hi)) hok hn
      refine ⟨a, fun h => ?_⟩
      obtain ⟨f, c, d⟩ := b h
      refine ⟨f, fun i hi hadj => ?_, d⟩
      rcases List.mem_cons.1 hi with rfl | hi
      · rcases h1 with h1 | h1
        · exact f.more _ h1
        · rw [h1] at hadj; cases hadj
      · exact c i hi hadj
    · have h1' := not_or.1 h1
      have hjf : s.2.getD j true = false := by simpa using h1'.1
      have hja : adj k j = true := by simpa using h1'.2
      have hl1 := hok.1
      have hl2 := hok.2
      by_cases h2 : s.1.getD j 0 < 0
      · rw [kLoop_free h1 h2]
        refine ⟨fun _ => ⟨⟨by simp [hl1], by simp [hl2]⟩, fun i hi => ?_, fun x => ?_, fun i hiR h0 => ?_⟩, fun h => by cases h⟩
        · simp only
          rw [getD_set _ _ _ _ _ (by omega), if_neg (fun e => by subst e; rw [hjf] at hi; cases hi)]
        · have := count_set (x : Int) (k : Int) s.1 j (by omega)
          rw [if_neg (by omega)] at this
          simp only
          have e : ((k : Int) = (x : Int)) ↔ x = k := by omega
          simp only [e] at this
          omega
        · simp only at h0 ⊢
          rw [getD_set _ _ _ _ _ (by omega)] at h0 ⊢
          split
          · rename_i e; subst e; exact .inr (by simpa using hja)
          · exact .inl rfl
      · rw [kLoop_go h1 h2]
        have hf := fls_set s.2 j hjf
        have hok' : KS.ok R (s.1, s.2.set j true) := ⟨hl1, by simp [hl2]⟩
        obtain ⟨a, b⟩ := hrec (s.1.getD j 0).toNat (s.1, s.2.set j true) hok' (by simp only; omega)
        generalize rec (s.1.getD j 0).toNat (s.1, s.2.set j true) = G at *
        obtain ⟨r, s2⟩ := G
        have hset : ∀ i, s.2.getD i true = true → (s.2.set j true).getD i true = true := fun i hi => by
          rw [getD_set _ _ _ _ _ (by omega)]; split <;> simp_all
        cases r with
        | true =>
          obtain ⟨q1, q2, q3, q4⟩ := a rfl
          simp only at q2 q3 q4
          have hjt : (s.2.set j true).getD j true = true := by rw [getD_set _ _ _ _ _ (by omega)]; simp
          have hj2 := q2 j hjt
          have hs2 : s2.1.length = R := q1.1
          refine ⟨fun _ => ⟨⟨by simp [hs2], q1.2⟩, fun i hi => ?_, fun x => ?_, fun i hiR h0 => ?_⟩, fun h => by cases h⟩
          · simp only
            rw [getD_set _ _ _ _ _ (by omega), if_neg (fun e => by subst e; rw [hjf] at hi; cases hi)]
            exact q2 i (hset i hi)
          · have := count_set (x : Int) (k : Int) s2.1 j (by omega)
            have q := q3 x
            rw [hj2] at this
            simp only
            have e : ((k : Int) = (x : Int)) ↔ x = k := by omega
            have e2 : (s.1.getD j 0 = (x : Int)) ↔ x = (s.1.getD j 0).toNat := by omega
            simp only [e, e2] at this
            omega
          · simp only at h0 ⊢
            rw [getD_set _ _ _ _ _ (by omega)] at h0 ⊢
            split
            · rename_i e; subst e; exact .inr (by simpa using hja)
            · rename_i e
              rw [if_neg e] at h0
              exact q4 i hiR h0
        | false =>
          obtain ⟨q, q5, q6⟩ := b rfl
          simp only at q q5 q6
          have hs2 := q.same
          simp only at hs2
          obtain ⟨a2, b2⟩ := kLoop_spec hrec js s2 (fun i hi => hj i (List.mem_cons_of_mem _ hi)) q.ok (by omega)
          refine ⟨fun h => ?_, fun h => ?_⟩
          · obtain ⟨w1, w2, w3, w4⟩ := a2 h
            rw [hs2] at w2 w3 w4
            exact ⟨w1, fun i hi => w2 i (q.more i (hset i hi)), w3, w4⟩
          · obtain ⟨f, c, d⟩ := b2 h
            refine ⟨⟨f.ok, f.same.trans hs2, fun i hi => f.more i (q.more i (hset i hi)), fun i hiR hi => ?_⟩, fun i hi hadj => ?_, show fls (kLoop adj rec k js s2).2.2 ≤ fls s.2 by omega⟩
            · rcases f.clo i hiR hi with h3 | h3
              · rcases q.clo i hiR h3 with h4 | h4
                · simp only at h4
                  rw [getD_set _ _ _ _ _ (by omega)] at h4
                  split at h4
                  · rename_i e
                    subst e
                    exact .inr ⟨by omega, fun i' hi' ha => f.more _ (q5 i' hi' ha)⟩
                  · exact .inl h4
                · exact .inr ⟨h4.1, fun i' hi' ha => f.more _ (h4.2 i' hi' ha)⟩
              · rw [hs2] at h3
                exact .inr h3
            · rcases List.mem_cons.1 hi with rfl | hi
              · exact f.more _ (q.more _ (by simp only; rw [getD_set _ _ _ _ _ (by omega)]; simp))
              · exact c i hi hadj
theorem kt_spec (adj : Nat → Nat → Bool) (R : Nat) : ∀ (n k : Nat) (s : KS), s.ok R → fls s.2 < n → ((kt adj R n k s).1 = true → KSucc adj R k s (kt adj R n k s).2) ∧ ((kt adj R n k s).1 = false → KFail adj R s (kt adj R n k s).2 ∧ (∀ i, i < R → adj k i = true → (kt adj R n k s).2.2.getD i true = true) ∧ fls (kt adj R n k s).2.2 ≤ fls s.2)
  | 0, k, s, hok, hn => by omega
  | n + 1, k, s, hok, hn => by
    obtain ⟨a, b⟩ := kLoop_spec (k := k) (fun k s => kt_spec adj R n k s) (List.range R) s (fun j hj => List.mem_range.1 hj) hok (by omega)
    refine ⟨a, fun h => ?_⟩
    obtain ⟨c, d, e⟩ := b h
    exact ⟨c, fun i hi => d i (List.mem_range.2 hi), e⟩
end Go.AG
