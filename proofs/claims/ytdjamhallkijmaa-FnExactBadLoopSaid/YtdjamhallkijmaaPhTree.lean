/- Simple paths along a forest are unique. Plain; no statement is made here. -/
import Derived.Test.YtdjamhallkijmaaPhPotI
namespace Go.AG
open Go.Proofs Go.Proofs.Ytdjamhallkijmaa
set_option linter.unusedSimpArgs false
set_option linter.unusedVariables false
/-- Each step of a list is of R. -/
def Ch (R : Int → Int → Prop) : List Int → Prop
  | [] => True
  | a :: l => (∀ b, l.head? = some b → R a b) ∧ Ch R l
theorem Ch.mono {R S : Int → Int → Prop} (h : ∀ a b, R a b → S a b) : ∀ {l : List Int}, Ch R l → Ch S l
  | [], _ => trivial
  | a :: l, ⟨h1, h2⟩ => ⟨fun b hb => h _ _ (h1 b hb), h2.mono h⟩
theorem Ch_app {R : Int → Int → Prop} {a : Int} {m : List Int} : ∀ {l : List Int}, Ch R (l ++ a :: m) ↔ Ch R (l ++ [a]) ∧ Ch R (a :: m)
  | [] => by simp [Ch]
  | c :: l => by
    have hd : (l ++ a :: m).head? = (l ++ [a]).head? := by cases l <;> rfl
    simp only [List.cons_append, Ch, hd, and_assoc]
    rw [Ch_app (l := l)]
    simp [Ch]
theorem Ch_rev {R : Int → Int → Prop} (sy : ∀ a b, R a b → R b a) : ∀ {l : List Int}, Ch R l → Ch R l.reverse
  | [], _ => trivial
  | [a], _ => by simp [Ch]
  | a :: b :: l, ⟨h1, h2⟩ => by
    have h3 := Ch_rev sy h2
    simp only [List.reverse_cons, List.append_assoc, List.cons_append, List.nil_append] at h3 ⊢
    rw [Ch_app]
    exact ⟨h3, by simp only [Ch]; exact ⟨fun c hc => by simp at hc; subst hc; exact sy _ _ (h1 _ rfl), by simp⟩⟩
theorem Ch_lab {R : Int → Int → Prop} {L : Int → Int} (h : ∀ a b, R a b → L a = L b) : ∀ {l : List Int} {u v : Int}, Ch R l → l.head? = some u → l.getLast? = some v → L u = L v
  | [a], u, v, _, h1, h2 => by simp at h1 h2; subst h1; subst h2; rfl
  | a :: b :: l, u, v, ⟨c1, c2⟩, h1, h2 => by
    simp at h1; subst h1
    exact (h _ _ (c1 b rfl)).trans (Ch_lab h c2 rfl (by simpa [List.getLast?_cons_cons] using h2))
structure SP (R : Int → Int → Prop) (u v : Int) (p : List Int) : Prop where
  ch : Ch R p
  nd : p.Nodup
  hd : p.head? = some u
  la : p.getLast? = some v
theorem SP.one {R : Int → Int → Prop} (u : Int) : SP R u u [u] := ⟨by simp [Ch], by simp, rfl, rfl⟩
theorem SP.ne {R : Int → Int → Prop} {u v : Int} {p : List Int} (h : SP R u v p) : p ≠ [] := fun e => by have := h.hd; rw [e] at this; cases this
theorem SP.snoc {R : Int → Int → Prop} {u v w : Int} {p : List Int} (h : SP R u v p) (r : R v w) (hw : w ∉ p) : SP R u w (p ++ [w]) := by
  obtain ⟨q, e⟩ : ∃ q, p = q ++ [v] := by
    have := h.la
    obtain ⟨q, e⟩ := List.getLast?_eq_some_iff.1 this
    exact ⟨q, e⟩
  refine ⟨?_, ?_, ?_, by simp⟩
  · have := h.ch
    rw [e] at this ⊢
    simp only [List.append_assoc, List.cons_append, List.nil_append]
    rw [Ch_app]
    exact ⟨this, by simp [Ch]; exact r⟩
  · rw [List.nodup_append]
    exact ⟨h.nd, by simp, fun a ha b hb => by simp at hb; subst hb; rintro rfl; exact hw ha⟩
  · rw [List.head?_append, h.hd]; rfl
/-- A path that may take one more edge takes it once at most. -/
theorem split_edge {R : Int → Int → Prop} {a b : Int} : ∀ {p : List Int}, Ch (fun u v => R u v ∨ (u = a ∧ v = b) ∨ (u = b ∧ v = a)) p → p.Nodup →
    Ch R p ∨ (∃ l m, p = l ++ a :: b :: m ∧ Ch R (l ++ [a]) ∧ Ch R (b :: m)) ∨ (∃ l m, p = l ++ b :: a :: m ∧ Ch R (l ++ [b]) ∧ Ch R (a :: m))
  | [], _, _ => .inl trivial
  | [c], _, _ => .inl (by simp [Ch])
  | c :: d :: l, ⟨h1, h2⟩, nd => by
    have ih := split_edge h2 (List.nodup_cons.1 nd).2
    have hc := (List.nodup_cons.1 nd).1
    rcases h1 d rfl with e | ⟨rfl, rfl⟩ | ⟨rfl, rfl⟩
    · have key : ∀ (k m : List Int) (z : Int), d :: l = k ++ z :: m → Ch R (k ++ [z]) → Ch R (c :: k ++ [z]) := fun k m z hk hz => by
        refine ⟨fun b' hb' => ?_, hz⟩
        have hb' : (k ++ [z]).head? = some b' := hb'
        have : (k ++ [z]).head? = some d := by cases k <;> simp at hk ⊢ <;> simp [hk]
        rw [this] at hb'; cases hb'; exact e
      rcases ih with h | ⟨k, m, hk, h3, h4⟩ | ⟨k, m, hk, h3, h4⟩
      · exact .inl ⟨fun b' hb' => by cases hb'; exact e, h⟩
      · exact .inr (.inl ⟨c :: k, m, by rw [hk]; rfl, key k _ a hk h3, h4⟩)
      · exact .inr (.inr ⟨c :: k, m, by rw [hk]; rfl, key k _ b hk h3, h4⟩)
    · rcases ih with h | ⟨k, m, hk, _⟩ | ⟨k, m, hk, _⟩
      · exact .inr (.inl ⟨[], l, rfl, by simp [Ch], h⟩)
      · exact absurd (by rw [hk]; simp) hc
      · exact absurd (by rw [hk]; simp) hc
    · rcases ih with h | ⟨k, m, hk, _⟩ | ⟨k, m, hk, _⟩
      · exact .inr (.inr ⟨[], l, rfl, by simp [Ch], h⟩)
      · exact absurd (by rw [hk]; simp) hc
      · exact absurd (by rw [hk]; simp) hc
theorem sp_split {R : Int → Int → Prop} {L : Int → Int} (hL : ∀ a b, R a b → L a = L b) {a b u v : Int} {p : List Int} (h : SP (fun u v => R u v ∨ (u = a ∧ v = b) ∨ (u = b ∧ v = a)) u v p) :
    (SP R u v p ∧ L u = L v) ∨ (∃ l m, p = l ++ a :: b :: m ∧ SP R u a (l ++ [a]) ∧ SP R b v (b :: m) ∧ L u = L a ∧ L b = L v) ∨ (∃ l m, p = l ++ b :: a :: m ∧ SP R u b (l ++ [b]) ∧ SP R a v (a :: m) ∧ L u = L b ∧ L a = L v) := by
  have key : ∀ (c d : Int) (l m : List Int), p = l ++ c :: d :: m → Ch R (l ++ [c]) → Ch R (d :: m) → SP R u c (l ++ [c]) ∧ SP R d v (d :: m) ∧ L u = L c ∧ L d = L v := fun c d l m e h1 h2 => by
    have s1 : SP R u c (l ++ [c]) := ⟨h1, by have := h.nd; rw [e, List.append_cons, List.nodup_append] at this; exact this.1, by have := h.hd; rw [e] at this; cases l <;> simpa using this, by simp⟩
    have s2 : SP R d v (d :: m) := ⟨h2, by have := h.nd; rw [e, List.append_cons, List.nodup_append] at this; exact this.2.1, rfl, by have := h.la; rw [e, List.append_cons, List.getLast?_append] at this; cases hz : (d :: m).getLast? with | none => simp at hz | some w => rw [hz] at this; simpa using this⟩
    exact ⟨s1, s2, Ch_lab hL h1 s1.hd s1.la, Ch_lab hL h2 s2.hd s2.la⟩
  rcases split_edge h.ch h.nd with g | ⟨l, m, e, h1, h2⟩ | ⟨l, m, e, h1, h2⟩
  · exact .inl ⟨⟨g, h.nd, h.hd, h.la⟩, Ch_lab hL g h.hd h.la⟩
  · exact .inr (.inl ⟨l, m, e, key a b l m e h1 h2⟩)
  · exact .inr (.inr ⟨l, m, e, key b a l m e h1 h2⟩)
theorem sp_uniq_step {R : Int → Int → Prop} {L : Int → Int} (hL : ∀ a b, R a b → L a = L b) {a b : Int} (hab : L a ≠ L b) (ih : ∀ u v p q, SP R u v p → SP R u v q → p = q) {u v : Int} {p q : List Int}
    (hp : SP (fun u v => R u v ∨ (u = a ∧ v = b) ∨ (u = b ∧ v = a)) u v p) (hq : SP (fun u v => R u v ∨ (u = a ∧ v = b) ∨ (u = b ∧ v = a)) u v q) : p = q := by
  rcases sp_split hL hp with ⟨g1, g2⟩ | ⟨l, m, e, g1, g2, g3, g4⟩ | ⟨l, m, e, g1, g2, g3, g4⟩ <;> rcases sp_split hL hq with ⟨k1, k2⟩ | ⟨l', m', e', k1, k2, k3, k4⟩ | ⟨l', m', e', k1, k2, k3, k4⟩
  · exact ih _ _ _ _ g1 k1
  · exact absurd (by omega) hab
  · exact absurd (by omega) hab
  · exact absurd (by omega) hab
  · have h1 := ih _ _ _ _ g1 k1
    have h2 := ih _ _ _ _ g2 k2
    rw [e, e', List.append_cons, h1, h2, ← List.append_cons]
  · exact absurd (by omega) hab
  · exact absurd (by omega) hab
  · exact absurd (by omega) hab
  · have h1 := ih _ _ _ _ g1 k1
    have h2 := ih _ _ _ _ g2 k2
    rw [e, e', List.append_cons, h1, h2, ← List.append_cons]
/-- Two nodes are the ends of one of these edges. -/
def adjIn (x : Ph) (s : List Int) (u v : Int) : Prop := ∃ (j : Nat) (h : j < x.ts.length), (j : Int) ∈ s ∧ ((x.ts[j].f = u ∧ x.ts[j].t = v) ∨ (x.ts[j].f = v ∧ x.ts[j].t = u))
theorem adjIn_sym {x : Ph} {s : List Int} {u v : Int} (h : adjIn x s u v) : adjIn x s v u := by
  obtain ⟨j, hj, hm, h⟩ := h
  exact ⟨j, hj, hm, h.symm⟩
theorem uniq_at {x : Ph} (hv : x.valid) : ∀ i, i ≤ x.ts.length → ∀ u v p q, SP (adjIn x (fstate x i).2.2) u v p → SP (adjIn x (fstate x i).2.2) u v q → p = q
  | 0, _, u, v, p, q, hp, hq => by
    have one : ∀ p, SP (adjIn x (fstate x 0).2.2) u v p → p = [u] := fun p hp => by
      obtain ⟨ch, nd, hd, la⟩ := hp
      match p, ch, nd, hd, la with
      | [a], _, _, hd, _ => simpa using hd
      | a :: b :: l, ch, _, _, _ =>
        obtain ⟨j, hj, hm, _⟩ := ch.1 b rfl
        simp [fstate] at hm
    rw [one p hp, one q hq]
  | i + 1, hi, u, v, p, q, hp, hq => by
    have ih := uniq_at hv i (by omega)
    have inv := fstate_inv hv i (by omega)
    have hlt : i < x.ts.length := by omega
    have ht : x.ts.getD i default = x.ts[i] := by simp [hlt]
    rw [show fstate x (i + 1) = fstep x i (fstate x i) from rfl] at hp hq
    generalize hS : fstate x i = S at *
    obtain ⟨P, F, out⟩ := S
    simp only at ih
    by_cases hab : P.getD x.ts[i].f.toNat 0 = P.getD x.ts[i].t.toNat 0
    · have e : fstep x i (P, F, out) = (P, F, out) := by unfold fstep; simp only [ht]; rw [if_pos hab]
      rw [e] at hp hq
      exact ih _ _ _ _ hp hq
    · have e : (fstep x i (P, F, out)).2.2 = out ++ [(i : Int)] := by unfold fstep; simp only [ht]; rw [if_neg hab]
      rw [e] at hp hq
      have he : ∀ a b, adjIn x (out ++ [(i : Int)]) a b → adjIn x out a b ∨ (a = x.ts[i].f ∧ b = x.ts[i].t) ∨ (a = x.ts[i].t ∧ b = x.ts[i].f) := fun a b ⟨j, hj, hm, h⟩ => by
        rcases List.mem_append.1 hm with hm | hm
        · exact .inl ⟨j, hj, hm, h⟩
        · rw [List.mem_singleton] at hm
          obtain rfl : j = i := by omega
          rcases h with ⟨h1, h2⟩ | ⟨h1, h2⟩
          · exact .inr (.inl ⟨h1.symm, h2.symm⟩)
          · exact .inr (.inr ⟨h2.symm, h1.symm⟩)
      refine sp_uniq_step (L := fun c => P.getD c.toNat 0) (fun a b ⟨j, hj, hm, h⟩ => ?_) hab ih ⟨hp.ch.mono he, hp.nd, hp.hd, hp.la⟩ ⟨hq.ch.mono he, hq.nd, hq.hd, hq.la⟩
      have := (inv.edge j hj hm).1
      simp only at this
      rcases h with ⟨rfl, rfl⟩ | ⟨rfl, rfl⟩
      · exact this
      · exact this.symm
/-- Joined by an edge of the forest. -/
def Ph.adj (x : Ph) : Int → Int → Prop := adjIn x x.forest
theorem Ph.uniq {x : Ph} (hv : x.valid) {u v : Int} {p q : List Int} (hp : SP x.adj u v p) (hq : SP x.adj u v q) : p = q := uniq_at hv _ (Nat.le_refl _) u v p q hp hq
theorem Ph.adj_of {x : Ph} (hv : x.valid) {a b d : Int} (h : x.fgraph.step a b = some d) : x.adj a b := by
  obtain ⟨j, hj, hm, h⟩ := Ph.fg_step hv h
  rcases h with ⟨h1, h2, _⟩ | ⟨h1, h2, _⟩
  · exact ⟨j, hj, hm, .inl ⟨h1, h2⟩⟩
  · exact ⟨j, hj, hm, .inr ⟨h1, h2⟩⟩
theorem Ph.adj_in {x : Ph} (hv : x.valid) {a b : Int} (h : x.adj a b) : (0 ≤ a ∧ a < x.n) ∧ (0 ≤ b ∧ b < x.n) ∧ x.parts.getD a.toNat 0 = x.parts.getD b.toNat 0 := by
  obtain ⟨j, hj, hm, h⟩ := h
  obtain ⟨q1, q2, q3, _, _⟩ := Ph.edge hv hj
  have := ((fstate_inv hv _ (Nat.le_refl _)).edge j hj hm).1
  rw [show (fstate x x.ts.length).1 = x.parts from rfl] at this
  rcases h with ⟨rfl, rfl⟩ | ⟨rfl, rfl⟩
  · exact ⟨by omega, by omega, this⟩
  · exact ⟨by omega, by omega, this.symm⟩
theorem fsti_congr {P : List Int} {u v : Nat} (h : P.getD u 0 = P.getD v 0) : fsti P u = fsti P v := by unfold fsti; rw [h]
/-- The path of a node from the least node of its part. -/
def Ph.rooted (x : Ph) (v : Nat) (l : List Int) : Prop := SP x.adj (fsti x.parts v : Nat) v l
theorem Ph.rooted0 {x : Ph} {v : Nat} (h : fsti x.parts v = v) : x.rooted v [(v : Int)] := by unfold Ph.rooted; rw [h]; exact SP.one _
theorem Ph.rooted1 {x : Ph} (hv : x.valid) {a b : Nat} {l : List Int} {d : Int} (h : x.rooted a l) (hs : x.fgraph.step a b = some d) (hb : (b : Int) ∉ l) : x.rooted b (l ++ [(b : Int)]) := by
  have ha := Ph.adj_of hv hs
  have := (Ph.adj_in hv ha).2.2
  simp only [Int.toNat_natCast] at this
  unfold Ph.rooted at h ⊢
  rw [← fsti_congr this]
  exact h.snoc ha hb
/-- Where two lists part. -/
structure Parts (p q : List Int) (c : Nat) : Prop where
  le1 : c ≤ p.length
  le2 : c ≤ q.length
  eq : p.take c = q.take c
  stop : ¬ (c < p.length ∧ c < q.length ∧ p[c]? = q[c]?)
theorem sp_join {x : Ph} (hv : x.valid) {r a b : Int} {p q : List Int} (hp : SP x.adj r a p) (hq : SP x.adj r b q) {c : Nat} (hc : Parts p q c) : 1 ≤ c ∧ SP x.adj a b ((p.drop c).reverse ++ q.drop (c - 1)) := by
  obtain ⟨c1, c2, c3, c4⟩ := hc
  have h0 : 1 ≤ c := by
    rcases Nat.eq_zero_or_pos c with rfl | h
    · exfalso
      refine c4 ⟨List.length_pos_iff.2 hp.ne, List.length_pos_iff.2 hq.ne, ?_⟩
      rw [← List.head?_eq_getElem?, ← List.head?_eq_getElem?, hp.hd, hq.hd]
    · exact h
  refine ⟨h0, ?_⟩
  obtain ⟨k, z, hk, hkl⟩ : ∃ k z, p.take c = k ++ [z] ∧ k.length = c - 1 := by
    have hne : p.take c ≠ [] := fun e => by have := congrArg List.length e; rw [List.length_take] at this; simp only [List.length_nil] at this; omega
    refine ⟨(p.take c).dropLast, (p.take c).getLast hne, (List.dropLast_concat_getLast hne).symm, ?_⟩
    simp; omega
  have ep : p = k ++ z :: p.drop c := by
    have := List.take_append_drop c p
    rw [hk] at this; simpa using this.symm
  have eq : q = k ++ z :: q.drop c := by
    have := List.take_append_drop c q
    rw [← c3, hk] at this; simpa using this.symm
  have ed : q.drop (c - 1) = z :: q.drop c := by
    conv => lhs; rw [eq]
    rw [List.drop_append_of_le_length (by omega), ← hkl, List.drop_length]; rfl
  rw [ed]
  generalize p.drop c = p' at *
  generalize q.drop c = q' at *
  have pc : p[c]? = p'.head? := by
    rw [ep, List.getElem?_append_right (by omega), hkl, show c - (c - 1) = 1 by omega]; cases p' <;> rfl
  have qc : q[c]? = q'.head? := by
    rw [eq, List.getElem?_append_right (by omega), hkl, show c - (c - 1) = 1 by omega]; cases q' <;> rfl
  have hpz : Ch x.adj (z :: p') := by have := hp.ch; rw [ep, Ch_app] at this; exact this.2
  have hqz : Ch x.adj (z :: q') := by have := hq.ch; rw [eq, Ch_app] at this; exact this.2
  have pnd := hp.nd
  have qnd := hq.nd
  rw [ep, List.nodup_append, List.nodup_cons] at pnd
  rw [eq, List.nodup_append, List.nodup_cons] at qnd
  have hr : ∀ s : List Int, (k ++ z :: s).head? = some r := fun s => by have := hp.hd; rw [ep] at this; cases k <;> simpa using this
  refine ⟨?_, ?_, ?_, ?_⟩
  · rw [Ch_app]
    have := Ch_rev (fun a b h => adjIn_sym h) hpz
    rw [List.reverse_cons] at this
    exact ⟨this, hqz⟩
  · rw [List.nodup_append, (List.reverse_perm p').nodup_iff, List.nodup_cons]
    refine ⟨pnd.2.1.2, qnd.2.1, fun w hw w' hw' => ?_⟩
    rintro rfl
    rw [List.mem_reverse] at hw
    rcases List.mem_cons.1 hw' with rfl | hw'
    · exact pnd.2.1.1 hw
    obtain ⟨s1, t1, e1⟩ := List.append_of_mem hw
    obtain ⟨s2, t2, e2⟩ := List.append_of_mem hw'
    have g1 : SP x.adj r w (k ++ z :: (s1 ++ [w])) := by
      refine ⟨?_, ?_, hr _, by simp [List.getLast?_append, List.getLast?_cons]⟩
      · have := hp.ch
        rw [ep, e1, show k ++ z :: (s1 ++ w :: t1) = (k ++ z :: s1) ++ w :: t1 by simp, Ch_app] at this
        simpa using this.1
      · have := hp.nd
        rw [ep, e1, show k ++ z :: (s1 ++ w :: t1) = (k ++ z :: (s1 ++ [w])) ++ t1 by simp, List.nodup_append] at this
        exact this.1
    have g2 : SP x.adj r w (k ++ z :: (s2 ++ [w])) := by
      refine ⟨?_, ?_, hr _, by simp [List.getLast?_append, List.getLast?_cons]⟩
      · have := hq.ch
        rw [eq, e2, show k ++ z :: (s2 ++ w :: t2) = (k ++ z :: s2) ++ w :: t2 by simp, Ch_app] at this
        simpa using this.1
      · have := hq.nd
        rw [eq, e2, show k ++ z :: (s2 ++ w :: t2) = (k ++ z :: (s2 ++ [w])) ++ t2 by simp, List.nodup_append] at this
        exact this.1
    have := Ph.uniq hv g1 g2
    have h12 : s1 ++ [w] = s2 ++ [w] := by simpa using this
    have h3 : s1 = s2 := by simpa using h12
    refine c4 ⟨?_, ?_, ?_⟩
    · have := congrArg List.length ep; rw [e1] at this; simp at this; omega
    · have := congrArg List.length eq; rw [e2] at this; simp at this; omega
    · rw [pc, qc, e1, e2, h3]; cases s2 <;> rfl
  · have hl := hp.la
    rw [ep] at hl
    cases p' with
    | nil => simpa using hl
    | cons y p' => 
      rw [List.head?_append, List.head?_reverse]
      simp [List.getLast?_append, List.getLast?_cons_cons] at hl ⊢
      simp [hl]
  · have hl := hq.la
    rw [eq] at hl
    rw [List.getLast?_append] at hl ⊢
    simpa [List.getLast?_cons] using hl
end Go.AG
