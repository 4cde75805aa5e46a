/- The reference's path between two nodes along a forest. No statement is made here. -/
import Derived.Test.YtdjamhallkijmaaPhPotI
import Derived.Test.YtdjamhallkijmaaAGLists2
namespace Go.AG
open Go.Proofs Go.Proofs.Ytdjamhallkijmaa
set_option linter.unusedSimpArgs false
set_option linter.unusedVariables false
set_option maxRecDepth 4000
/-- Each step of a list is of R. -/
def Ch (R : Int → Int → Prop) : List Int → Prop
  | [] => True
  | a :: l => (∀ b, l.head? = some b → R a b) ∧ Ch R l
theorem Ch.mono {R S : Int → Int → Prop} (h : ∀ a b, R a b → S a b) : ∀ {l : List Int}, Ch R l → Ch S l
  | [], _ => trivial
  | a :: l, ⟨h1, h2⟩ => ⟨fun b hb => h _ _ (h1 b hb), h2.mono h⟩
theorem Ch_app {R : Int → Int → Prop} {a : Int} {m : List Int} : ∀ {l : List Int}, Ch R (l ++ a :: m) ↔ Ch R (l ++ [a]) ∧ Ch R (a :: m)
  | [] => by simp [Ch]
  | c :: l => by
    have hd : (l ++ a :: m).head? = (l ++ [a]).head? := by cases l <;> rfl
    simp only [List.cons_append, Ch, hd, and_assoc]
    rw [Ch_app (l := l)]
    simp [Ch]
theorem Ch_rev {R : Int → Int → Prop} (sy : ∀ a b, R a b → R b a) : ∀ {l : List Int}, Ch R l → Ch R l.reverse
  | [], _ => trivial
  | [a], _ => by simp [Ch]
  | a :: b :: l, ⟨h1, h2⟩ => by
    have h3 := Ch_rev sy h2
    simp only [List.reverse_cons, List.append_assoc, List.cons_append, List.nil_append] at h3 ⊢
    rw [Ch_app]
    exact ⟨h3, by simp only [Ch]; exact ⟨fun c hc => by simp at hc; subst hc; exact sy _ _ (h1 _ rfl), by simp⟩⟩
theorem Ch_lab {R : Int → Int → Prop} {L : Int → Int} (h : ∀ a b, R a b → L a = L b) : ∀ {l : List Int} {u v : Int}, Ch R l → l.head? = some u → l.getLast? = some v → L u = L v
  | [a], u, v, _, h1, h2 => by simp at h1 h2; subst h1; subst h2; rfl
  | a :: b :: l, u, v, ⟨c1, c2⟩, h1, h2 => by
    simp at h1; subst h1
    exact (h _ _ (c1 b rfl)).trans (Ch_lab h c2 rfl (by simpa [List.getLast?_cons_cons] using h2))
structure SP (R : Int → Int → Prop) (u v : Int) (p : List Int) : Prop where
  ch : Ch R p
  nd : p.Nodup
  hd : p.head? = some u
  la : p.getLast? = some v
theorem SP.one {R : Int → Int → Prop} (u : Int) : SP R u u [u] := ⟨by simp [Ch], by simp, rfl, rfl⟩
theorem SP.ne {R : Int → Int → Prop} {u v : Int} {p : List Int} (h : SP R u v p) : p ≠ [] := fun e => by have := h.hd; rw [e] at this; cases this
theorem SP.snoc {R : Int → Int → Prop} {u v w : Int} {p : List Int} (h : SP R u v p) (r : R v w) (hw : w ∉ p) : SP R u w (p ++ [w]) := by
  obtain ⟨q, e⟩ : ∃ q, p = q ++ [v] := by
    have := h.la
    obtain ⟨q, e⟩ := List.getLast?_eq_some_iff.1 this
    exact ⟨q, e⟩
  refine ⟨?_, ?_, ?_, by simp⟩
  · have := h.ch
    rw [e] at this ⊢
    simp only [List.append_assoc, List.cons_append, List.nil_append]
    rw [Ch_app]
    exact ⟨this, by simp [Ch]; exact r⟩
  · rw [List.nodup_append]
    exact ⟨h.nd, by simp, fun a ha b hb => by simp at hb; subst hb; rintro rfl; exact hw ha⟩
  · rw [List.head?_append, h.hd]; rfl
/-- A path that may take one more edge takes it once at most. -/
theorem split_edge {R : Int → Int → Prop} {a b : Int} : ∀ {p : List Int}, Ch (fun u v => R u v ∨ (u = a ∧ v = b) ∨ (u = b ∧ v = a)) p → p.Nodup →
    Ch R p ∨ (∃ l m, p = l ++ a :: b :: m ∧ Ch R (l ++ [a]) ∧ Ch R (b :: m)) ∨ (∃ l m, p = l ++ b :: a :: m ∧ Ch R (l ++ [b]) ∧ Ch R (a :: m))
  | [], _, _ => .inl trivial
  | [c], _, _ => .inl (by simp [Ch])
  | c :: d :: l, ⟨h1, h2⟩, nd => by
    have ih := split_edge h2 (List.nodup_cons.1 nd).2
    have hc := (List.nodup_cons.1 nd).1
    rcases h1 d rfl with e | ⟨rfl, rfl⟩ | ⟨rfl, rfl⟩
    · have key : ∀ (k m : List Int) (z : Int), d :: l = k ++ z :: m → Ch R (k ++ [z]) → Ch R (c :: k ++ [z]) := fun k m z hk hz => by
        refine ⟨fun b' hb' => ?_, hz⟩
        have hb' : (k ++ [z]).head? = some b' := hb'
        have : (k ++ [z]).head? = some d := by cases k <;> simp at hk ⊢ <;> simp [hk]
        rw [this] at hb'; cases hb'; exact e
      rcases ih with h | ⟨k, m, hk, h3, h4⟩ | ⟨k, m, hk, h3, h4⟩
      · exact .inl ⟨fun b' hb' => by cases hb'; exact e, h⟩
      · exact .inr (.inl ⟨c :: k, m, by rw [hk]; rfl, key k _ a hk h3, h4⟩)
      · exact .inr (.inr ⟨c :: k, m, by rw [hk]; rfl, key k _ b hk h3, h4⟩)
    · rcases ih with h | ⟨k, m, hk, _⟩ | ⟨k, m, hk, _⟩
      · exact .inr (.inl ⟨[], l, rfl, by simp [Ch], h⟩)
      · exact absurd (by rw [hk]; simp) hc
      · exact absurd (by rw [hk]; simp) hc
    · rcases ih with h | ⟨k, m, hk, _⟩ | ⟨k, m, hk, _⟩
      · exact .inr (.inr ⟨[], l, rfl, by simp [Ch], h⟩)
      · exact absurd (by rw [hk]; simp) hc
      · exact absurd (by rw [hk]; simp) hc
theorem sp_split {R : Int → Int → Prop} {L : Int → Int} (hL : ∀ a b, R a b → L a = L b) {a b u v : Int} {p : List Int} (h : SP (fun u v => R u v ∨ (u = a ∧ v = b) ∨ (u = b ∧ v = a)) u v p) :
    (SP R u v p ∧ L u = L v) ∨ (∃ l m, p = l ++ a :: b :: m ∧ SP R u a (l ++ [a]) ∧ SP R b v (b :: m) ∧ L u = L a ∧ L b = L v) ∨ (∃ l m, p = l ++ b :: a :: m ∧ SP R u b (l ++ [b]) ∧ SP R a v (a :: m) ∧ L u = L b ∧ L a = L v) := by
  have key : ∀ (c d : Int) (l m : List Int), p = l ++ c :: d :: m → Ch R (l ++ [c]) → Ch R (d :: m) → SP R u c (l ++ [c]) ∧ SP R d v (d :: m) ∧ L u = L c ∧ L d = L v := fun c d l m e h1 h2 => by
    have s1 : SP R u c (l ++ [c]) := ⟨h1, by have := h.nd; rw [e, List.append_cons, List.nodup_append] at this; exact this.1, by have := h.hd; rw [e] at this; cases l <;> simpa using this, by simp⟩
    have s2 : SP R d v (d :: m) := ⟨h2, by have := h.nd; rw [e, List.append_cons, List.nodup_append] at this; exact this.2.1, rfl, by have := h.la; rw [e, List.append_cons, List.getLast?_append] at this; cases hz : (d :: m).getLast? with | none => simp at hz | some w => rw [hz] at this; simpa using this⟩
    exact ⟨s1, s2, Ch_lab hL h1 s1.hd s1.la, Ch_lab hL h2 s2.hd s2.la⟩
  rcases split_edge h.ch h.nd with g | ⟨l, m, e, h1, h2⟩ | ⟨l, m, e, h1, h2⟩
  · exact .inl ⟨⟨g, h.nd, h.hd, h.la⟩, Ch_lab hL g h.hd h.la⟩
  · exact .inr (.inl ⟨l, m, e, key a b l m e h1 h2⟩)
  · exact .inr (.inr ⟨l, m, e, key b a l m e h1 h2⟩)
theorem sp_uniq_step {R : Int → Int → Prop} {L : Int → Int} (hL : ∀ a b, R a b → L a = L b) {a b : Int} (hab : L a ≠ L b) (ih : ∀ u v p q, SP R u v p → SP R u v q → p = q) {u v : Int} {p q : List Int}
    (hp : SP (fun u v => R u v ∨ (u = a ∧ v = b) ∨ (u = b ∧ v = a)) u v p) (hq : SP (fun u v => R u v ∨ (u = a ∧ v = b) ∨ (u = b ∧ v = a)) u v q) : p = q := by
  rcases sp_split hL hp with ⟨g1, g2⟩ | ⟨l, m, e, g1, g2, g3, g4⟩ | ⟨l, m, e, g1, g2, g3, g4⟩ <;> rcases sp_split hL hq with ⟨k1, k2⟩ | ⟨l', m', e', k1, k2, k3, k4⟩ | ⟨l', m', e', k1, k2, k3, k4⟩
  · exact ih _ _ _ _ g1 k1
  · exact absurd (by omega) hab
  · exact absurd (by omega) hab
  · exact absurd (by omega) hab
  · have h1 := ih _ _ _ _ g1 k1
    have h2 := ih _ _ _ _ g2 k2
    rw [e, e', List.append_cons, h1, h2, ← List.append_cons]
  · exact absurd (by omega) hab
  · exact absurd (by omega) hab
  · exact absurd (by omega) hab
  · have h1 := ih _ _ _ _ g1 k1
    have h2 := ih _ _ _ _ g2 k2
    rw [e, e', List.append_cons, h1, h2, ← List.append_cons]
/-- Two nodes are the ends of one of these edges. -/
def adjIn (x : Ph) (s : List Int) (u v : Int) : Prop := ∃ (j : Nat) (h : j < x.ts.length), (j : Int) ∈ s ∧ ((x.ts[j].f = u ∧ x.ts[j].t = v) ∨ (x.ts[j].f = v ∧ x.ts[j].t = u))
theorem adjIn_sym {x : Ph} {s : List Int} {u v : Int} (h : adjIn x s u v) : adjIn x s v u := by
  obtain ⟨j, hj, hm, h⟩ := h
  exact ⟨j, hj, hm, h.symm⟩
theorem uniq_at {x : Ph} (hv : x.valid) : ∀ i, i ≤ x.ts.length → ∀ u v p q, SP (adjIn x (fstate x i).2.2) u v p → SP (adjIn x (fstate x i).2.2) u v q → p = q
  | 0, _, u, v, p, q, hp, hq => by
    have one : ∀ p, SP (adjIn x (fstate x 0).2.2) u v p → p = [u] := fun p hp => by
      obtain ⟨ch, nd, hd, la⟩ := hp
      match p, ch, nd, hd, la with
      | [a], _, _, hd, _ => simpa using hd
      | a :: b :: l, ch, _, _, _ =>
        obtain ⟨j, hj, hm, _⟩ := ch.1 b rfl
        simp [fstate] at hm
    rw [one p hp, one q hq]
  | i + 1, hi, u, v, p, q, hp, hq => by
    have ih := uniq_at hv i (by omega)
    have inv := fstate_inv hv i (by omega)
    have hlt : i < x.ts.length := by omega
    have ht : x.ts.getD i default = x.ts[i] := by simp [hlt]
    rw [show fstate x (i + 1) = fstep x i (fstate x i) from rfl] at hp hq
    generalize hS : fstate x i = S at *
    obtain ⟨P, F, out⟩ := S
    simp only at ih
    by_cases hab : P.getD x.ts[i].f.toNat 0 = P.getD x.ts[i].t.toNat 0
    · have e : fstep x i (P, F, out) = (P, F, out) := by unfold fstep; simp only [ht]; rw [if_pos hab]
      rw [e] at hp hq
      exact ih _ _ _ _ hp hq
    · have e : (fstep x i (P, F, out)).2.2 = out ++ [(i : Int)] := by unfold fstep; simp only [ht]; rw [if_neg hab]
      rw [e] at hp hq
      have he : ∀ a b, adjIn x (out ++ [(i : Int)]) a b → adjIn x out a b ∨ (a = x.ts[i].f ∧ b = x.ts[i].t) ∨ (a = x.ts[i].t ∧ b = x.ts[i].f) := fun a b ⟨j, hj, hm, h⟩ => by
        rcases List.mem_append.1 hm with hm | hm
        · exact .inl ⟨j, hj, hm, h⟩
        · rw [List.mem_singleton] at hm
          obtain rfl : j = i := by omega
          rcases h with ⟨h1, h2⟩ | ⟨h1, h2⟩
          · exact .inr (.inl ⟨h1.symm, h2.symm⟩)
          · exact .inr (.inr ⟨h2.symm, h1.symm⟩)
      refine sp_uniq_step (L := fun c => P.getD c.toNat 0) (fun a b ⟨j, hj, hm, h⟩ => ?_) hab ih ⟨hp.ch.mono he, hp.nd, hp.hd, hp.la⟩ ⟨hq.ch.mono he, hq.nd, hq.hd, hq.la⟩
      have := (inv.edge j hj hm).1
      simp only at this
      rcases h with ⟨rfl, rfl⟩ | ⟨rfl, rfl⟩
      · exact this
      · exact this.symm
/-- Joined by an edge of the forest. -/
def Ph.adj (x : Ph) : Int → Int → Prop := adjIn x x.forest
theorem Ph.uniq {x : Ph} (hv : x.valid) {u v : Int} {p q : List Int} (hp : SP x.adj u v p) (hq : SP x.adj u v q) : p = q := uniq_at hv _ (Nat.le_refl _) u v p q hp hq
theorem Ph.adj_of {x : Ph} (hv : x.valid) {a b d : Int} (h : x.fgraph.step a b = some d) : x.adj a b := by
  obtain ⟨j, hj, hm, h⟩ := Ph.fg_step hv h
  rcases h with ⟨h1, h2, _⟩ | ⟨h1, h2, _⟩
  · exact ⟨j, hj, hm, .inl ⟨h1, h2⟩⟩
  · exact ⟨j, hj, hm, .inr ⟨h1, h2⟩⟩
theorem Ph.adj_in {x : Ph} (hv : x.valid) {a b : Int} (h : x.adj a b) : (0 ≤ a ∧ a < x.n) ∧ (0 ≤ b ∧ b < x.n) ∧ x.parts.getD a.toNat 0 = x.parts.getD b.toNat 0 := by
  obtain ⟨j, hj, hm, h⟩ := h
  obtain ⟨q1, q2, q3, _, _⟩ := Ph.edge hv hj
  have := ((fstate_inv hv _ (Nat.le_refl _)).edge j hj hm).1
  rw [show (fstate x x.ts.length).1 = x.parts from rfl] at this
  rcases h with ⟨rfl, rfl⟩ | ⟨rfl, rfl⟩
  · exact ⟨by omega, by omega, this⟩
  · exact ⟨by omega, by omega, this.symm⟩
theorem fsti_congr {P : List Int} {u v : Nat} (h : P.getD u 0 = P.getD v 0) : fsti P u = fsti P v := by unfold fsti; rw [h]
/-- The path of a node from the least node of its part. -/
def Ph.rooted (x : Ph) (v : Nat) (l : List Int) : Prop := SP x.adj (fsti x.parts v : Nat) v l
theorem Ph.rooted0 {x : Ph} {v : Nat} (h : fsti x.parts v = v) : x.rooted v [(v : Int)] := by unfold Ph.rooted; rw [h]; exact SP.one _
theorem Ph.rooted1 {x : Ph} (hv : x.valid) {a b : Nat} {l : List Int} {d : Int} (h : x.rooted a l) (hs : x.fgraph.step a b = some d) (hb : (b : Int) ∉ l) : x.rooted b (l ++ [(b : Int)]) := by
  have ha := Ph.adj_of hv hs
  have := (Ph.adj_in hv ha).2.2
  simp only [Int.toNat_natCast] at this
  unfold Ph.rooted at h ⊢
  rw [← fsti_congr this]
  exact h.snoc ha hb
/-- Where two lists part. -/
structure Parts (p q : List Int) (c : Nat) : Prop where
  le1 : c ≤ p.length
  le2 : c ≤ q.length
  eq : p.take c = q.take c
  stop : ¬ (c < p.length ∧ c < q.length ∧ p[c]? = q[c]?)
theorem sp_join {x : Ph} (hv : x.valid) {r a b : Int} {p q : List Int} (hp : SP x.adj r a p) (hq : SP x.adj r b q) {c : Nat} (hc : Parts p q c) : 1 ≤ c ∧ SP x.adj a b ((p.drop c).reverse ++ q.drop (c - 1)) := by
  obtain ⟨c1, c2, c3, c4⟩ := hc
  have h0 : 1 ≤ c := by
    rcases Nat.eq_zero_or_pos c with rfl | h
    · exfalso
      refine c4 ⟨List.length_pos_iff.2 hp.ne, List.length_pos_iff.2 hq.ne, ?_⟩
      rw [← List.head?_eq_getElem?, ← List.head?_eq_getElem?, hp.hd, hq.hd]
    · exact h
  refine ⟨h0, ?_⟩
  obtain ⟨k, z, hk, hkl⟩ : ∃ k z, p.take c = k ++ [z] ∧ k.length = c - 1 := by
    have hne : p.take c ≠ [] := fun e => by have := congrArg List.length e; rw [List.length_take] at this; simp only [List.length_nil] at this; omega
    refine ⟨(p.take c).dropLast, (p.take c).getLast hne, (List.dropLast_concat_getLast hne).symm, ?_⟩
    simp; omega
  have ep : p = k ++ z :: p.drop c := by
    have := List.take_append_drop c p
    rw [hk] at this; simpa using this.symm
  have eq : q = k ++ z :: q.drop c := by
    have := List.take_append_drop c q
    rw [← c3, hk] at this; simpa using this.symm
  have ed : q.drop (c - 1) = z :: q.drop c := by
    conv => lhs; rw [eq]
    rw [List.drop_append_of_le_length (by omega), ← hkl, List.drop_length]; rfl
  rw [ed]
  generalize p.drop c = p' at *
  generalize q.drop c = q' at *
  have pc : p[c]? = p'.head? := by
    rw [ep, List.getElem?_append_right (by omega), hkl, show c - (c - 1) = 1 by omega]; cases p' <;> rfl
  have qc : q[c]? = q'.head? := by
    rw [eq, List.getElem?_append_right (by omega), hkl, show c - (c - 1) = 1 by omega]; cases q' <;> rfl
  have hpz : Ch x.adj (z :: p') := by have := hp.ch; rw [ep, Ch_app] at this; exact this.2
  have hqz : Ch x.adj (z :: q') := by have := hq.ch; rw [eq, Ch_app] at this; exact this.2
  have pnd := hp.nd
  have qnd := hq.nd
  rw [ep, List.nodup_append, List.nodup_cons] at pnd
  rw [eq, List.nodup_append, List.nodup_cons] at qnd
  have hr : ∀ s : List Int, (k ++ z :: s).head? = some r := fun s => by have := hp.hd; rw [ep] at this; cases k <;> simpa using this
  refine ⟨?_, ?_, ?_, ?_⟩
  · rw [Ch_app]
    have := Ch_rev (fun a b h => adjIn_sym h) hpz
    rw [List.reverse_cons] at this
    exact ⟨this, hqz⟩
  · rw [List.nodup_append, (List.reverse_perm p').nodup_iff, List.nodup_cons]
    refine ⟨pnd.2.1.2, qnd.2.1, fun w hw w' hw' => ?_⟩
    rintro rfl
    rw [List.mem_reverse] at hw
    rcases List.mem_cons.1 hw' with rfl | hw'
    · exact pnd.2.1.1 hw
    obtain ⟨s1, t1, e1⟩ := List.append_of_mem hw
    obtain ⟨s2, t2, e2⟩ := List.append_of_mem hw'
    have g1 : SP x.adj r w (k ++ z :: (s1 ++ [w])) := by
      refine ⟨?_, ?_, hr _, by simp [List.getLast?_append, List.getLast?_cons]⟩
      · have := hp.ch
        rw [ep, e1, show k ++ z :: (s1 ++ w :: t1) = (k ++ z :: s1) ++ w :: t1 by simp, Ch_app] at this
        simpa using this.1
      · have := hp.nd
        rw [ep, e1, show k ++ z :: (s1 ++ w :: t1) = (k ++ z :: (s1 ++ [w])) ++ t1 by simp, List.nodup_append] at this
        exact this.1
    have g2 : SP x.adj r w (k ++ z :: (s2 ++ [w])) := by
      refine ⟨?_, ?_, hr _, by simp [List.getLast?_append, List.getLast?_cons]⟩
      · have := hq.ch
        rw [eq, e2, show k ++ z :: (s2 ++ w :: t2) = (k ++ z :: s2) ++ w :: t2 by simp, Ch_app] at this
        simpa using this.1
      · have := hq.nd
        rw [eq, e2, show k ++ z :: (s2 ++ w :: t2) = (k ++ z :: (s2 ++ [w])) ++ t2 by simp, List.nodup_append] at this
        exact this.1
    have := Ph.uniq hv g1 g2
    have h12 : s1 ++ [w] = s2 ++ [w] := by simpa using this
    have h3 : s1 = s2 := by simpa using h12
    refine c4 ⟨?_, ?_, ?_⟩
    · have := congrArg List.length ep; rw [e1] at this; simp at this; omega
    · have := congrArg List.length eq; rw [e2] at this; simp at this; omega
    · rw [pc, qc, e1, e2, h3]; cases s2 <;> rfl
  · have hl := hp.la
    rw [ep] at hl
    cases p' with
    | nil => simpa using hl
    | cons y p' => 
      rw [List.head?_append, List.head?_reverse]
      simp [List.getLast?_append, List.getLast?_cons_cons] at hl ⊢
      simp [hl]
  · have hl := hq.la
    rw [eq] at hl
    rw [List.getLast?_append] at hl ⊢
    simpa [List.getLast?_cons] using hl
theorem nodup_len : ∀ (N : Nat) {l : List Int}, l.Nodup → (∀ c ∈ l, 0 ≤ c ∧ c < (N : Int)) → l.length ≤ N
  | 0, l, _, h => by
    cases l with
    | nil => simp
    | cons a l => have := h a (by simp); omega
  | N + 1, l, nd, h => by
    have nd' := nd.erase (N : Int)
    have := nodup_len N nd' fun c hc => by
      have h1 := (nd.mem_erase_iff).1 hc
      have := h c h1.2
      have h2 := h1.1
      exact ⟨this.1, by omega⟩
    have hl := List.length_erase (a := (N : Int)) (l := l)
    split at hl <;> omega
open Classical in
/-- The path between two nodes. -/
noncomputable def Ph.path (x : Ph) (a b : Int) : List Int := if h : ∃ l, SP x.adj a b l then h.choose else []
theorem Ph.path_eq {x : Ph} (hv : x.valid) {a b : Int} {l : List Int} (h : SP x.adj a b l) : x.path a b = l := by
  have hx : ∃ l, SP x.adj a b l := ⟨l, h⟩
  unfold Ph.path
  rw [dif_pos hx]
  exact Ph.uniq hv hx.choose_spec h
theorem Ph.sp_len {x : Ph} (hv : x.valid) {a b : Int} {l : List Int} (h : SP x.adj a b l) (ha : 0 ≤ a ∧ a < x.n) : l.length ≤ x.n.toNat := by
  refine nodup_len _ h.nd fun c hc => ?_
  have hn := hv.1
  have key : ∀ {l : List Int} {a : Int}, Ch x.adj l → l.head? = some a → (0 ≤ a ∧ a < x.n) → ∀ c ∈ l, 0 ≤ c ∧ c < x.n := by
    intro l
    induction l with
    | nil => simp
    | cons y l ih =>
      intro a hch hh ha c hc
      simp at hh; subst hh
      rcases List.mem_cons.1 hc with rfl | hc
      · exact ha
      · cases l with
        | nil => simp at hc
        | cons z l => exact ih hch.2 rfl (Ph.adj_in hv (hch.1 z rfl)).2.1 c hc
  have := key h.ch h.hd ha c hc
  omega
/-- What is known of the nodes that are reached. -/
structure BP (x : Ph) (a : Int) (bf : List Int) : Prop where
  ln : bf.length = x.n.toNat
  rg : ∀ c ∈ bf, -1 ≤ c ∧ c < x.n
  sp : ∀ u : Nat, 0 ≤ bf.getD u (-1) → SP x.adj a u (x.path a u) ∧ ∀ c ∈ x.path a u, 0 ≤ c ∧ 0 ≤ bf.getD c.toNat (-1)
  bk : ∀ u : Nat, 0 ≤ bf.getD u (-1) → (u : Int) ≠ a → 0 ≤ bf.getD (bf.getD u (-1)).toNat (-1) ∧ x.path a u = x.path a (bf.getD u (-1)) ++ [(u : Int)]
theorem bf_set {bf : List Int} {b : Nat} (hb : b < bf.length) (c : Int) (u : Nat) : (bf.set b c).getD u (-1) = if u = b then c else bf.getD u (-1) := by
  by_cases h : u = b
  · subst h; simp [hb]
  · simp [List.getElem?_set, Ne.symm h, h]
theorem BP.put {x : Ph} (hv : x.valid) {a : Int} {bf : List Int} (I : BP x a bf) {u w : Nat} (hu : 0 ≤ bf.getD u (-1)) (hw : ¬ 0 ≤ bf.getD w (-1)) (hwl : w < x.n.toNat) (hul : u < x.n.toNat) (ha : x.adj u w) : BP x a (bf.set w u) := by
  have hb : w < bf.length := by rw [I.ln]; exact hwl
  have hs := bf_set hb (u : Int)
  have hmono : ∀ c : Nat, 0 ≤ bf.getD c (-1) → 0 ≤ (bf.set w u).getD c (-1) := fun c hc => by rw [hs]; split <;> omega
  obtain ⟨s1, s2⟩ := I.sp u hu
  have hnm : (w : Int) ∉ x.path a u := fun h => hw (by simpa using (s2 _ h).2)
  have hsp := s1.snoc ha hnm
  have hp := Ph.path_eq hv hsp
  refine ⟨by simp [I.ln], fun c hc => ?_, fun v hv' => ?_, fun v hv' hva => ?_⟩
  · rcases List.mem_or_eq_of_mem_set hc with h | rfl
    · exact I.rg c h
    · omega
  · rw [hs] at hv'
    by_cases h : v = w
    · subst h
      rw [hp]
      refine ⟨hsp, fun c hc => ?_⟩
      rcases List.mem_append.1 hc with hc | hc
      · exact ⟨(s2 c hc).1, hmono _ (s2 c hc).2⟩
      · rw [List.mem_singleton] at hc; subst hc
        refine ⟨by omega, ?_⟩
        rw [Int.toNat_natCast, hs, if_pos rfl]; omega
    · rw [if_neg h] at hv'
      obtain ⟨t1, t2⟩ := I.sp v hv'
      exact ⟨t1, fun c hc => ⟨(t2 c hc).1, hmono _ (t2 c hc).2⟩⟩
  · rw [hs] at hv'
    by_cases h : v = w
    · subst h
      have e : (bf.set v (u : Int)).getD v (-1) = u := by rw [hs, if_pos rfl]
      rw [e]
      exact ⟨by rw [Int.toNat_natCast]; exact hmono _ hu, hp⟩
    · rw [if_neg h] at hv'
      obtain ⟨t1, t2⟩ := I.bk v hv' hva
      have e : (bf.set w (u : Int)).getD v (-1) = bf.getD v (-1) := by rw [hs, if_neg h]
      rw [e]
      exact ⟨hmono _ t1, t2⟩
/-- What is known of the queue. -/
structure QB (x : Ph) (bf : List Int) (Q : List Int) : Prop where
  nd : Q.Nodup
  q : ∀ c ∈ Q, 0 ≤ c ∧ 0 ≤ bf.getD c.toNat (-1)
theorem bf_lt {bf : List Int} {u : Nat} (h : 0 ≤ bf.getD u (-1)) : u < bf.length := by
  rcases Nat.lt_or_ge u bf.length with h1 | h1
  · exact h1
  · simp [h1] at h
theorem QB.len {x : Ph} {a : Int} {bf Q : List Int} (I : QB x bf Q) (B : BP x a bf) : Q.length ≤ x.n.toNat := nodup_len _ I.nd fun c hc => by
  obtain ⟨h1, h2⟩ := I.q c hc
  have := bf_lt h2
  have := B.ln
  omega
theorem bf_mono {bf : List Int} {w : Nat} (hb : w < bf.length) {u : Int} (hu : 0 ≤ u) (c : Nat) (hc : 0 ≤ bf.getD c (-1)) : 0 ≤ (bf.set w u).getD c (-1) := by rw [bf_set hb]; split <;> omega
theorem QB.put {x : Ph} {bf Q : List Int} (I : QB x bf Q) {u : Int} {w : Nat} (hu : 0 ≤ u) (hw : ¬ 0 ≤ bf.getD w (-1)) (hb : w < bf.length) : QB x (bf.set w u) (Q ++ [(w : Int)]) := by
  refine ⟨?_, fun c hc => ?_⟩
  · rw [List.nodup_append]
    exact ⟨I.nd, by simp, fun c hc d hd => by simp at hd; subst hd; rintro rfl; exact hw (by simpa using (I.q _ hc).2)⟩
  · rcases List.mem_append.1 hc with hc | hc
    · exact ⟨(I.q c hc).1, bf_mono hb hu _ (I.q c hc).2⟩
    · rw [List.mem_singleton] at hc; subst hc
      refine ⟨by omega, ?_⟩
      rw [Int.toNat_natCast, bf_set hb, if_pos rfl]; exact hu
/-- Reached nodes whose edges are not done stand in the queue. -/
def CB (x : Ph) (i : Nat) (bf Q : List Int) : Prop := ∀ u : Nat, 0 ≤ bf.getD u (-1) → (∃ j, i ≤ j ∧ Q[j]? = some (u : Int)) ∨ ∀ w : Int, x.adj u w → 0 ≤ bf.getD w.toNat (-1)
theorem CB.put {x : Ph} {i : Nat} {bf Q : List Int} (hi : i ≤ Q.length) (I : CB x i bf Q) {u : Int} {w : Nat} (hu : 0 ≤ u) (hb : w < bf.length) : CB x i (bf.set w u) (Q ++ [(w : Int)]) := by
  intro v hv
  rw [bf_set hb] at hv
  by_cases h : v = w
  · subst h; exact .inl ⟨Q.length, hi, by simp⟩
  · rw [if_neg h] at hv
    rcases I v hv with ⟨j, h1, h2⟩ | h1
    · exact .inl ⟨j, h1, by rw [List.getElem?_append_left (List.getElem?_eq_some_iff.1 h2).1]; exact h2⟩
    · exact .inr fun w' hw' => bf_mono hb hu _ (h1 w' hw')
theorem CB.next {x : Ph} {i : Nat} {bf Q : List Int} (I : CB x i bf Q) {c : Int} (hc : Q[i]? = some c) (hd : ∀ w, x.adj c w → 0 ≤ bf.getD w.toNat (-1)) : CB x (i + 1) bf Q := by
  intro v hv
  rcases I v hv with ⟨j, h1, h2⟩ | h1
  · rcases Nat.lt_or_ge i j with h | h
    · exact .inl ⟨j, h, h2⟩
    · obtain rfl : j = i := by omega
      rw [hc] at h2; cases h2
      exact .inr hd
  · exact .inr h1
abbrev k51_o0 : List AJ := [.o ⟨(some 8), none, false, .mv (.c .nilsl), (some [0, 1, 2, 3])⟩]
abbrev k51_o1 : List AJ := [.e 17 1 none, .o ⟨(some 9), none, false, .mv (.t 17), (some [0, 1, 2, 3, 9])⟩]
abbrev k51_o2 : List AJ := [.o ⟨(some 10), none, false, .mv (.c (.int .i64 0)), (some [0, 1, 2, 3, 9, 10])⟩]
abbrev k51_o3 : List AJ := [.o ⟨(some 18), none, false, .mv (.t 10), none⟩, .o ⟨(some 19), none, false, .mv (.t 0), none⟩, .o ⟨(some 20), none, false, .nilchk (.t 19), none⟩, .o ⟨(some 21), none, false, .fieldA 0 (.t 20), none⟩, .o ⟨(some 22), none, false, .load 1 false (.t 21), none⟩, .o ⟨(some 23), none, false, .bin .lss (.t 18) (.t 22), (some [0, 1, 2, 3, 9, 10, 23])⟩]
def k51_4 : ACode := .cond (.t 23) .skip (.exit 0)
def k51_5 : ACode := .seq (.region k51_o3) k51_4
abbrev k51_o4 : List AJ := [.o ⟨(some 26), none, false, .mv (.t 9), none⟩, .o ⟨(some 27), none, false, .bsl false 1 [(.c (.int .i64 (-1)))], none⟩, .o ⟨(some 28), none, false, .append 1 8 (.t 26) (.t 27), none⟩, .o ⟨(some 9), none, false, .mv (.t 28), (some [0, 1, 2, 3, 9, 10])⟩]
def k51_6 : ACode := .region k51_o4
abbrev k51_o5 : List AJ := [.o ⟨(some 24), none, false, .mv (.t 10), none⟩, .o ⟨(some 25), none, true, .bin .add (.t 24) (.c (.int .i64 1)), none⟩, .o ⟨(some 10), none, false, .mv (.t 25), (some [0, 1, 2, 3, 9, 10])⟩]
def k51_8 : ACode := .region k51_o5
def k51_9 : ACode := .seq (.block 1 k51_6) k51_8
def k51_10 : ACode := .seq k51_5 k51_9
def k51_11 : ACode := .loop k51_10
def k51_12 : ACode := .block 0 k51_11
def k51_13 : ACode := .seq (.region k51_o2) k51_12
abbrev k51_o6 : List AJ := [.o ⟨(some 29), none, false, .mv (.t 9), none⟩, .o ⟨(some 30), none, false, .mv (.t 2), none⟩, .o ⟨(some 31), none, false, .mv (.t 2), none⟩, .o ⟨(some 32), none, false, .idxA 1 (.t 29) (.t 30), none⟩, .o ⟨none, none, false, .store 1 (.t 32) (.t 31), (some [0, 1, 2, 3, 9])⟩]
abbrev k51_o7 : List AJ := [.o ⟨(some 33), none, false, .mv (.t 2), none⟩, .o ⟨(some 34), none, false, .bsl true 1 [(.t 33)], none⟩, .o ⟨(some 11), none, false, .mv (.t 34), (some [0, 1, 2, 3, 9, 11])⟩]
abbrev k51_o8 : List AJ := [.o ⟨(some 12), none, false, .mv (.c (.int .i64 0)), (some [0, 1, 2, 3, 9, 11, 12])⟩]
abbrev k51_o9 : List AJ := [.o ⟨(some 35), none, false, .mv (.t 12), none⟩, .o ⟨(some 36), none, false, .mv (.t 11), none⟩, .o ⟨(some 37), none, false, .len (.t 36), none⟩, .o ⟨(some 38), none, false, .bin .lss (.t 35) (.t 37), (some [0, 1, 2, 3, 9, 11, 12, 38])⟩]
def k51_18 : ACode := .cond (.t 38) .skip (.exit 2)
def k51_19 : ACode := .seq (.region k51_o9) k51_18
abbrev k51_o10 : List AJ := [.o ⟨(some 13), none, false, .mv (.c (.int .i64 0)), (some [0, 1, 2, 3, 9, 11, 12, 13])⟩]
abbrev k51_o11 : List AJ := [.o ⟨(some 41), none, false, .mv (.t 13), none⟩, .o ⟨(some 42), none, false, .mv (.t 1), none⟩, .o ⟨(some 43), none, false, .len (.t 42), none⟩, .o ⟨(some 44), none, false, .bin .lss (.t 41) (.t 43), (some [0, 1, 2, 3, 9, 11, 12, 13, 44])⟩]
def k51_22 : ACode := .cond (.t 44) .skip (.exit 4)
def k51_23 : ACode := .seq (.region k51_o11) k51_22
abbrev k51_o12 : List AJ := [.o ⟨(some 47), none, false, .mv (.t 0), none⟩, .o ⟨(some 48), none, false, .nilchk (.t 47), none⟩, .o ⟨(some 49), none, false, .fieldA 2 (.t 48), none⟩, .o ⟨(some 50), none, false, .load 1 false (.t 49), none⟩, .o ⟨(some 51), none, false, .mv (.t 1), none⟩, .o ⟨(some 52), none, false, .mv (.t 13), none⟩, .o ⟨(some 53), none, false, .idxA 1 (.t 51) (.t 52), none⟩, .o ⟨(some 54), none, false, .load 1 false (.t 53), none⟩, .o ⟨(some 55), none, false, .idxA 3 (.t 50) (.t 54), none⟩, .o ⟨(some 56), none, false, .load 3 true (.t 55), none⟩, .v 14 3 (.agg [(.int .i64 0), (.int .i64 0), (.int .i64 0)]) [] (.t 56) (some [0, 1, 2, 3, 9, 11, 12, 13, 14])]
abbrev k51_o13 : List AJ := [.o ⟨(some 15), none, false, .mv (.c (.int .i64 (-1))), (some [0, 1, 2, 3, 9, 11, 12, 13, 14, 15])⟩]
abbrev k51_o14 : List AI := [⟨(some 57), none, false, .fieldA 0 (.t 14), none⟩, ⟨(some 58), none, false, .load 1 false (.t 57), none⟩, ⟨(some 59), none, false, .mv (.t 11), none⟩, ⟨(some 60), none, false, .mv (.t 12), none⟩, ⟨(some 61), none, false, .idxA 1 (.t 59) (.t 60), none⟩, ⟨(some 62), none, false, .load 1 false (.t 61), none⟩, ⟨(some 63), none, false, .bin .eql (.t 58) (.t 62), (some [0, 1, 2, 3, 9, 11, 12, 13, 14, 15, 63])⟩]
abbrev k51_o15 : List AJ := [.o ⟨(some 64), none, false, .fieldA 1 (.t 14), none⟩, .o ⟨(some 65), none, false, .load 1 false (.t 64), none⟩, .o ⟨(some 15), none, false, .mv (.t 65), (some [0, 1, 2, 3, 9, 11, 12, 13, 14, 15])⟩]
def k51_27 : ACode := .region k51_o15
def k51_28 : ACode := .cond (.t 63) k51_27 .skip
def k51_29 : ACode := .seq (.draw k51_o14 [] rfl) k51_28
abbrev k51_o16 : List AI := [⟨(some 66), none, false, .fieldA 1 (.t 14), none⟩, ⟨(some 67), none, false, .load 1 false (.t 66), none⟩, ⟨(some 68), none, false, .mv (.t 11), none⟩, ⟨(some 69), none, false, .mv (.t 12), none⟩, ⟨(some 70), none, false, .idxA 1 (.t 68) (.t 69), none⟩, ⟨(some 71), none, false, .load 1 false (.t 70), none⟩, ⟨(some 72), none, false, .bin .eql (.t 67) (.t 71), (some [0, 1, 2, 3, 9, 11, 12, 13, 14, 15, 72])⟩]
abbrev k51_o17 : List AJ := [.o ⟨(some 73), none, false, .fieldA 0 (.t 14), none⟩, .o ⟨(some 74), none, false, .load 1 false (.t 73), none⟩, .o ⟨(some 15), none, false, .mv (.t 74), (some [0, 1, 2, 3, 9, 11, 12, 13, 15])⟩]
def k51_31 : ACode := .region k51_o17
def k51_32 : ACode := .cond (.t 72) k51_31 .skip
def k51_33 : ACode := .seq (.draw k51_o16 [] rfl) k51_32
abbrev k51_o18 : List AJ := [.o ⟨(some 75), none, false, .mv (.t 15), none⟩, .o ⟨(some 76), none, false, .bin .geq (.t 75) (.c (.int .i64 0)), none⟩, .o ⟨(some 77), none, false, .mv (.t 76), none⟩, .o ⟨(some 78), (some (77, true)), false, .mv (.t 9), none⟩, .o ⟨(some 79), (some (77, true)), false, .mv (.t 15), none⟩, .o ⟨(some 80), (some (77, true)), false, .idxA 1 (.t 78) (.t 79), none⟩, .o ⟨(some 81), (some (77, true)), false, .load 1 false (.t 80), none⟩, .o ⟨(some 82), (some (77, true)), false, .bin .lss (.t 81) (.c (.int .i64 0)), none⟩, .o ⟨(some 83), none, false, .pick (.t 77) (.t 82) (.c (.bool false)), (some [0, 1, 2, 3, 9, 11, 12, 13, 15, 83])⟩]
abbrev k51_o19 : List AJ := [.o ⟨(some 84), none, false, .mv (.t 9), none⟩, .o ⟨(some 85), none, false, .mv (.t 15), none⟩, .o ⟨(some 86), none, false, .mv (.t 11), none⟩, .o ⟨(some 87), none, false, .mv (.t 12), none⟩, .o ⟨(some 88), none, false, .idxA 1 (.t 86) (.t 87), none⟩, .o ⟨(some 89), none, false, .load 1 false (.t 88), none⟩, .o ⟨(some 90), none, false, .idxA 1 (.t 84) (.t 85), none⟩, .o ⟨none, none, false, .store 1 (.t 90) (.t 89), (some [0, 1, 2, 3, 9, 11, 12, 13, 15])⟩]
abbrev k51_o20 : List AJ := [.o ⟨(some 91), none, false, .mv (.t 11), none⟩, .o ⟨(some 92), none, false, .mv (.t 15), none⟩, .o ⟨(some 93), none, false, .bsl false 1 [(.t 92)], none⟩, .o ⟨(some 94), none, false, .append 1 8 (.t 91) (.t 93), none⟩, .o ⟨(some 11), none, false, .mv (.t 94), (some [0, 1, 2, 3, 9, 11, 12, 13])⟩]
def k51_36 : ACode := .region k51_o20
def k51_37 : ACode := .seq (.region k51_o19) k51_36
def k51_38 : ACode := .cond (.t 83) k51_37 .skip
def k51_39 : ACode := .seq (.region k51_o18) k51_38
def k51_40 : ACode := .seq k51_33 k51_39
def k51_41 : ACode := .seq k51_29 k51_40
def k51_42 : ACode := .seq (.region k51_o13) k51_41
def k51_43 : ACode := .seq (.drawT 0 k51_o12 rfl) k51_42
abbrev k51_o21 : List AJ := [.o ⟨(some 45), none, false, .mv (.t 13), none⟩, .o ⟨(some 46), none, true, .bin .add (.t 45) (.c (.int .i64 1)), none⟩, .o ⟨(some 13), none, false, .mv (.t 46), (some [0, 1, 2, 3, 9, 11, 12, 13])⟩]
def k51_45 : ACode := .region k51_o21
def k51_46 : ACode := .seq (.block 5 k51_43) k51_45
def k51_47 : ACode := .seq k51_23 k51_46
def k51_48 : ACode := .loop k51_47
def k51_49 : ACode := .block 4 k51_48
def k51_50 : ACode := .seq (.region k51_o10) k51_49
abbrev k51_o22 : List AJ := [.o ⟨(some 39), none, false, .mv (.t 12), none⟩, .o ⟨(some 40), none, true, .bin .add (.t 39) (.c (.int .i64 1)), none⟩, .o ⟨(some 12), none, false, .mv (.t 40), (some [0, 1, 2, 3, 9, 11, 12])⟩]
def k51_52 : ACode := .region k51_o22
def k51_53 : ACode := .seq (.block 3 k51_50) k51_52
def k51_54 : ACode := .seq k51_19 k51_53
def k51_55 : ACode := .loop k51_54
def k51_56 : ACode := .block 2 k51_55
def k51_57 : ACode := .seq (.region k51_o8) k51_56
abbrev k51_o23 : List AJ := [.o ⟨(some 95), none, false, .mv (.t 3), none⟩, .o ⟨(some 96), none, false, .bsl true 1 [(.t 95)], none⟩, .o ⟨(some 16), none, false, .mv (.t 96), (some [2, 3, 9, 16])⟩]
abbrev k51_o24 : List AJ := [.o ⟨(some 97), none, false, .mv (.t 3), none⟩, .o ⟨(some 98), none, false, .mv (.t 2), none⟩, .o ⟨(some 99), none, false, .bin .neq (.t 97) (.t 98), (some [2, 3, 9, 16, 99])⟩]
def k51_60 : ACode := .cond (.t 99) .skip (.exit 6)
def k51_61 : ACode := .seq (.region k51_o24) k51_60
abbrev k51_o25 : List AJ := [.o ⟨(some 100), none, false, .mv (.t 9), none⟩, .o ⟨(some 101), none, false, .mv (.t 3), none⟩, .o ⟨(some 102), none, false, .idxA 1 (.t 100) (.t 101), none⟩, .o ⟨(some 103), none, false, .load 1 false (.t 102), none⟩, .o ⟨(some 3), none, false, .mv (.t 103), (some [2, 3, 9, 16])⟩]
abbrev k51_o26 : List AJ := [.o ⟨(some 104), none, false, .mv (.t 3), none⟩, .o ⟨(some 105), none, false, .bsl true 1 [(.t 104)], none⟩, .o ⟨(some 106), none, false, .mv (.t 16), none⟩, .o ⟨(some 107), none, false, .append 1 8 (.t 105) (.t 106), none⟩, .o ⟨(some 16), none, false, .mv (.t 107), (some [2, 3, 9, 16])⟩]
def k51_63 : ACode := .region k51_o26
def k51_64 : ACode := .seq (.region k51_o25) k51_63
def k51_65 : ACode := .block 7 k51_64
def k51_66 : ACode := .seq k51_61 k51_65
def k51_67 : ACode := .loop k51_66
abbrev k51_o27 : List AJ := [.o ⟨(some 108), none, false, .mv (.t 16), none⟩, .o ⟨(some 8), none, false, .mv (.t 108), (some [8])⟩]
def k51_70 : ACode := .seq (.region k51_o27) .ret
def k51_71 : ACode := .seq (.block 6 k51_67) k51_70
def k51_72 : ACode := .seq (.region k51_o23) k51_71
def k51_73 : ACode := .seq k51_57 k51_72
def k51_74 : ACode := .seq (.region k51_o7) k51_73
def k51_75 : ACode := .seq (.region k51_o6) k51_74
def k51_76 : ACode := .seq k51_13 k51_75
def k51_77 : ACode := .seq (.region k51_o1) k51_76
def k51_78 : ACode := .seq (.region k51_o0) k51_77
@[simp, simp ↓] theorem k51_4r : rC k51_4 (.t 23) .skip (.exit 0) := zC rfl
@[simp, simp ↓] theorem k51_5r : sR k51_5 k51_o3 k51_4 := yR rfl
@[simp, simp ↓] theorem k51_6r : rR k51_6 k51_o4 := zR rfl
@[simp, simp ↓] theorem k51_8r : rR k51_8 k51_o5 := zR rfl
@[simp, simp ↓] theorem k51_9r : sB k51_9 1 k51_6 k51_8 := yB rfl
@[simp, simp ↓] theorem k51_10r : rS k51_10 k51_5 k51_9 := zS rfl
@[simp, simp ↓] theorem k51_11r : rL k51_11 k51_10 := zL rfl
@[simp, simp ↓] theorem k51_12r : rB k51_12 0 k51_11 := zB rfl
@[simp, simp ↓] theorem k51_13r : sR k51_13 k51_o2 k51_12 := yR rfl
@[simp, simp ↓] theorem k51_18r : rC k51_18 (.t 38) .skip (.exit 2) := zC rfl
@[simp, simp ↓] theorem k51_19r : sR k51_19 k51_o9 k51_18 := yR rfl
@[simp, simp ↓] theorem k51_22r : rC k51_22 (.t 44) .skip (.exit 4) := zC rfl
@[simp, simp ↓] theorem k51_23r : sR k51_23 k51_o11 k51_22 := yR rfl
@[simp, simp ↓] theorem k51_27r : rR k51_27 k51_o15 := zR rfl
@[simp, simp ↓] theorem k51_28r : rC k51_28 (.t 63) k51_27 .skip := zC rfl
@[simp, simp ↓] theorem k51_29r : sD k51_29 k51_o14 [] k51_28 := yD rfl
@[simp, simp ↓] theorem k51_31r : rR k51_31 k51_o17 := zR rfl
@[simp, simp ↓] theorem k51_32r : rC k51_32 (.t 72) k51_31 .skip := zC rfl
@[simp, simp ↓] theorem k51_33r : sD k51_33 k51_o16 [] k51_32 := yD rfl
@[simp, simp ↓] theorem k51_36r : rR k51_36 k51_o20 := zR rfl
@[simp, simp ↓] theorem k51_37r : sR k51_37 k51_o19 k51_36 := yR rfl
@[simp, simp ↓] theorem k51_38r : rC k51_38 (.t 83) k51_37 .skip := zC rfl
@[simp, simp ↓] theorem k51_39r : sR k51_39 k51_o18 k51_38 := yR rfl
@[simp, simp ↓] theorem k51_40r : rS k51_40 k51_33 k51_39 := zS rfl
@[simp, simp ↓] theorem k51_41r : rS k51_41 k51_29 k51_40 := zS rfl
@[simp, simp ↓] theorem k51_42r : sR k51_42 k51_o13 k51_41 := yR rfl
@[simp, simp ↓] theorem k51_43r : sT k51_43 k51_o12 k51_42 := yT rfl
@[simp, simp ↓] theorem k51_45r : rR k51_45 k51_o21 := zR rfl
@[simp, simp ↓] theorem k51_46r : sB k51_46 5 k51_43 k51_45 := yB rfl
@[simp, simp ↓] theorem k51_47r : rS k51_47 k51_23 k51_46 := zS rfl
@[simp, simp ↓] theorem k51_48r : rL k51_48 k51_47 := zL rfl
@[simp, simp ↓] theorem k51_49r : rB k51_49 4 k51_48 := zB rfl
@[simp, simp ↓] theorem k51_50r : sR k51_50 k51_o10 k51_49 := yR rfl
@[simp, simp ↓] theorem k51_52r : rR k51_52 k51_o22 := zR rfl
@[simp, simp ↓] theorem k51_53r : sB k51_53 3 k51_50 k51_52 := yB rfl
@[simp, simp ↓] theorem k51_54r : rS k51_54 k51_19 k51_53 := zS rfl
@[simp, simp ↓] theorem k51_55r : rL k51_55 k51_54 := zL rfl
@[simp, simp ↓] theorem k51_56r : rB k51_56 2 k51_55 := zB rfl
@[simp, simp ↓] theorem k51_57r : sR k51_57 k51_o8 k51_56 := yR rfl
@[simp, simp ↓] theorem k51_60r : rC k51_60 (.t 99) .skip (.exit 6) := zC rfl
@[simp, simp ↓] theorem k51_61r : sR k51_61 k51_o24 k51_60 := yR rfl
@[simp, simp ↓] theorem k51_63r : rR k51_63 k51_o26 := zR rfl
@[simp, simp ↓] theorem k51_64r : sR k51_64 k51_o25 k51_63 := yR rfl
@[simp, simp ↓] theorem k51_65r : rB k51_65 7 k51_64 := zB rfl
@[simp, simp ↓] theorem k51_66r : rS k51_66 k51_61 k51_65 := zS rfl
@[simp, simp ↓] theorem k51_67r : rL k51_67 k51_66 := zL rfl
@[simp, simp ↓] theorem k51_70r : sR k51_70 k51_o27 .ret := yR rfl
@[simp, simp ↓] theorem k51_71r : sB k51_71 6 k51_67 k51_70 := yB rfl
@[simp, simp ↓] theorem k51_72r : sR k51_72 k51_o23 k51_71 := yR rfl
@[simp, simp ↓] theorem k51_73r : rS k51_73 k51_57 k51_72 := zS rfl
@[simp, simp ↓] theorem k51_74r : sR k51_74 k51_o7 k51_73 := yR rfl
@[simp, simp ↓] theorem k51_75r : sR k51_75 k51_o6 k51_74 := yR rfl
@[simp, simp ↓] theorem k51_76r : rS k51_76 k51_13 k51_75 := zS rfl
@[simp, simp ↓] theorem k51_77r : sR k51_77 k51_o1 k51_76 := yR rfl
@[simp, simp ↓] theorem k51_78r : sR k51_78 k51_o0 k51_77 := yR rfl
noncomputable abbrev k51_C : Orc → Cx := mkC Try.prog [14, 17, 34, 96, 105] 51 109 [.tmp 8]
theorem k51_of : OfP Try.prog Try.f51 51 109 k51_C k51_78 := @ofP _ _ _ _ _ _ _ _ Try.func51 (by decide +kernel) rfl (by kernel_rfl) rfl (by kernel_rfl)
theorem l23Path_w (x : Ph) (a b : Int) (h : Heap) (hv : x.valid) (ha : 0 ≤ a ∧ a < x.n) (hb : 0 ≤ b ∧ b < x.n) (hab : x.parts.getD a.toNat 0 = x.parts.getD b.toNat 0) :
    ACalls Try.prog 51 [.ip [.int .i64 x.n, .int .i64 x.m, .snap 3 (x.ts.map T.av)], .snap 1 (x.forest.map iv), .int .i64 a, .int .i64 b] h (fun v h' => SP x.adj a b (x.path a b) ∧ v = .snap 1 ((x.path a b).map iv) ∧ h' = h) := by
  have hn1 := hv.1
  have hn2 := hv.2.1
  have hl2 := hv.2.2.2.2.2
  obtain ⟨N, hN⟩ : ∃ N : Nat, x.n.toNat = N := ⟨_, rfl⟩
  have hNx : x.n = (N : Int) := by omega
  have hN12 : N ≤ 12 := by omega
  have inv := fstate_inv hv _ (Nat.le_refl _)
  have fll : x.forest.length ≤ 24 := by have := fstate_len x x.ts.length; unfold Ph.forest; omega
  refine k51_of rfl orcT2_p fun I => ?_
  refine Run2.of I 1000 ?_
  simp -implicitDefEqProofs
  refine Run2.loopE (α := Nat × AV × Heap) (fun s => [(0, .ip [.int .i64 x.n, .int .i64 x.m, .snap 3 (x.ts.map T.av)]), (1, .snap 1 (x.forest.map iv)), (2, .int .i64 a), (3, .int .i64 b), (9, s.2.1), (10, .int .i64 (s.1 : Nat))]) (fun s => s.2.2 ++ h) (fun s => N - s.1)
    (fun s => s.1 ≤ N ∧ Grow 1 s.2.1 ((List.replicate s.1 (-1)).map iv) s.2.2 ∧ (∀ j ∈ dom s.2.2, j ∉ dom h)) (0, .emp, []) (by simp) rfl ⟨Nat.zero_le _, by simpa using Grow.emp, by simp [dom]⟩ ?_
  rintro ⟨v, wp, gp⟩ ⟨hi, hgp, hd1⟩ ih
  simp only at hi hgp hd1 ih ⊢
  by_cases hlt : v < N
  · have hlt' : (v : Int) < x.n := by omega
    have go := fun wp' gp' a b => ih (v + 1, wp', gp') ⟨by simp; omega, a, b⟩ (by simp; omega)
    clear ih
    refine Run2.of I 1000 ?_
    simp -implicitDefEqProofs [hlt']
    refine Grow.app_mid (pre := []) hgp (fun j hj => by simp [dom]) (by simp; omega) (by simp) fun wp' gp' hgp' hf1 => ?_
    simp -implicitDefEqProofs
    refine ⟨by omega, ?_⟩
    have := go wp' gp' (by simpa [List.replicate_succ'] using hgp') (by simpa using hf1)
    simpa using this
  · obtain rfl : v = N := by omega
    clear ih
    have hlt' : ¬ (v : Int) < x.n := by omega
    generalize hLp : (List.replicate v (-1 : Int)).map iv = Lp at hgp
    cases hgp with
    | nil => have := congrArg List.length hLp; simp at this; omega
    | emp => have := congrArg List.length hLp; simp at this; omega
    | sl idb _ np hnp =>
    obtain rfl : v = np := by rw [hnp, ← hLp]; simp
    subst hLp
    have hbh : idb ∉ dom h := hd1 idb (by simp [dom])
    clear hd1 hnp
    have hav : a.toNat < v := by omega
    refine Run2.of I 1000 ?_
    simp -implicitDefEqProofs [hlt', ha.1, hav]
    refine ⟨by omega, fun idq hq1 hq2 => ?_⟩
    refine gK.go ?_
    simp -implicitDefEqProofs
    refine Run2.wk (e' := [(0, .ip [.int .i64 x.n, .int .i64 x.m, .snap 3 (x.ts.map T.av)]), (1, .snap 1 (x.forest.map iv)), (2, .int .i64 a), (3, .int .i64 b), (9, .sl idb 1 0 v none), (11, .sl idq 1 0 1 none), (12, .int .i64 0)]) (fun t => ?_) ?_
    · simp only [eget]
      repeat' split
      all_goals first | exact Wk.refl _ | exact Wk.cap _ _ _ _ _
    have e0 : (List.replicate v (AV.int .i64 (-1))).set a.toNat (.int .i64 a) = ((List.replicate v (-1 : Int)).set a.toNat a).map iv := by simp [List.map_set, iv]
    rw [e0]
    have hs0 := bf_set (bf := List.replicate v (-1 : Int)) (b := a.toNat) (by simp; omega) a
    have hr0 : ∀ u : Nat, ¬ 0 ≤ (List.replicate v (-1 : Int)).getD u (-1) := fun u => by
      by_cases h : u < v <;> simp [h]
    have hv0 : ∀ u : Nat, 0 ≤ ((List.replicate v (-1 : Int)).set a.toNat a).getD u (-1) → (u : Int) = a := fun u hu => by
      rw [hs0] at hu
      split at hu
      · omega
      · exact absurd hu (hr0 u)
    have hva : 0 ≤ ((List.replicate v (-1 : Int)).set a.toNat a).getD a.toNat (-1) := by rw [hs0, if_pos rfl]; exact ha.1
    have hpa : x.path a a = [a] := Ph.path_eq hv (SP.one a)
    have B0 : BP x a ((List.replicate v (-1 : Int)).set a.toNat a) := ⟨by simp [hN], fun c hc => by
        rcases List.mem_or_eq_of_mem_set hc with h | rfl
        · have := List.eq_of_mem_replicate h; omega
        · omega, fun u hu => by rw [hv0 u hu, hpa]; exact ⟨SP.one a, fun c hc => by rw [List.mem_singleton] at hc; subst hc; exact ⟨ha.1, hva⟩⟩, fun u hu hne => absurd (hv0 u hu) hne⟩
    have Q0 : QB x ((List.replicate v (-1 : Int)).set a.toNat a) [a] := ⟨by simp, fun c hc => by rw [List.mem_singleton] at hc; subst hc; exact ⟨ha.1, hva⟩⟩
    have C0 : CB x 0 ((List.replicate v (-1 : Int)).set a.toNat a) [a] := fun u hu => .inl ⟨0, Nat.le_refl _, by rw [hv0 u hu]; rfl⟩
    clear hs0 hr0 hv0 e0
    refine Run2.loopE (α := Nat × List Int × List Int × AV × Heap) (fun s => [(0, .ip [.int .i64 x.n, .int .i64 x.m, .snap 3 (x.ts.map T.av)]), (1, .snap 1 (x.forest.map iv)), (2, .int .i64 a), (3, .int .i64 b), (9, .sl idb 1 0 v none), (11, s.2.2.2.1), (12, .int .i64 (s.1 : Nat))]) (fun s => s.2.2.2.2 ++ ((idb, ⟨1, s.2.1.map iv⟩) :: h)) (fun s => v - s.1)
      (fun s => s.1 ≤ s.2.2.1.length ∧ BP x a s.2.1 ∧ QB x s.2.1 s.2.2.1 ∧ CB x s.1 s.2.1 s.2.2.1 ∧ 0 ≤ s.2.1.getD a.toNat (-1) ∧ Grow 1 s.2.2.2.1 (s.2.2.1.map iv) s.2.2.2.2 ∧ idb ∉ dom s.2.2.2.2 ∧ (∀ j ∈ dom s.2.2.2.2, j ∉ dom h)) (0, _, [a], _, [(idq, ⟨1, [.int .i64 a]⟩)]) (by simp) rfl ⟨Nat.zero_le _, B0, Q0, C0, hva, .sl idq _ 1 rfl, by simp [dom]; exact Ne.symm hq1, fun j hj => by simp [dom] at hj; subst hj; exact hq2⟩ ?_
    clear B0 Q0 C0 hva hq1 hq2
    rintro ⟨i, bf, Q, wq, gq⟩ ⟨hi, hB, hQ, hC, hva, hg, hbq, hhq⟩ ih
    simp only at hi hB hQ hC hva hg hbq hhq ih ⊢
    have hgl := hg.len
    have hgc := hg.cell
    have hQl := hQ.len hB
    rw [hN] at hQl
    simp only [List.length_map] at hgl
    by_cases hlt : i < Q.length
    · have go1 := fun bf Q wq gq c1 c2 c3 c4 c5 c6 c7 c8 => ih (i + 1, bf, Q, wq, gq) ⟨c1, c2, c3, c4, c5, c6, c7, c8⟩ (by simp; omega)
      clear ih
      obtain ⟨u, hu⟩ : ∃ u : Nat, Q[i]? = some (u : Int) := ⟨Q[i].toNat, by
        have := (hQ.q Q[i] (List.getElem_mem hlt)).1
        rw [List.getElem?_eq_getElem hlt]; congr 1; omega⟩
      refine Run2.of I 1000 ?_
      simp -implicitDefEqProofs [hlt, hgl]
      refine Run2.loopE (α := Nat × List Int × List Int × AV × Heap) (fun s => [(0, .ip [.int .i64 x.n, .int .i64 x.m, .snap 3 (x.ts.map T.av)]), (1, .snap 1 (x.forest.map iv)), (2, .int .i64 a), (3, .int .i64 b), (9, .sl idb 1 0 v none), (11, s.2.2.2.1), (12, .int .i64 (i : Nat)), (13, .int .i64 (s.1 : Nat))]) (fun s => s.2.2.2.2 ++ ((idb, ⟨1, s.2.1.map iv⟩) :: h)) (fun s => x.forest.length - s.1)
        (fun s => s.1 ≤ x.forest.length ∧ BP x a s.2.1 ∧ QB x s.2.1 s.2.2.1 ∧ CB x i s.2.1 s.2.2.1 ∧ 0 ≤ s.2.1.getD a.toNat (-1) ∧ Grow 1 s.2.2.2.1 (s.2.2.1.map iv) s.2.2.2.2 ∧ idb ∉ dom s.2.2.2.2 ∧ (∀ j ∈ dom s.2.2.2.2, j ∉ dom h) ∧ s.2.2.1[i]? = some (u : Int) ∧
          (∀ k (hk : k < x.forest.length), k < s.1 → ∀ (j : Nat) (hj : j < x.ts.length), x.forest[k] = (j : Int) → (x.ts[j].f = (u : Int) → 0 ≤ s.2.1.getD x.ts[j].t.toNat (-1)) ∧ (x.ts[j].t = (u : Int) → 0 ≤ s.2.1.getD x.ts[j].f.toNat (-1)))) (0, bf, Q, wq, gq) (by simp) rfl ⟨Nat.zero_le _, hB, hQ, hC, hva, hg, hbq, hhq, hu, fun k _ h => by simp at h⟩ ?_
      clear hi hB hQ hC hva hg hbq hhq hu hgl hgc hQl hlt
      rintro ⟨k, bf, Q, wq, gq⟩ ⟨hk, hB, hQ, hC, hva, hg, hbq, hhq, hu, hdo⟩ ih
      simp only at hk hB hQ hC hva hg hbq hhq hu hdo ih ⊢
      have hiQ : i < Q.length := (List.getElem?_eq_some_iff.1 hu).1
      have hQl := hQ.len hB
      rw [hN] at hQl
      have hui : Q[i] = (u : Int) := (List.getElem?_eq_some_iff.1 hu).2
      obtain ⟨idq, rfl, rfl⟩ := hg.ne (fun e => by have := congrArg List.length e; simp at this; rw [this] at hiQ; simp at hiQ)
      by_cases hkl : k < x.forest.length
      · have go2 := fun bf Q wq gq c2 c3 c4 c5 c6 c7 c8 c9 c10 => ih (k + 1, bf, Q, wq, gq) ⟨by simp; omega, c2, c3, c4, c5, c6, c7, c8, c9, c10⟩ (by simp; omega)
        clear ih go1
        obtain ⟨j, hj, hfj⟩ := inv.idx _ (List.getElem_mem hkl)
        have hfj : x.forest[k] = (j : Int) := hfj
        obtain ⟨q1, q2, q3, q4, q5⟩ := Ph.edge hv hj
        have hul : u < v := by have := bf_lt (hQ.q u (hui ▸ List.getElem_mem hiQ)).2; have := hB.ln; simp at *; omega
        have hbl : bf.length = v := by have := hB.ln; omega
        have hne : ¬ idq = idb := by simp [dom] at hbq; exact fun e => hbq e.symm
        have hqh : idq ∉ dom h := hhq idq (by simp [dom])
        have hdo1 : ∀ bf' : List Int, (∀ c : Nat, 0 ≤ bf.getD c (-1) → 0 ≤ bf'.getD c (-1)) → (x.ts[j].f = (u : Int) → 0 ≤ bf'.getD x.ts[j].t.toNat (-1)) → (x.ts[j].t = (u : Int) → 0 ≤ bf'.getD x.ts[j].f.toNat (-1)) → ∀ k' (hk : k' < x.forest.length), k' < k + 1 → ∀ (j : Nat) (hj : j < x.ts.length), x.forest[k'] = (j : Int) → (x.ts[j].f = (u : Int) → 0 ≤ bf'.getD x.ts[j].t.toNat (-1)) ∧ (x.ts[j].t = (u : Int) → 0 ≤ bf'.getD x.ts[j].f.toNat (-1)) := fun bf' m1 m2 m3 k' hk' hkk j' hj' e => by
          rcases Nat.lt_or_ge k' k with h | h
          · obtain ⟨r1, r2⟩ := hdo k' hk' h j' hj' e
            exact ⟨fun h => m1 _ (r1 h), fun h => m1 _ (r2 h)⟩
          · obtain rfl : k' = k := by omega
            obtain rfl : j' = j := by omega
            exact ⟨m2, m3⟩
        have huv : 0 ≤ bf.getD u (-1) := by simpa using (hQ.q u (hui ▸ List.getElem_mem hiQ)).2
        have tail : ∀ (w : Nat), w < v → x.adj u w → ((x.ts[j].f = (u : Int) ∧ x.ts[j].t = (w : Int)) ∨ (x.ts[j].f = (w : Int) ∧ x.ts[j].t = (u : Int))) → (¬ 0 ≤ bf.getD w (-1) → ∀ wq' gq', Grow 1 wq' ((Q ++ [(w : Int)]).map iv) gq' → (∀ j ∈ dom gq', j ∉ dom ((idb, ⟨1, (bf.set w u).map iv⟩) :: h)) → Run2 (k51_C (lk orcT2)) (.code k51_47 :: .inLoop k51_47 :: .inBlock 4 :: .inBlock 3 :: [.code k51_52, .inLoop k51_54, .inBlock 2, .code k51_72])
              [(0, .ip [.int .i64 x.n, .int .i64 x.m, .snap 3 (x.ts.map T.av)]), (1, .snap 1 (x.forest.map iv)), (2, .int .i64 a), (3, .int .i64 b), (9, .sl idb 1 0 v none), (11, wq'), (12, .int .i64 (i : Nat)), (13, .int .i64 ((k : Int) + 1))] (gq' ++ ((idb, ⟨1, (bf.set w u).map iv⟩) :: h)) (Post fun v h' => SP x.adj a b (x.path a b) ∧ v = .snap 1 ((x.path a b).map iv) ∧ h' = h)) ∧
            (0 ≤ bf.getD w (-1) → Run2 (k51_C (lk orcT2)) (.code k51_47 :: .inLoop k51_47 :: .inBlock 4 :: .inBlock 3 :: [.code k51_52, .inLoop k51_54, .inBlock 2, .code k51_72])
              [(0, .ip [.int .i64 x.n, .int .i64 x.m, .snap 3 (x.ts.map T.av)]), (1, .snap 1 (x.forest.map iv)), (2, .int .i64 a), (3, .int .i64 b), (9, .sl idb 1 0 v none), (11, .sl idq 1 0 Q.length none), (12, .int .i64 (i : Nat)), (13, .int .i64 ((k : Int) + 1))] ((idq, ⟨1, Q.map iv⟩) :: (idb, ⟨1, bf.map iv⟩) :: h) (Post fun v h' => SP x.adj a b (x.path a b) ∧ v = .snap 1 ((x.path a b).map iv) ∧ h' = h)) := by
          intro w hw hadj hend
          have hv1 : ∀ bf' : List Int, 0 ≤ bf'.getD w (-1) → (x.ts[j].f = (u : Int) → 0 ≤ bf'.getD x.ts[j].t.toNat (-1)) ∧ (x.ts[j].t = (u : Int) → 0 ≤ bf'.getD x.ts[j].f.toNat (-1)) := by
            intro bf' hh
            rcases hend with ⟨h1, h2⟩ | ⟨h1, h2⟩
            · exact ⟨fun _ => by rw [h2]; simpa using hh, fun e => by omega⟩
            · exact ⟨fun e => by omega, fun _ => by rw [h1]; simpa using hh⟩
          refine ⟨fun hnw wq' gq' hg' hf' => ?_, fun hvw => ?_⟩
          · have hm := fun c => bf_mono (bf := bf) (w := w) (by omega) (u := (u : Int)) (by omega) c
            have hset := bf_set (bf := bf) (b := w) (by omega) (u : Int)
            have hww : 0 ≤ (bf.set w (u : Int)).getD w (-1) := by rw [hset, if_pos rfl]; omega
            have := go2 (bf.set w u) (Q ++ [(w : Int)]) wq' gq' (hB.put hv huv hnw (by omega) (by omega) hadj) (hQ.put (by omega) hnw (by omega)) (hC.put (by omega) (by omega) (by omega)) (hm _ hva) hg' (fun hh => hf' _ hh (by simp [dom])) (fun j hj hj2 => hf' j hj (by simp [dom] at hj2 ⊢; exact .inr hj2)) (by rw [List.getElem?_append_left hiQ]; exact hu)
              (hdo1 _ hm (hv1 _ hww).1 (hv1 _ hww).2)
            simpa using this
          · have := go2 bf Q _ _ hB hQ hC hva hg (by simpa [dom] using Ne.symm hne) hhq hu (hdo1 _ (fun c h => h) (hv1 _ hvw).1 (hv1 _ hvw).2)
            simpa using this
        by_cases e1 : x.ts[j].f = (u : Int)
        · obtain ⟨w, hw⟩ : ∃ w : Nat, x.ts[j].t = (w : Int) := ⟨x.ts[j].t.toNat, by omega⟩
          have e2 : ¬ x.ts[j].t = (u : Int) := by omega
          have hwv : w < v := by omega
          obtain ⟨t1, t2⟩ := tail w hwv ⟨j, hj, hfj ▸ List.getElem_mem hkl, .inl ⟨e1, hw⟩⟩ (.inl ⟨e1, hw⟩)
          have hbw : w < bf.length := by omega
          have hgw : bf.getD w (-1) = bf[w] := by simp [hbw]
          rw [hgw] at t1 t2
          clear tail go2 hdo1 hdo
          have hwu : ¬ (w : Int) = (u : Int) := by omega
          have hset2 : (bf.map iv).set w (.int .i64 (u : Int)) = (bf.set w (u : Int)).map iv := by rw [List.map_set]; rfl
          have htk : List.take Q.length (Q.map iv) ++ [AV.int .i64 (w : Int)] = (Q ++ [(w : Int)]).map iv := by rw [List.take_of_length_le (by simp)]; simp [iv]
          refine Run2.of I 1000 ?_
          simp -implicitDefEqProofs [hkl, hfj, hj, hiQ, hui, e1, hw, hne, Ne.symm hne, hwv, hul, hbw, hwu, Ne.symm hwu]
          refine ⟨fun h1 => ⟨by omega, fun id g1 g2 => ?_⟩, fun h1 => ⟨by omega, ?_⟩⟩
          · refine gK.go ?_
            simp -implicitDefEqProofs
            refine ⟨by omega, ?_⟩
            rw [hset2, htk]
            have := t1 (by omega) (.sl id 1 0 (Q.length + 1) none) [(id, ⟨1, (Q ++ [(w : Int)]).map iv⟩)] (.sl id _ _ (by simp)) (fun j hj => by simp [dom] at hj; subst hj; simp only [dom, List.map_cons, List.mem_cons, not_or]; exact ⟨g1, g2⟩)
            simpa using this
          · exact t2 h1
        by_cases e2 : x.ts[j].t = (u : Int)
        · obtain ⟨w, hw⟩ : ∃ w : Nat, x.ts[j].f = (w : Int) := ⟨x.ts[j].f.toNat, by omega⟩
          have hwv : w < v := by omega
          obtain ⟨t1, t2⟩ := tail w hwv ⟨j, hj, hfj ▸ List.getElem_mem hkl, .inr ⟨hw, e2⟩⟩ (.inr ⟨hw, e2⟩)
          have hbw : w < bf.length := by omega
          have hgw : bf.getD w (-1) = bf[w] := by simp [hbw]
          rw [hgw] at t1 t2
          clear tail go2 hdo1 hdo
          have hwu : ¬ (w : Int) = (u : Int) := by omega
          have hset2 : (bf.map iv).set w (.int .i64 (u : Int)) = (bf.set w (u : Int)).map iv := by rw [List.map_set]; rfl
          have htk : List.take Q.length (Q.map iv) ++ [AV.int .i64 (w : Int)] = (Q ++ [(w : Int)]).map iv := by rw [List.take_of_length_le (by simp)]; simp [iv]
          refine Run2.of I 1000 ?_
          simp -implicitDefEqProofs [hkl, hfj, hj, hiQ, hui, hw, e2, hne, Ne.symm hne, hwv, hul, hbw, hwu, Ne.symm hwu]
          refine ⟨fun h1 => ⟨by omega, fun id g1 g2 => ?_⟩, fun h1 => ⟨by omega, ?_⟩⟩
          · refine gK.go ?_
            simp -implicitDefEqProofs
            refine ⟨by omega, ?_⟩
            rw [hset2, htk]
            have := t1 (by omega) (.sl id 1 0 (Q.length + 1) none) [(id, ⟨1, (Q ++ [(w : Int)]).map iv⟩)] (.sl id _ _ (by simp)) (fun j hj => by simp [dom] at hj; subst hj; simp only [dom, List.map_cons, List.mem_cons, not_or]; exact ⟨g1, g2⟩)
            simpa using this
          · exact t2 h1
        · clear tail
          have := go2 bf Q _ _ hB hQ hC hva hg (by simpa [dom] using Ne.symm hne) hhq hu (hdo1 _ (fun c h => h) (fun e => absurd e e1) (fun e => absurd e e2))
          clear go2
          refine Run2.of I 1000 ?_
          simp -implicitDefEqProofs [hkl, hfj, hj, hiQ, hui, e1, e2, hne, Ne.symm hne, hul]
          exact ⟨by omega, by simpa using this⟩
      · obtain rfl : k = x.forest.length := by omega
        have := go1 bf Q _ _ (by simp only; omega) hB hQ (hC.next hu fun w hw => by
          obtain ⟨j, hj, hm, hh⟩ := hw
          obtain ⟨k', hk', e⟩ := List.mem_iff_getElem.1 hm
          obtain ⟨r1, r2⟩ := hdo k' hk' hk' j hj e
          rcases hh with ⟨h1, h2⟩ | ⟨h1, h2⟩
          · rw [← h2]; exact r1 h1
          · rw [← h1]; exact r2 h2) hva hg hbq hhq
        refine Run2.of I 1000 ?_
        simp -implicitDefEqProofs
        exact ⟨by omega, by simpa using this⟩
    · obtain rfl : i = Q.length := by omega
      clear ih
      have hcl : ∀ (u : Nat) (w : Int), 0 ≤ bf.getD u (-1) → x.adj u w → 0 ≤ bf.getD w.toNat (-1) := fun u w hu hw => by
        rcases hC u hu with ⟨j, h1, h2⟩ | h1
        · have := (List.getElem?_eq_some_iff.1 h2).1; omega
        · exact h1 w hw
      have hvb : 0 ≤ bf.getD b.toNat (-1) := by
        refine (inv.part (fun u => 0 ≤ bf.getD u (-1)) (fun j hj hm => ?_) a.toNat b.toNat (by omega) (by omega) hab).1 hva
        obtain ⟨q1, q2, q3, q4, q5⟩ := Ph.edge hv hj
        refine ⟨fun h1 => hcl _ _ h1 ⟨j, hj, hm, .inl ⟨by omega, rfl⟩⟩, fun h1 => hcl _ _ h1 ⟨j, hj, hm, .inr ⟨rfl, by omega⟩⟩⟩
      have hbl : bf.length = v := by have := hB.ln; omega
      have hsb : SP x.adj a b (x.path a b) := by have := (hB.sp _ hvb).1; rwa [Int.toNat_of_nonneg hb.1] at this
      have hpl := Ph.sp_len hv hsb ha
      rw [hN] at hpl
      refine Run2.of I 1000 ?_
      simp -implicitDefEqProofs [hgl]
      intro ido g1 g2 g3
      refine gK.go ?_
      simp -implicitDefEqProofs
      refine Run2.sub (h' := (ido, ⟨1, [.int .i64 b]⟩) :: (idb, ⟨1, bf.map iv⟩) :: h) ?_ ?_ ?_
      · intro p hp
        rcases List.mem_cons.1 hp with rfl | hp
        · exact List.mem_cons_self ..
        · exact List.mem_cons_of_mem _ (List.mem_append_right _ hp)
      · intro nd
        simp only [dom, List.map_cons, List.nodup_cons, List.map_append, List.nodup_append] at nd ⊢
        refine ⟨fun hm => nd.1 (List.mem_append_right _ ?_), nd.2.2.1⟩
        simpa using hm
      refine Run2.wk (e' := [(2, .int .i64 a), (3, .int .i64 b), (9, .sl idb 1 0 v none), (16, .sl ido 1 0 1 none)]) (fun t => ?_) ?_
      · simp only [eget]
        repeat' split
        all_goals first | exact Wk.refl _ | exact Wk.cap _ _ _ _ _
      refine Run2.loopE (α := Nat × List Int × Nat) (fun s => [(2, .int .i64 a), (3, .int .i64 (s.1 : Nat)), (9, .sl idb 1 0 v none), (16, .sl s.2.2 1 0 s.2.1.length none)]) (fun s => (s.2.2, ⟨1, s.2.1.map iv⟩) :: (idb, ⟨1, bf.map iv⟩) :: h) (fun s => (x.path a (s.1 : Nat)).length)
        (fun s => 0 ≤ bf.getD s.1 (-1) ∧ x.path a b = (x.path a (s.1 : Nat)).dropLast ++ s.2.1 ∧ s.2.1 ≠ [] ∧ s.2.2 ≠ idb ∧ s.2.2 ∉ dom h) (b.toNat, [b], ido) (by simp [Int.toNat_of_nonneg hb.1]) (by simp [iv]) ⟨hvb, ?_, by simp, g2, g3⟩ ?_
      · simp only
        rw [Int.toNat_of_nonneg hb.1]
        have := hsb.la
        obtain ⟨q, e⟩ := List.getLast?_eq_some_iff.1 this
        rw [e]; simp
      clear hg hbq hhq hgl hgc hQ hC g1 g2 g3
      rintro ⟨u, out, ido⟩ ⟨hvu, hpo, hon, h1, h2⟩ ih
      simp only at hvu hpo hon h1 h2 ih ⊢
      have hlo : out.length ≤ 12 := by have := congrArg List.length hpo; simp at this; omega
      have hul := bf_lt hvu
      have huv : u < v := by omega
      have hou : bf.getD u (-1) = bf[u] := by simp [hul]
      by_cases hua : (u : Int) = a
      · subst hua
        have e : out = x.path (u : Int) b := by rw [hpo, hpa]; rfl
        refine Run2.of I 1000 ?_
        simp -implicitDefEqProofs [h1, h2]
        refine .freeze ido (by simp [hget]; rfl) (.drop idb (.base ?_))
        simp [hdel, h1, Ne.symm h1]
        rw [← e, List.take_of_length_le (by simp)]
        exact ⟨by rw [e]; exact hsb, rfl⟩
      · obtain ⟨k1, k2⟩ := hB.bk u hvu hua
        rw [hou] at k1 k2
        have hb0 : 0 ≤ bf[u] := by omega
        obtain ⟨w, hw⟩ : ∃ w : Nat, bf[u] = (w : Int) := ⟨bf[u].toNat, by omega⟩
        rw [hw] at k1 k2
        rw [Int.toNat_natCast] at k1
        have e2 : x.path a b = (x.path a (w : Int)).dropLast ++ (w : Int) :: out := by
          rw [hpo, k2, List.dropLast_concat]
          have := (hB.sp w k1).1.la
          obtain ⟨q, e⟩ := List.getLast?_eq_some_iff.1 this
          rw [e, List.dropLast_concat]; simp
        have go := fun id2 q1 q2 => ih (w, (w : Int) :: out, id2) ⟨k1, e2, by simp, q1, q2⟩ (by simp [k2])
        clear ih
        obtain ⟨o, os, rfl⟩ : ∃ o os, out = o :: os := by cases out with
          | nil => exact absurd rfl hon
          | cons o os => exact ⟨o, os, rfl⟩
        refine Run2.of I 1000 ?_
        simp -implicitDefEqProofs [h1, h2, hua, huv, hul, hw, hon, Ne.symm h1]
        intro id f1 f2 f3
        refine gK.go ?_
        simp -implicitDefEqProofs [f1, Ne.symm f1]
        simp only [List.length_cons] at hlo
        refine ⟨fun hh => by omega, by omega, fun id2 r1 r2 r3 r4 => ?_⟩
        refine gK.go ?_
        simp -implicitDefEqProofs
        refine Run2.sub (h' := (id2, ⟨1, (((w : Int) :: o :: os).map iv)⟩) :: (idb, ⟨1, bf.map iv⟩) :: h) ?_ ?_ ?_
        · intro p hp
          rcases List.mem_cons.1 hp with rfl | hp
          · simp [iv, List.take_of_length_le]
          · exact List.mem_cons_of_mem _ (List.mem_cons_of_mem _ (List.mem_cons_of_mem _ hp))
        · intro nd
          simp only [dom, List.map_cons, List.nodup_cons, List.mem_cons, not_or] at nd ⊢
          exact ⟨⟨r3, nd.1.2.2.2⟩, nd.2.2.2⟩
        have := go id2 r3 r4
        have e3 : 1 + (os.length + 1) = os.length + 1 + 1 := by omega
        rw [e3]
        simpa using this
noncomputable def o_l23Path : List AV → Option (Prop × AV) := tab (fun (x : Int × Int × List T × List Int × Int × Int) => match x with | (n, m, ts, l, a, b) => [.ip [.int .i64 n, .int .i64 m, .snap 3 (ts.map T.av)], .snap 1 (l.map iv), .int .i64 a, .int .i64 b]) (fun x => match x with | (n, m, ts, l, a, b) => ((Ph.valid ⟨n, m, ts⟩ ∧ l = Ph.forest ⟨n, m, ts⟩) ∧ (0 ≤ a ∧ a < n) ∧ (0 ≤ b ∧ b < n) ∧ (Ph.parts ⟨n, m, ts⟩).getD a.toNat 0 = (Ph.parts ⟨n, m, ts⟩).getD b.toNat 0)) (fun x => match x with | (n, m, ts, l, a, b) => .snap 1 ((Ph.path ⟨n, m, ts⟩ a b).map iv))
@[simp] theorem o_l23Path_e (n : Int) (m : Int) (ts : List T) (l : List Int) (a : Int) (b : Int) : o_l23Path [.ip [.int .i64 n, .int .i64 m, .snap 3 (ts.map T.av)], .snap 1 (l.map iv), .int .i64 a, .int .i64 b] = some (((Ph.valid ⟨n, m, ts⟩ ∧ l = Ph.forest ⟨n, m, ts⟩) ∧ (0 ≤ a ∧ a < n) ∧ (0 ≤ b ∧ b < n) ∧ (Ph.parts ⟨n, m, ts⟩).getD a.toNat 0 = (Ph.parts ⟨n, m, ts⟩).getD b.toNat 0), .snap 1 ((Ph.path ⟨n, m, ts⟩ a b).map iv)) := tab_at (enc := fun (x : Int × Int × List T × List Int × Int × Int) => match x with | (n, m, ts, l, a, b) => [.ip [.int .i64 n, .int .i64 m, .snap 3 (ts.map T.av)], .snap 1 (l.map iv), .int .i64 a, .int .i64 b]) (fun x y h => by
  obtain ⟨n1, m1, ts1, l1, a1, b1⟩ := x; obtain ⟨n2, m2, ts2, l2, a2, b2⟩ := y; simp at h; simp [h] <;> omega) _ _ (n, m, ts, l, a, b)
theorem o_l23Path_k : Knows Try.prog 51 o_l23Path := tab_knows fun x hx h => by
  obtain ⟨n, m, ts, l, a, b⟩ := x; exact (by obtain ⟨⟨h1, rfl⟩, h2, h3, h4⟩ := hx; exact (l23Path_w ⟨n, m, ts⟩ a b h h1 h2 h3 h4).mono fun v h' e => e.2)
end Go.AG
