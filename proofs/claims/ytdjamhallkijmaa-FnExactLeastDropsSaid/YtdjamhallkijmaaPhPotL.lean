/- The plain law of the phases along a forest. No statement is made here. -/
import Derived.Test.YtdjamhallkijmaaPhBfs
namespace Go.AG
open Go.Proofs Go.Proofs.Ytdjamhallkijmaa
set_option linter.unusedSimpArgs false
set_option linter.unusedVariables false
/-- What the parts, the phases and the joining edges have to do with each other. -/
structure FInv (x : Ph) (s : List Int × List Int × List Int) : Prop where
  idx : ∀ k ∈ s.2.2, ∃ (j : Nat) (h : j < x.ts.length), k = (j : Int)
  edge : ∀ (j : Nat) (h : j < x.ts.length), (j : Int) ∈ s.2.2 → s.1.getD x.ts[j].f.toNat 0 = s.1.getD x.ts[j].t.toNat 0 ∧ (s.2.1.getD x.ts[j].f.toNat 0 + x.ts[j].s - s.2.1.getD x.ts[j].t.toNat 0) % x.m = 0
  part : ∀ (V : Nat → Prop), (∀ (j : Nat) (h : j < x.ts.length), (j : Int) ∈ s.2.2 → (V x.ts[j].f.toNat ↔ V x.ts[j].t.toNat)) → ∀ u v, u < x.n.toNat → v < x.n.toNat → s.1.getD u 0 = s.1.getD v 0 → (V u ↔ V v)
theorem getD_map_int (f : Int → Int) (l : List Int) {v : Nat} (hv : v < l.length) : (l.map f).getD v 0 = f (l.getD v 0) := by simp [hv]
theorem getD_zip_int (f : Int → Int → Int) (l l' : List Int) {v : Nat} (hv : v < l.length) (hv' : v < l'.length) : (List.zipWith f l l').getD v 0 = f (l.getD v 0) (l'.getD v 0) := by
  have : v < (List.zipWith f l l').length := by simp; omega
  rw [List.getD_eq_getElem?_getD, List.getElem?_eq_getElem this]
  simp [hv, hv']
theorem mod_shift {m A B s d : Int} (h : (A + s - B) % m = 0) : ((A + d) % m + s - (B + d) % m) % m = 0 := by
  obtain ⟨k, hk⟩ := Int.dvd_of_emod_eq_zero h
  refine Int.emod_eq_zero_of_dvd ⟨k - (A + d) / m + (B + d) / m, ?_⟩
  rw [Int.emod_def, Int.emod_def, Int.mul_add, Int.mul_sub, ← hk]
  omega
theorem mod_new {m A B s : Int} : (A + s - (B + (A + s - B) % m) % m) % m = 0 := by
  refine Int.emod_eq_zero_of_dvd ⟨(A + s - B) / m + (B + (A + s - B) % m) / m, ?_⟩
  rw [Int.mul_add]
  have h1 := Int.emod_def (B + (A + s - B) % m) m
  have h2 := Int.emod_def (A + s - B) m
  omega
theorem FInv.step {x : Ph} (hv : x.valid) {i : Nat} (hi : i < x.ts.length) {s : List Int × List Int × List Int} (o : FOk x s) (I : FInv x s) : FInv x (fstep x i s) := by
  have hm1 := hv.2.2.1
  obtain ⟨e1, e2, e3, e4, e5⟩ := Ph.edge hv hi
  obtain ⟨P, F, out⟩ := s
  have oP := o.p
  have oF := o.f
  simp only at oP oF
  unfold fstep
  have ht : x.ts.getD i default = x.ts[i] := by simp [hi]
  simp only [ht]
  split
  · exact I
  rename_i hab
  generalize ha : P.getD x.ts[i].f.toNat 0 = a at hab ⊢
  generalize hb : P.getD x.ts[i].t.toNat 0 = b at hab ⊢
  generalize hd : (F.getD x.ts[i].f.toNat 0 + x.ts[i].s - F.getD x.ts[i].t.toNat 0) % x.m = d
  have fN : ∀ (j : Nat) (h : j < x.ts.length), x.ts[j].f.toNat < x.n.toNat ∧ x.ts[j].t.toNat < x.n.toNat := fun j h => by
    obtain ⟨q1, q2, q3, _, _⟩ := Ph.edge hv h
    exact ⟨by omega, by omega⟩
  refine ⟨?_, ?_, ?_⟩
  · intro k hk
    rcases List.mem_append.1 hk with hk | hk
    · exact I.idx k hk
    · rw [List.mem_singleton] at hk; exact ⟨i, hi, hk⟩
  · intro j hj hjm
    obtain ⟨f1, f2⟩ := fN j hj
    simp only
    rw [getD_map_int _ _ (by omega), getD_map_int _ _ (by omega), getD_zip_int _ _ _ (by omega) (by omega), getD_zip_int _ _ _ (by omega) (by omega)]
    have hjm : (j : Int) ∈ out ∨ j = i := by
      rcases List.mem_append.1 hjm with h | h
      · exact .inl h
      · rw [List.mem_singleton] at h; exact .inr (by omega)
    rcases hjm with hjm | rfl
    · obtain ⟨q1, q2⟩ := I.edge j hj hjm
      simp only at q1 q2
      rw [q1]
      refine ⟨rfl, ?_⟩
      split
      · exact mod_shift q2
      · exact q2
    · rw [ha, hb, if_neg hab, if_pos rfl]
      refine ⟨rfl, ?_⟩
      rw [if_neg hab, if_pos rfl, ← hd]
      exact mod_new
  · intro V hV u v hu hvv huv
    simp only at huv
    rw [getD_map_int _ _ (by omega), getD_map_int _ _ (by omega)] at huv
    have hold := I.part V fun j hj hjm => hV j hj (List.mem_append_left _ hjm)
    have hnew := hV i hi (List.mem_append_right _ (List.mem_singleton.2 rfl))
    obtain ⟨f1, f2⟩ := fN i hi
    have ua : ∀ w, w < x.n.toNat → P.getD w 0 = a → (V w ↔ V x.ts[i].f.toNat) := fun w hw h => hold w _ hw f1 (by simp only; rw [h, ha])
    have ub : ∀ w, w < x.n.toNat → P.getD w 0 = b → (V w ↔ V x.ts[i].f.toNat) := fun w hw h => (hold w _ hw f2 (by simp only; rw [h, hb])).trans hnew.symm
    split at huv <;> split at huv
    · rename_i h1 h2; exact (ub u hu h1).trans (ub v hvv h2).symm
    · rename_i h1 h2; exact (ub u hu h1).trans (ua v hvv huv.symm).symm
    · rename_i h1 h2; exact (ua u hu huv).trans (ub v hvv h2).symm
    · exact hold u v hu hvv huv
theorem fstate_inv {x : Ph} (hv : x.valid) : ∀ i, i ≤ x.ts.length → FInv x (fstate x i)
  | 0, _ => ⟨fun k hk => by simp [fstate] at hk, fun j h hj => by simp [fstate] at hj, fun V _ u v hu hvv huv => by
    simp [fstate, hu, hvv] at huv
    obtain rfl : u = v := by omega
    exact Iff.rfl⟩
  | i + 1, hi => (fstate_inv hv i (by omega)).step hv (by omega) (fstate_ok hv.2.2.1 i)
/-- The parts at the end. -/
def Ph.parts (x : Ph) : List Int := (fstate x x.ts.length).1
theorem Ph.parts_len {x : Ph} (hv : x.valid) : x.parts.length = x.n.toNat := (fstate_ok hv.2.2.1 _).p
theorem Ph.pots_len {x : Ph} (hv : x.valid) : x.pots.length = x.n.toNat := by
  have := (fstate_ok hv.2.2.1 x.ts.length).f
  simp [Ph.pots, norm2, norm1, this]
theorem Ph.pots_get {x : Ph} (hv : x.valid) {v : Nat} (h : v < x.n.toNat) : x.pots.getD v 0 = ((fstate x x.ts.length).2.1.getD v 0 - (fstate x x.ts.length).2.1.getD (fsti x.parts v) 0) % x.m := by
  have oF := (fstate_ok hv.2.2.1 x.ts.length).f
  have oP := (fstate_ok hv.2.2.1 x.ts.length).p
  obtain ⟨hk, _⟩ := fsti_spec (P := x.parts) (v := v) (by rw [Ph.parts_len hv]; exact h)
  unfold Ph.pots
  generalize hF : (fstate x x.ts.length).2.1 = F at *
  rw [show (fstate x x.ts.length).1 = x.parts from rfl]
  have h1 : v < F.length := by omega
  have e1 : (norm2 x.parts (norm1 x.m x.parts F)).getD v 0 = if fsti x.parts v = v then 0 else (norm1 x.m x.parts F).getD v 0 := by
    have : v < (norm1 x.m x.parts F).length := by simp [norm1]; omega
    simp [norm2, this]
  have e2 : (norm1 x.m x.parts F).getD v 0 = if fsti x.parts v < v then (F.getD v 0 - F.getD (fsti x.parts v) 0) % x.m else F.getD v 0 := by simp [norm1, h1]
  rw [e1]
  split
  · rename_i h2; rw [h2]; simp
  · rw [e2, if_pos (by omega)]
theorem Ph.pots_b {x : Ph} (hv : x.valid) {v : Nat} (h : v < x.n.toNat) : 0 ≤ x.pots.getD v 0 ∧ x.pots.getD v 0 < x.m := by
  have := hv.2.2.1
  rw [Ph.pots_get hv h]
  exact ⟨Int.emod_nonneg _ (by omega), Int.emod_lt_of_pos _ (by omega)⟩
theorem Ph.pots_root {x : Ph} (hv : x.valid) {v : Nat} (h : v < x.n.toNat) (hr : fsti x.parts v = v) : x.pots.getD v 0 = 0 := by
  rw [Ph.pots_get hv h, hr]; simp
theorem fsti_eq {P : List Int} {u v : Nat} (h : P.getD u 0 = P.getD v 0) : fsti P u = fsti P v := by unfold fsti; rw [h]
theorem mod_edge {m A B s c : Int} (hm : 0 < m) (h : (A + s - B) % m = 0) : ((A - c) % m + s) % m = (B - c) % m := by
  obtain ⟨k, hk⟩ := Int.dvd_of_emod_eq_zero h
  rw [Int.emod_add_emod]
  rw [show A - c + s = B - c + m * k by omega, Int.add_mul_emod_self_left]
theorem Ph.pots_edge {x : Ph} (hv : x.valid) {j : Nat} (hj : j < x.ts.length) (hm : (j : Int) ∈ x.forest) : (x.pots.getD x.ts[j].f.toNat 0 + x.ts[j].s) % x.m = x.pots.getD x.ts[j].t.toNat 0 := by
  obtain ⟨q1, q2, q3, _, _⟩ := Ph.edge hv hj
  have hm1 := hv.2.2.1
  obtain ⟨i1, i2⟩ := (fstate_inv hv _ (Nat.le_refl _)).edge j hj hm
  rw [Ph.pots_get hv (by omega), Ph.pots_get hv (by omega), fsti_eq (P := x.parts) i1]
  exact mod_edge (by omega) i2
/-- What one edge of the forest leads to. -/
theorem Ph.fg_step {x : Ph} (hv : x.valid) {a b d : Int} (h : x.fgraph.step a b = some d) : ∃ (j : Nat) (hj : j < x.ts.length), (j : Int) ∈ x.forest ∧ ((x.ts[j].f = a ∧ x.ts[j].t = b ∧ d = x.ts[j].s) ∨ (x.ts[j].f = b ∧ x.ts[j].t = a ∧ d = x.m - x.ts[j].s)) := by
  unfold Ph.step at h
  cases hf : x.fgraph.ts.find? (T.joins a b) with
  | none => rw [hf] at h; cases h
  | some t =>
    rw [hf] at h
    have ht := List.mem_of_find?_eq_some hf
    have hq := List.find?_some hf
    obtain ⟨k, hk, _, hk2, e⟩ := (kept_mem (ts := x.ts) (q := fun k => decide (k ∈ x.forest)) (Nat.le_refl _)).1 ht
    simp only [Option.map_some, Option.some.injEq] at h
    refine ⟨k, hk, by simpa using hk2, ?_⟩
    subst e
    split at h
    · rename_i h1; exact .inl ⟨h1.1, h1.2, h.symm⟩
    · rename_i h1
      simp [T.joins] at hq
      rcases hq with hq | hq
      · exact absurd hq h1
      · exact .inr ⟨hq.1, hq.2, h.symm⟩
theorem Ph.pots_step {x : Ph} (hv : x.valid) {a b d : Int} (h : x.fgraph.step a b = some d) : (x.pots.getD a.toNat 0 + d) % x.m = x.pots.getD b.toNat 0 := by
  have hm1 := hv.2.2.1
  obtain ⟨j, hj, hm, h1 | h1⟩ := Ph.fg_step hv h
  · obtain ⟨rfl, rfl, rfl⟩ := h1
    exact Ph.pots_edge hv hj hm
  · obtain ⟨rfl, rfl, rfl⟩ := h1
    obtain ⟨q1, q2, q3, _, _⟩ := Ph.edge hv hj
    have hb := Ph.pots_b hv (v := x.ts[j].f.toNat) (by omega)
    rw [← Ph.pots_edge hv hj hm, Int.emod_add_emod, show x.pots.getD x.ts[j].f.toNat 0 + x.ts[j].s + (x.m - x.ts[j].s) = x.pots.getD x.ts[j].f.toNat 0 + x.m * 1 by omega, Int.add_mul_emod_self_left]
    exact Int.emod_eq_of_lt hb.1 hb.2
/-- A forest's edge can be taken both ways. -/
theorem Ph.fg_edge {x : Ph} (hv : x.valid) {j : Nat} (hj : j < x.ts.length) (hm : (j : Int) ∈ x.forest) : (∃ d, x.fgraph.step x.ts[j].f x.ts[j].t = some d) ∧ ∃ d, x.fgraph.step x.ts[j].t x.ts[j].f = some d := by
  have hmem : x.ts[j] ∈ x.fgraph.ts := (kept_mem (ts := x.ts) (q := fun k => decide (k ∈ x.forest)) (Nat.le_refl _)).2 ⟨j, hj, hj, by simpa using hm, rfl⟩
  have key : ∀ a b, T.joins a b x.ts[j] = true → ∃ d, x.fgraph.step a b = some d := by
    intro a b h
    unfold Ph.step
    cases hf : x.fgraph.ts.find? (T.joins a b) with
    | none => rw [List.find?_eq_none] at hf; exact absurd h (hf _ hmem)
    | some t => exact ⟨_, rfl⟩
  exact ⟨key _ _ (by simp [T.joins]), key _ _ (by simp [T.joins])⟩
/-- A node that is not reached from less nodes is the least of its part. -/
theorem Ph.root_of {x : Ph} (hv : x.valid) (V : Nat → Prop) (hc : ∀ (a b : Nat) (d : Int), V a → x.fgraph.step a b = some d → V b) {v : Nat} (h : v < x.n.toNat) (hb : ∀ u, u < v → V u) (hn : ¬ V v) : fsti x.parts v = v := by
  have hlen := Ph.parts_len hv
  obtain ⟨hk, h1, h2⟩ := fsti_spec (P := x.parts) (v := v) (by omega)
  rcases Nat.lt_or_ge (fsti x.parts v) v with hlt | hge
  · exfalso
    refine hn (((fstate_inv hv _ (Nat.le_refl _)).part V ?_ (fsti x.parts v) v (by omega) h ?_).1 (hb _ hlt))
    · intro j hj hm
      obtain ⟨q1, q2, q3, _, _⟩ := Ph.edge hv hj
      obtain ⟨⟨d1, g1⟩, ⟨d2, g2⟩⟩ := Ph.fg_edge hv hj hm
      exact ⟨fun hV => hc _ _ d1 hV (by rw [Int.toNat_of_nonneg q1, Int.toNat_of_nonneg (by omega)]; exact g1), fun hV => hc _ _ d2 hV (by rw [Int.toNat_of_nonneg q1, Int.toNat_of_nonneg (by omega)]; exact g2)⟩
    · rw [show (fstate x x.ts.length).1 = x.parts from rfl]
      simpa [show v < x.parts.length by omega, show fsti x.parts v < x.parts.length by omega] using h1
  · omega
/-! ## Going through a part -/
def Vis (ps : List (List Int)) (u : Nat) : Prop := ps.getD u [] ≠ []
instance (ps : List (List Int)) (u : Nat) : Decidable (Vis ps u) := by unfold Vis; infer_instance
theorem Vis.lt {ps : List (List Int)} {u : Nat} (h : Vis ps u) : u < ps.length := by
  rcases Nat.lt_or_ge u ps.length with h1 | h1
  · exact h1
  · exact absurd (by simp [h1]) h
theorem vis_set {ps : List (List Int)} {b : Nat} {l : List Int} (hb : b < ps.length) (hl : l ≠ []) (u : Nat) : Vis (ps.set b l) u ↔ Vis ps u ∨ u = b := by
  unfold Vis
  by_cases h : u = b
  · subst h; simp [hb, hl]
  · simp [List.getElem?_set, Ne.symm h, h]
def cntE : List (List Int) → Nat
  | [] => 0
  | l :: ls => (if l = [] then 1 else 0) + cntE ls
theorem cntE_set : ∀ {ps : List (List Int)} {b : Nat} {l : List Int}, b < ps.length → ¬ Vis ps b → l ≠ [] → cntE (ps.set b l) + 1 = cntE ps
  | p :: ps, 0, l, _, hb, hl => by
    have : p = [] := by simpa [Vis] using hb
    simp [cntE, hl, this]; omega
  | p :: ps, b + 1, l, h, hb, hl => by
    have := cntE_set (ps := ps) (b := b) (l := l) (by simpa using h) (by simpa [Vis] using hb) hl
    simp only [List.set_cons_succ, cntE]; omega
theorem cntE_le : ∀ ps : List (List Int), cntE ps ≤ ps.length
  | [] => by simp [cntE]
  | l :: ps => by have := cntE_le ps; simp only [cntE, List.length_cons]; split <;> omega
structure BI (x : Ph) (PQ : Nat → List Int → Prop) (ph : List Int) (ps : List (List Int)) : Prop where
  l1 : ph.length = x.n.toNat
  l2 : ps.length = x.n.toNat
  eq : ∀ u, Vis ps u → ph.getD u 0 = x.pots.getD u 0
  pq : ∀ u, Vis ps u → PQ u (ps.getD u [])
  nd : ∀ u, Vis ps u → ∀ c ∈ ps.getD u [], 0 ≤ c ∧ Vis ps c.toNat
  sz : ∀ u, u < ps.length → (ps.getD u []).length + cntE ps ≤ x.n.toNat
  z : ∀ u, ¬ Vis ps u → ph.getD u 0 = 0
structure QI (x : Ph) (v : Nat) (Q : List Int) (ps : List (List Int)) : Prop where
  q : ∀ c ∈ Q, 0 ≤ c ∧ Vis ps c.toNat
  low : ∀ u, u < v + 1 → Vis ps u
  cnt : Q.length + cntE ps ≤ x.n.toNat
def CL (x : Ph) (k : Nat) (Q : List Int) (ps : List (List Int)) : Prop := ∀ a : Nat, Vis ps a → (∃ j, k ≤ j ∧ Q[j]? = some (a : Int)) ∨ ∀ (b : Nat) d, x.fgraph.step a b = some d → Vis ps b
theorem BI.put {x : Ph} {PQ : Nat → List Int → Prop} {ph : List Int} {ps : List (List Int)} (I : BI x PQ ph ps) {b : Nat} {p : Int} {l : List Int} (hb : b < x.n.toNat) (hn : ¬ Vis ps b) (hl : l ≠ []) (hp : p = x.pots.getD b 0) (hq : PQ b l) (hc : ∀ c ∈ l, 0 ≤ c ∧ (Vis ps c.toNat ∨ c.toNat = b)) (hsz : l.length + cntE ps ≤ x.n.toNat + 1) :
    BI x PQ (ph.set b p) (ps.set b l) := by
  have hb2 : b < ps.length := by rw [I.l2]; exact hb
  have hb1 : b < ph.length := by rw [I.l1]; exact hb
  have hV := vis_set hb2 hl
  have hg : (ps.set b l).getD b [] = l := by simp [hb2]
  have hg2 : ∀ u, u ≠ b → (ps.set b l).getD u [] = ps.getD u [] := fun u hu => by simp [List.getElem?_set, Ne.symm hu]
  have hcn := cntE_set hb2 hn hl
  refine ⟨by simp [I.l1], by simp [I.l2], fun u hu => ?_, fun u hu => ?_, fun u hu c hcm => ?_, fun u hu => ?_, fun u hu => ?_⟩
  · by_cases hub : u = b
    · subst hub; simp [hb1, hp]
    · rcases (hV u).1 hu with h | h
      · rw [← I.eq u h]; simp [List.getElem?_set, Ne.symm hub]
      · exact absurd h hub
  · by_cases hub : u = b
    · subst hub; rw [hg]; exact hq
    · rcases (hV u).1 hu with h | h
      · rw [hg2 u hub]; exact I.pq u h
      · exact absurd h hub
  · by_cases hub : u = b
    · subst hub
      rw [hg] at hcm
      obtain ⟨c1, c2⟩ := hc c hcm
      exact ⟨c1, (hV _).2 c2⟩
    · rcases (hV u).1 hu with h | h
      · rw [hg2 u hub] at hcm
        obtain ⟨c1, c2⟩ := I.nd u h c hcm
        exact ⟨c1, (hV _).2 (.inl c2)⟩
      · exact absurd h hub
  · by_cases hub : u = b
    · subst hub; rw [hg]; omega
    · rw [hg2 u hub]
      have := I.sz u (by simpa using hu)
      omega
  · have hub : ¬ u = b := fun hh => hu ((hV u).2 (.inr hh))
    have := I.z u fun hh => hu ((hV u).2 (.inl hh))
    simpa [List.getElem?_set, Ne.symm hub] using this
theorem QI.put {x : Ph} {v : Nat} {Q : List Int} {ps : List (List Int)} (I : QI x v Q ps) {b : Nat} {l : List Int} (hb2 : b < ps.length) (hn : ¬ Vis ps b) (hl : l ≠ []) : QI x v (Q ++ [(b : Int)]) (ps.set b l) := by
  have hV := vis_set hb2 hl
  have hcn := cntE_set hb2 hn hl
  refine ⟨fun c hc => ?_, fun u hu => (hV u).2 (.inl (I.low u hu)), ?_⟩
  · rcases List.mem_append.1 hc with hc | hc
    · exact ⟨(I.q c hc).1, (hV _).2 (.inl (I.q c hc).2)⟩
    · rw [List.mem_singleton] at hc; subst hc
      exact ⟨by omega, (hV _).2 (.inr (by simp))⟩
  · have := I.cnt
    simp only [List.length_append, List.length_cons, List.length_nil]; omega
theorem CL.put {x : Ph} {k : Nat} {Q : List Int} {ps : List (List Int)} (hk : k ≤ Q.length) (I : CL x k Q ps) {b : Nat} {l : List Int} (hb2 : b < ps.length) (hl : l ≠ []) : CL x k (Q ++ [(b : Int)]) (ps.set b l) := by
  have hV := vis_set hb2 hl
  intro a ha
  rcases (hV a).1 ha with h | h
  · rcases I a h with ⟨j, h1, h2⟩ | h1
    · exact .inl ⟨j, h1, by rw [List.getElem?_append_left (List.getElem?_eq_some_iff.1 h2).1]; exact h2⟩
    · exact .inr fun c d hcd => (hV c).2 (.inl (h1 c d hcd))
  · subst h
    exact .inl ⟨Q.length, hk, by simp⟩
theorem CL.next {x : Ph} {k : Nat} {Q : List Int} {ps : List (List Int)} (hk : k < Q.length) (I : CL x k Q ps) (hd : ∀ (a : Nat), Q[k] = (a : Int) → ∀ (b : Nat) d, x.fgraph.step a b = some d → Vis ps b) : CL x (k + 1) Q ps := by
  intro a ha
  rcases I a ha with ⟨j, h1, h2⟩ | h1
  · rcases Nat.lt_or_ge k j with h | h
    · exact .inl ⟨j, h, h2⟩
    · obtain rfl : j = k := by omega
      exact .inr (hd a (by rw [List.getElem?_eq_getElem hk] at h2; simpa using h2))
  · exact .inr h1
theorem CL.all {x : Ph} {k : Nat} {Q : List Int} {ps : List (List Int)} (hk : Q.length ≤ k) (I : CL x k Q ps) : ∀ (a b : Nat) (d : Int), Vis ps a → x.fgraph.step a b = some d → Vis ps b := by
  intro a b d ha hs
  rcases I a ha with ⟨j, h1, h2⟩ | h1
  · have := (List.getElem?_eq_some_iff.1 h2).1; omega
  · exact h1 b d hs
end Go.AG
