/- PotentialOf: what the program's and the reference's functions give. No statement is made here. -/
import Derived.Test.YtgofekmoimjcmaaGreatDoorPhBfs
import Derived.Test.YtgofekmoimjcmaaGreatDoorAGLists2
namespace Go.AG.P
open Go.Proofs Go.Proofs.YtgofekmoimjcmaaGreatDoor
set_option linter.unusedSimpArgs false
set_option linter.unusedVariables false
set_option maxRecDepth 4000
/-- What the parts, the phases and the joining edges have to do with each other. -/
structure FInv (x : Ph) (s : List Int × List Int × List Int) : Prop where
  idx : ∀ k ∈ s.2.2, ∃ (j : Nat) (h : j < x.ts.length), k = (j : Int)
  edge : ∀ (j : Nat) (h : j < x.ts.length), (j : Int) ∈ s.2.2 → s.1.getD x.ts[j].f.toNat 0 = s.1.getD x.ts[j].t.toNat 0 ∧ (s.2.1.getD x.ts[j].f.toNat 0 + x.ts[j].s - s.2.1.getD x.ts[j].t.toNat 0) % x.m = 0
  part : ∀ (V : Nat → Prop), (∀ (j : Nat) (h : j < x.ts.length), (j : Int) ∈ s.2.2 → (V x.ts[j].f.toNat ↔ V x.ts[j].t.toNat)) → ∀ u v, u < x.n.toNat → v < x.n.toNat → s.1.getD u 0 = s.1.getD v 0 → (V u ↔ V v)
theorem getD_map_int (f : Int → Int) (l : List Int) {v : Nat} (hv : v < l.length) : (l.map f).getD v 0 = f (l.getD v 0) := by simp [hv]
theorem getD_zip_int (f : Int → Int → Int) (l l' : List Int) {v : Nat} (hv : v < l.length) (hv' : v < l'.length) : (List.zipWith f l l').getD v 0 = f (l.getD v 0) (l'.getD v 0) := by
  have : v < (List.zipWith f l l').length := by simp; omega
  rw [List.getD_eq_getElem?_getD, List.getElem?_eq_getElem this]
  simp [hv, hv']
theorem mod_shift {m A B s d : Int} (h : (A + s - B) % m = 0) : ((A + d) % m + s - (B + d) % m) % m = 0 := by
  obtain ⟨k, hk⟩ := Int.dvd_of_emod_eq_zero h
  refine Int.emod_eq_zero_of_dvd ⟨k - (A + d) / m + (B + d) / m, ?_⟩
  rw [Int.emod_def, Int.emod_def, Int.mul_add, Int.mul_sub, ← hk]
  omega
theorem mod_new {m A B s : Int} : (A + s - (B + (A + s - B) % m) % m) % m = 0 := by
  refine Int.emod_eq_zero_of_dvd ⟨(A + s - B) / m + (B + (A + s - B) % m) / m, ?_⟩
  rw [Int.mul_add]
  have h1 := Int.emod_def (B + (A + s - B) % m) m
  have h2 := Int.emod_def (A + s - B) m
  omega
theorem FInv.step {x : Ph} (hv : x.valid) {i : Nat} (hi : i < x.ts.length) {s : List Int × List Int × List Int} (o : FOk x s) (I : FInv x s) : FInv x (fstep x i s) := by
  have hm1 := hv.2.2.1
  obtain ⟨e1, e2, e3, e4, e5⟩ := Ph.edge hv hi
  obtain ⟨P, F, out⟩ := s
  have oP := o.p
  have oF := o.f
  simp only at oP oF
  unfold fstep
  have ht : x.ts.getD i default = x.ts[i] := by simp [hi]
  simp only [ht]
  split
  · exact I
  rename_i hab
  generalize ha : P.getD x.ts[i].f.toNat 0 = a at hab ⊢
  generalize hb : P.getD x.ts[i].t.toNat 0 = b at hab ⊢
  generalize hd : (F.getD x.ts[i].f.toNat 0 + x.ts[i].s - F.getD x.ts[i].t.toNat 0) % x.m = d
  have fN : ∀ (j : Nat) (h : j < x.ts.length), x.ts[j].f.toNat < x.n.toNat ∧ x.ts[j].t.toNat < x.n.toNat := fun j h => by
    obtain ⟨q1, q2, q3, _, _⟩ := Ph.edge hv h
    exact ⟨by omega, by omega⟩
  refine ⟨?_, ?_, ?_⟩
  · intro k hk
    rcases List.mem_append.1 hk with hk | hk
    · exact I.idx k hk
    · rw [List.mem_singleton] at hk; exact ⟨i, hi, hk⟩
  · intro j hj hjm
    obtain ⟨f1, f2⟩ := fN j hj
    simp only
    rw [getD_map_int _ _ (by omega), getD_map_int _ _ (by omega), getD_zip_int _ _ _ (by omega) (by omega), getD_zip_int _ _ _ (by omega) (by omega)]
    have hjm : (j : Int) ∈ out ∨ j = i := by
      rcases List.mem_append.1 hjm with h | h
      · exact .inl h
      · rw [List.mem_singleton] at h; exact .inr (by omega)
    rcases hjm with hjm | rfl
    · obtain ⟨q1, q2⟩ := I.edge j hj hjm
      simp only at q1 q2
      rw [q1]
      refine ⟨rfl, ?_⟩
      split
      · exact mod_shift q2
      · exact q2
    · rw [ha, hb, if_neg hab, if_pos rfl]
      refine ⟨rfl, ?_⟩
      rw [if_neg hab, if_pos rfl, ← hd]
      exact mod_new
  · intro V hV u v hu hvv huv
    simp only at huv
    rw [getD_map_int _ _ (by omega), getD_map_int _ _ (by omega)] at huv
    have hold := I.part V fun j hj hjm => hV j hj (List.mem_append_left _ hjm)
    have hnew := hV i hi (List.mem_append_right _ (List.mem_singleton.2 rfl))
    obtain ⟨f1, f2⟩ := fN i hi
    have ua : ∀ w, w < x.n.toNat → P.getD w 0 = a → (V w ↔ V x.ts[i].f.toNat) := fun w hw h => hold w _ hw f1 (by simp only; rw [h, ha])
    have ub : ∀ w, w < x.n.toNat → P.getD w 0 = b → (V w ↔ V x.ts[i].f.toNat) := fun w hw h => (hold w _ hw f2 (by simp only; rw [h, hb])).trans hnew.symm
    split at huv <;> split at huv
    · rename_i h1 h2; exact (ub u hu h1).trans (ub v hvv h2).symm
    · rename_i h1 h2; exact (ub u hu h1).trans (ua v hvv huv.symm).symm
    · rename_i h1 h2; exact (ua u hu huv).trans (ub v hvv h2).symm
    · exact hold u v hu hvv huv
theorem fstate_inv {x : Ph} (hv : x.valid) : ∀ i, i ≤ x.ts.length → FInv x (fstate x i)
  | 0, _ => ⟨fun k hk => by simp [fstate] at hk, fun j h hj => by simp [fstate] at hj, fun V _ u v hu hvv huv => by
    simp [fstate, hu, hvv] at huv
    obtain rfl : u = v := by omega
    exact Iff.rfl⟩
  | i + 1, hi => (fstate_inv hv i (by omega)).step hv (by omega) (fstate_ok hv.2.2.1 i)
/-- The parts at the end. -/
def Ph.parts (x : Ph) : List Int := (fstate x x.ts.length).1
theorem Ph.parts_len {x : Ph} (hv : x.valid) : x.parts.length = x.n.toNat := (fstate_ok hv.2.2.1 _).p
theorem Ph.pots_len {x : Ph} (hv : x.valid) : x.pots.length = x.n.toNat := by
  have := (fstate_ok hv.2.2.1 x.ts.length).f
  simp [Ph.pots, norm2, norm1, this]
theorem Ph.pots_get {x : Ph} (hv : x.valid) {v : Nat} (h : v < x.n.toNat) : x.pots.getD v 0 = ((fstate x x.ts.length).2.1.getD v 0 - (fstate x x.ts.length).2.1.getD (fsti x.parts v) 0) % x.m := by
  have oF := (fstate_ok hv.2.2.1 x.ts.length).f
  have oP := (fstate_ok hv.2.2.1 x.ts.length).p
  obtain ⟨hk, _⟩ := fsti_spec (P := x.parts) (v := v) (by rw [Ph.parts_len hv]; exact h)
  unfold Ph.pots
  generalize hF : (fstate x x.ts.length).2.1 = F at *
  rw [show (fstate x x.ts.length).1 = x.parts from rfl]
  have h1 : v < F.length := by omega
  have e1 : (norm2 x.parts (norm1 x.m x.parts F)).getD v 0 = if fsti x.parts v = v then 0 else (norm1 x.m x.parts F).getD v 0 := by
    have : v < (norm1 x.m x.parts F).length := by simp [norm1]; omega
    simp [norm2, this]
  have e2 : (norm1 x.m x.parts F).getD v 0 = if fsti x.parts v < v then (F.getD v 0 - F.getD (fsti x.parts v) 0) % x.m else F.getD v 0 := by simp [norm1, h1]
  rw [e1]
  split
  · rename_i h2; rw [h2]; simp
  · rw [e2, if_pos (by omega)]
theorem Ph.pots_b {x : Ph} (hv : x.valid) {v : Nat} (h : v < x.n.toNat) : 0 ≤ x.pots.getD v 0 ∧ x.pots.getD v 0 < x.m := by
  have := hv.2.2.1
  rw [Ph.pots_get hv h]
  exact ⟨Int.emod_nonneg _ (by omega), Int.emod_lt_of_pos _ (by omega)⟩
theorem Ph.pots_root {x : Ph} (hv : x.valid) {v : Nat} (h : v < x.n.toNat) (hr : fsti x.parts v = v) : x.pots.getD v 0 = 0 := by
  rw [Ph.pots_get hv h, hr]; simp
theorem fsti_eq {P : List Int} {u v : Nat} (h : P.getD u 0 = P.getD v 0) : fsti P u = fsti P v := by unfold fsti; rw [h]
theorem mod_edge {m A B s c : Int} (hm : 0 < m) (h : (A + s - B) % m = 0) : ((A - c) % m + s) % m = (B - c) % m := by
  obtain ⟨k, hk⟩ := Int.dvd_of_emod_eq_zero h
  rw [Int.emod_add_emod]
  rw [show A - c + s = B - c + m * k by omega, Int.add_mul_emod_self_left]
theorem Ph.pots_edge {x : Ph} (hv : x.valid) {j : Nat} (hj : j < x.ts.length) (hm : (j : Int) ∈ x.forest) : (x.pots.getD x.ts[j].f.toNat 0 + x.ts[j].s) % x.m = x.pots.getD x.ts[j].t.toNat 0 := by
  obtain ⟨q1, q2, q3, _, _⟩ := Ph.edge hv hj
  have hm1 := hv.2.2.1
  obtain ⟨i1, i2⟩ := (fstate_inv hv _ (Nat.le_refl _)).edge j hj hm
  rw [Ph.pots_get hv (by omega), Ph.pots_get hv (by omega), fsti_eq (P := x.parts) i1]
  exact mod_edge (by omega) i2
/-- What one edge of the forest leads to. -/
theorem Ph.fg_step {x : Ph} (hv : x.valid) {a b d : Int} (h : x.fgraph.step a b = some d) : ∃ (j : Nat) (hj : j < x.ts.length), (j : Int) ∈ x.forest ∧ ((x.ts[j].f = a ∧ x.ts[j].t = b ∧ d = x.ts[j].s) ∨ (x.ts[j].f = b ∧ x.ts[j].t = a ∧ d = x.m - x.ts[j].s)) := by
  unfold Ph.step at h
  cases hf : x.fgraph.ts.find? (T.joins a b) with
  | none => rw [hf] at h; cases h
  | some t =>
    rw [hf] at h
    have ht := List.mem_of_find?_eq_some hf
    have hq := List.find?_some hf
    obtain ⟨k, hk, _, hk2, e⟩ := (kept_mem (ts := x.ts) (q := fun k => decide (k ∈ x.forest)) (Nat.le_refl _)).1 ht
    simp only [Option.map_some, Option.some.injEq] at h
    refine ⟨k, hk, by simpa using hk2, ?_⟩
    subst e
    split at h
    · rename_i h1; exact .inl ⟨h1.1, h1.2, h.symm⟩
    · rename_i h1
      simp [T.joins] at hq
      rcases hq with hq | hq
      · exact absurd hq h1
      · exact .inr ⟨hq.1, hq.2, h.symm⟩
theorem Ph.pots_step {x : Ph} (hv : x.valid) {a b d : Int} (h : x.fgraph.step a b = some d) : (x.pots.getD a.toNat 0 + d) % x.m = x.pots.getD b.toNat 0 := by
  have hm1 := hv.2.2.1
  obtain ⟨j, hj, hm, h1 | h1⟩ := Ph.fg_step hv h
  · obtain ⟨rfl, rfl, rfl⟩ := h1
    exact Ph.pots_edge hv hj hm
  · obtain ⟨rfl, rfl, rfl⟩ := h1
    obtain ⟨q1, q2, q3, _, _⟩ := Ph.edge hv hj
    have hb := Ph.pots_b hv (v := x.ts[j].f.toNat) (by omega)
    rw [← Ph.pots_edge hv hj hm, Int.emod_add_emod, show x.pots.getD x.ts[j].f.toNat 0 + x.ts[j].s + (x.m - x.ts[j].s) = x.pots.getD x.ts[j].f.toNat 0 + x.m * 1 by omega, Int.add_mul_emod_self_left]
    exact Int.emod_eq_of_lt hb.1 hb.2
/-- A forest's edge can be taken both ways. -/
theorem Ph.fg_edge {x : Ph} (hv : x.valid) {j : Nat} (hj : j < x.ts.length) (hm : (j : Int) ∈ x.forest) : (∃ d, x.fgraph.step x.ts[j].f x.ts[j].t = some d) ∧ ∃ d, x.fgraph.step x.ts[j].t x.ts[j].f = some d := by
  have hmem : x.ts[j] ∈ x.fgraph.ts := (kept_mem (ts := x.ts) (q := fun k => decide (k ∈ x.forest)) (Nat.le_refl _)).2 ⟨j, hj, hj, by simpa using hm, rfl⟩
  have key : ∀ a b, T.joins a b x.ts[j] = true → ∃ d, x.fgraph.step a b = some d := by
    intro a b h
    unfold Ph.step
    cases hf : x.fgraph.ts.find? (T.joins a b) with
    | none => rw [List.find?_eq_none] at hf; exact absurd h (hf _ hmem)
    | some t => exact ⟨_, rfl⟩
  exact ⟨key _ _ (by simp [T.joins]), key _ _ (by simp [T.joins])⟩
/-- A node that is not reached from less nodes is the least of its part. -/
theorem Ph.root_of {x : Ph} (hv : x.valid) (V : Nat → Prop) (hc : ∀ (a b : Nat) (d : Int), V a → x.fgraph.step a b = some d → V b) {v : Nat} (h : v < x.n.toNat) (hb : ∀ u, u < v → V u) (hn : ¬ V v) : fsti x.parts v = v := by
  have hlen := Ph.parts_len hv
  obtain ⟨hk, h1, h2⟩ := fsti_spec (P := x.parts) (v := v) (by omega)
  rcases Nat.lt_or_ge (fsti x.parts v) v with hlt | hge
  · exfalso
    refine hn (((fstate_inv hv _ (Nat.le_refl _)).part V ?_ (fsti x.parts v) v (by omega) h ?_).1 (hb _ hlt))
    · intro j hj hm
      obtain ⟨q1, q2, q3, _, _⟩ := Ph.edge hv hj
      obtain ⟨⟨d1, g1⟩, ⟨d2, g2⟩⟩ := Ph.fg_edge hv hj hm
      exact ⟨fun hV => hc _ _ d1 hV (by rw [Int.toNat_of_nonneg q1, Int.toNat_of_nonneg (by omega)]; exact g1), fun hV => hc _ _ d2 hV (by rw [Int.toNat_of_nonneg q1, Int.toNat_of_nonneg (by omega)]; exact g2)⟩
    · rw [show (fstate x x.ts.length).1 = x.parts from rfl]
      simpa [show v < x.parts.length by omega, show fsti x.parts v < x.parts.length by omega] using h1
  · omega
/-! ## Going through a part -/
def Vis (ps : List (List Int)) (u : Nat) : Prop := ps.getD u [] ≠ []
instance (ps : List (List Int)) (u : Nat) : Decidable (Vis ps u) := by unfold Vis; infer_instance
theorem Vis.lt {ps : List (List Int)} {u : Nat} (h : Vis ps u) : u < ps.length := by
  rcases Nat.lt_or_ge u ps.length with h1 | h1
  · exact h1
  · exact absurd (by simp [h1]) h
theorem vis_set {ps : List (List Int)} {b : Nat} {l : List Int} (hb : b < ps.length) (hl : l ≠ []) (u : Nat) : Vis (ps.set b l) u ↔ Vis ps u ∨ u = b := by
  unfold Vis
  by_cases h : u = b
  · subst h; simp [hb, hl]
  · simp [List.getElem?_set, Ne.symm h, h]
def cntE : List (List Int) → Nat
  | [] => 0
  | l :: ls => (if l = [] then 1 else 0) + cntE ls
theorem cntE_set : ∀ {ps : List (List Int)} {b : Nat} {l : List Int}, b < ps.length → ¬ Vis ps b → l ≠ [] → cntE (ps.set b l) + 1 = cntE ps
  | p :: ps, 0, l, _, hb, hl => by
    have : p = [] := by simpa [Vis] using hb
    simp [cntE, hl, this]; omega
  | p :: ps, b + 1, l, h, hb, hl => by
    have := cntE_set (ps := ps) (b := b) (l := l) (by simpa using h) (by simpa [Vis] using hb) hl
    simp only [List.set_cons_succ, cntE]; omega
theorem cntE_le : ∀ ps : List (List Int), cntE ps ≤ ps.length
  | [] => by simp [cntE]
  | l :: ps => by have := cntE_le ps; simp only [cntE, List.length_cons]; split <;> omega
structure BI (x : Ph) (PQ : Nat → List Int → Prop) (ph : List Int) (ps : List (List Int)) : Prop where
  l1 : ph.length = x.n.toNat
  l2 : ps.length = x.n.toNat
  eq : ∀ u, Vis ps u → ph.getD u 0 = x.pots.getD u 0
  pq : ∀ u, Vis ps u → PQ u (ps.getD u [])
  nd : ∀ u, Vis ps u → ∀ c ∈ ps.getD u [], 0 ≤ c ∧ Vis ps c.toNat
  sz : ∀ u, u < ps.length → (ps.getD u []).length + cntE ps ≤ x.n.toNat
  z : ∀ u, ¬ Vis ps u → ph.getD u 0 = 0
structure QI (x : Ph) (v : Nat) (Q : List Int) (ps : List (List Int)) : Prop where
  q : ∀ c ∈ Q, 0 ≤ c ∧ Vis ps c.toNat
  low : ∀ u, u < v + 1 → Vis ps u
  cnt : Q.length + cntE ps ≤ x.n.toNat
def CL (x : Ph) (k : Nat) (Q : List Int) (ps : List (List Int)) : Prop := ∀ a : Nat, Vis ps a → (∃ j, k ≤ j ∧ Q[j]? = some (a : Int)) ∨ ∀ (b : Nat) d, x.fgraph.step a b = some d → Vis ps b
theorem BI.put {x : Ph} {PQ : Nat → List Int → Prop} {ph : List Int} {ps : List (List Int)} (I : BI x PQ ph ps) {b : Nat} {p : Int} {l : List Int} (hb : b < x.n.toNat) (hn : ¬ Vis ps b) (hl : l ≠ []) (hp : p = x.pots.getD b 0) (hq : PQ b l) (hc : ∀ c ∈ l, 0 ≤ c ∧ (Vis ps c.toNat ∨ c.toNat = b)) (hsz : l.length + cntE ps ≤ x.n.toNat + 1) :
    BI x PQ (ph.set b p) (ps.set b l) := by
  have hb2 : b < ps.length := by rw [I.l2]; exact hb
  have hb1 : b < ph.length := by rw [I.l1]; exact hb
  have hV := vis_set hb2 hl
  have hg : (ps.set b l).getD b [] = l := by simp [hb2]
  have hg2 : ∀ u, u ≠ b → (ps.set b l).getD u [] = ps.getD u [] := fun u hu => by simp [List.getElem?_set, Ne.symm hu]
  have hcn := cntE_set hb2 hn hl
  refine ⟨by simp [I.l1], by simp [I.l2], fun u hu => ?_, fun u hu => ?_, fun u hu c hcm => ?_, fun u hu => ?_, fun u hu => ?_⟩
  · by_cases hub : u = b
    · subst hub; simp [hb1, hp]
    · rcases (hV u).1 hu with h | h
      · rw [← I.eq u h]; simp [List.getElem?_set, Ne.symm hub]
      · exact absurd h hub
  · by_cases hub : u = b
    · subst hub; rw [hg]; exact hq
    · rcases (hV u).1 hu with h | h
      · rw [hg2 u hub]; exact I.pq u h
      · exact absurd h hub
  · by_cases hub : u = b
    · subst hub
      rw [hg] at hcm
      obtain ⟨c1, c2⟩ := hc c hcm
      exact ⟨c1, (hV _).2 c2⟩
    · rcases (hV u).1 hu with h | h
      · rw [hg2 u hub] at hcm
        obtain ⟨c1, c2⟩ := I.nd u h c hcm
        exact ⟨c1, (hV _).2 (.inl c2)⟩
      · exact absurd h hub
  · by_cases hub : u = b
    · subst hub; rw [hg]; omega
    · rw [hg2 u hub]
      have := I.sz u (by simpa using hu)
      omega
  · have hub : ¬ u = b := fun hh => hu ((hV u).2 (.inr hh))
    have := I.z u fun hh => hu ((hV u).2 (.inl hh))
    simpa [List.getElem?_set, Ne.symm hub] using this
theorem QI.put {x : Ph} {v : Nat} {Q : List Int} {ps : List (List Int)} (I : QI x v Q ps) {b : Nat} {l : List Int} (hb2 : b < ps.length) (hn : ¬ Vis ps b) (hl : l ≠ []) : QI x v (Q ++ [(b : Int)]) (ps.set b l) := by
  have hV := vis_set hb2 hl
  have hcn := cntE_set hb2 hn hl
  refine ⟨fun c hc => ?_, fun u hu => (hV u).2 (.inl (I.low u hu)), ?_⟩
  · rcases List.mem_append.1 hc with hc | hc
    · exact ⟨(I.q c hc).1, (hV _).2 (.inl (I.q c hc).2)⟩
    · rw [List.mem_singleton] at hc; subst hc
      exact ⟨by omega, (hV _).2 (.inr (by simp))⟩
  · have := I.cnt
    simp only [List.length_append, List.length_cons, List.length_nil]; omega
theorem CL.put {x : Ph} {k : Nat} {Q : List Int} {ps : List (List Int)} (hk : k ≤ Q.length) (I : CL x k Q ps) {b : Nat} {l : List Int} (hb2 : b < ps.length) (hl : l ≠ []) : CL x k (Q ++ [(b : Int)]) (ps.set b l) := by
  have hV := vis_set hb2 hl
  intro a ha
  rcases (hV a).1 ha with h | h
  · rcases I a h with ⟨j, h1, h2⟩ | h1
    · exact .inl ⟨j, h1, by rw [List.getElem?_append_left (List.getElem?_eq_some_iff.1 h2).1]; exact h2⟩
    · exact .inr fun c d hcd => (hV c).2 (.inl (h1 c d hcd))
  · subst h
    exact .inl ⟨Q.length, hk, by simp⟩
theorem CL.next {x : Ph} {k : Nat} {Q : List Int} {ps : List (List Int)} (hk : k < Q.length) (I : CL x k Q ps) (hd : ∀ (a : Nat), Q[k] = (a : Int) → ∀ (b : Nat) d, x.fgraph.step a b = some d → Vis ps b) : CL x (k + 1) Q ps := by
  intro a ha
  rcases I a ha with ⟨j, h1, h2⟩ | h1
  · rcases Nat.lt_or_ge k j with h | h
    · exact .inl ⟨j, h, h2⟩
    · obtain rfl : j = k := by omega
      exact .inr (hd a (by rw [List.getElem?_eq_getElem hk] at h2; simpa using h2))
  · exact .inr h1
theorem CL.all {x : Ph} {k : Nat} {Q : List Int} {ps : List (List Int)} (hk : Q.length ≤ k) (I : CL x k Q ps) : ∀ (a b : Nat) (d : Int), Vis ps a → x.fgraph.step a b = some d → Vis ps b := by
  intro a b d ha hs
  rcases I a ha with ⟨j, h1, h2⟩ | h1
  · have := (List.getElem?_eq_some_iff.1 h2).1; omega
  · exact h1 b d hs
theorem Wk.cap (id sz off len : Nat) (c : Option Nat) : Wk (.sl id sz off len c) (.sl id sz off len none) := fun w D v ⟨A, c, e, h1, h2, _⟩ => ⟨A, c, e, h1, h2, fun k h => by cases h⟩
theorem Run2.wk {C : Cx} {sk : List AItem} {e e' : Env} {h : Heap} {R : AV → Heap → Prop} (he : ∀ t, Wk (eget e t) (eget e' t)) (g : Run2 C sk e' h R) : Run2 C sk e h R := by
  unfold Run2 at g ⊢
  intro k tmps w cs w0 D0 hk S
  exact g k tmps w cs w0 D0 hk ⟨fun t => he t _ _ _ (S.env t), S.size, S.heap, S.ev⟩
/-- A block that only the next one holds is not written any more. -/
theorem Run2.frz1 {C : Cx} {sk : List AItem} {e : Env} {R : AV → Heap → Prop} {gq rest : Heap} {idc idp sz : Nat} {B : Blk} {l : List AV} (hn : idc ∉ dom gq) (g : Run2 C sk e (gq ++ ((idp, ⟨sz, fzs idc B l⟩) :: rest)) R) : Run2 C sk e (gq ++ ((idc, B) :: (idp, ⟨sz, l⟩) :: rest)) R := by
  have hdl : hdel (gq ++ ((idc, B) :: (idp, ⟨sz, l⟩) :: rest)) idc = gq ++ ((idp, ⟨sz, l⟩) :: rest) := by rw [hdel_app hn]; simp [hdel]
  refine Run2.freezeS idc (b := B) (by rw [hget_app hn]; simp [hget]) (by rw [hdl]; simp [dom]) (fun p hp => ?_) (fun t => .inl rfl) g
  rw [hdl]
  rcases List.mem_append.1 hp with hp | hp
  · exact .inl (List.mem_append_left _ hp)
  · rcases List.mem_cons.1 hp with rfl | hp
    · exact .inr ⟨⟨sz, l⟩, List.mem_append_right _ (List.mem_cons_self ..), rfl⟩
    · exact .inl (List.mem_append_right _ (List.mem_cons_of_mem _ hp))
def pav (p : List Int) : AV := if p = [] then .nilsl else .snap 1 (p.map iv)
theorem fz_pav (id : Nat) (b : Blk) (p : List Int) : fz id b (pav p) = pav p := by
  unfold pav
  split
  · rfl
  · simp only [fz]; rw [fzs_iv]
theorem fzs_paths {id n : Nat} {q : List Int} (hn : n = q.length) (hq : q ≠ []) : ∀ (ps : List (List Int)) (b : Nat), fzs id ⟨1, q.map iv⟩ ((ps.map pav).set b (.sl id 1 0 n none)) = (ps.set b q).map pav
  | [], _ => rfl
  | p :: ps, 0 => by
    simp only [List.map_cons, List.set_cons_zero, fzs]
    congr 1
    · subst hn
      simp [fz, pav, hq]
      exact List.take_of_length_le (by simp)
    · have : ∀ l : List (List Int), fzs id ⟨1, q.map iv⟩ (l.map pav) = l.map pav := fun l => by
        induction l with
        | nil => rfl
        | cons p l ih => simp only [List.map_cons, fzs]; rw [ih, fz_pav]
      exact this ps
  | p :: ps, b + 1 => by
    simp only [List.map_cons, List.set_cons_succ, fzs]
    rw [fz_pav, fzs_paths hn hq ps b]
noncomputable def o_forestOf : List AV → Option (Prop × AV) := tab (fun (x : Int × Int × List T) => match x with | (n, m, ts) => [.agg [.int .i64 n, .int .i64 m, .snap 3 (ts.map T.av)]]) (fun x => match x with | (n, m, ts) => (Ph.valid ⟨n, m, ts⟩)) (fun x => match x with | (n, m, ts) => .snap 1 ((Ph.forest ⟨n, m, ts⟩).map iv))
@[simp] theorem o_forestOf_e (n : Int) (m : Int) (ts : List T) : o_forestOf [.agg [.int .i64 n, .int .i64 m, .snap 3 (ts.map T.av)]] = some ((Ph.valid ⟨n, m, ts⟩), .snap 1 ((Ph.forest ⟨n, m, ts⟩).map iv)) := tab_at (enc := fun (x : Int × Int × List T) => match x with | (n, m, ts) => [.agg [.int .i64 n, .int .i64 m, .snap 3 (ts.map T.av)]]) (fun x y h => by
  obtain ⟨n1, m1, ts1⟩ := x; obtain ⟨n2, m2, ts2⟩ := y; simp at h; simp [h] <;> omega) _ _ (n, m, ts)
theorem o_forestOf_k : Knows Tryz.prog 46 o_forestOf := tab_knows fun x hx h => by
  obtain ⟨n, m, ts⟩ := x; exact forestOf_c ⟨n, m, ts⟩ h hx
noncomputable def orcB3 : List (Nat × (List AV → Option (Prop × AV))) := (46, o_forestOf) :: (50, o_shiftB) :: orcB2
theorem orcB3_p : Pure Tryz.prog (lk orcB3) := (lk_pure o_forestOf_k (lk_pure o_shiftB_k orcB2_p))
@[simp] theorem orcB3_l (b : Bool) (g : FuncId) (l : List AV) : lk orcB3 b g l = if g = 46 then o_forestOf l else if g = 50 then o_shiftB l else lk orcB2 b g l := nr rfl
abbrev k22_o0 : List AJ := [.o ⟨(some 1), none, false, .box false 3 (.t 0), none⟩, .o ⟨(some 2), none, false, .mv (.c .nilsl), none⟩, .o ⟨(some 3), none, false, .mv (.c .nilsl), (some [1])⟩]
abbrev k22_o1 : List AJ := [.o ⟨(some 15), none, false, .load 3 true (.t 1), none⟩, .o ⟨(some 16), none, false, .call 46 [(.t 15)], none⟩, .v 4 1 .nilsl [] (.t 16) (some [1, 4])]
abbrev k22_o2 : List AJ := [.o ⟨(some 17), none, false, .load 3 true (.t 1), none⟩, .o ⟨(some 18), none, false, .mkfn 48 [(.t 4)], none⟩, .o ⟨(some 19), none, false, .call 47 [(.t 17), (.t 18)], none⟩, .v 5 3 (.agg [(.int .i64 0), (.int .i64 0), .nilsl]) [] (.t 19) (some [1, 5])]
abbrev k22_o3 : List AJ := [.o ⟨(some 20), none, false, .fieldA 0 (.t 1), none⟩, .o ⟨(some 21), none, false, .load 1 false (.t 20), none⟩, .o ⟨(some 22), none, false, .mksl 1 8 (.int .i64 0) (.t 21) (.t 21), none⟩, .o ⟨(some 23), none, false, .fieldA 0 (.t 1), none⟩, .o ⟨(some 24), none, false, .load 1 false (.t 23), none⟩, .o ⟨(some 25), none, false, .mksl 1 24 .nilsl (.t 24) (.t 24), none⟩, .o ⟨(some 6), none, false, .mv (.t 22), none⟩, .o ⟨(some 7), none, false, .mv (.t 25), (some [1, 5, 6, 7])⟩]
abbrev k22_o4 : List AJ := [.o ⟨(some 26), none, false, .fieldA 0 (.t 1), none⟩, .o ⟨(some 27), none, false, .load 1 false (.t 26), none⟩, .o ⟨(some 28), none, false, .mv (.c (.int .i64 0)), (some [1, 5, 6, 7, 27, 28])⟩]
abbrev k22_o5 : List AJ := [.o ⟨(some 29), none, false, .bin .lss (.t 28) (.t 27), (some [1, 5, 6, 7, 27, 28, 29])⟩]
abbrev k22_o6 : List AJ := [.o ⟨(some 30), none, false, .mv (.t 28), none⟩, .o ⟨(some 8), none, false, .mv (.t 30), (some [1, 5, 6, 7, 8, 27, 28])⟩]
abbrev k22_o7 : List AJ := [.o ⟨(some 31), none, false, .mv (.t 7), none⟩, .o ⟨(some 32), none, false, .mv (.t 8), none⟩, .o ⟨(some 33), none, false, .idxA 1 (.t 31) (.t 32), none⟩, .o ⟨(some 34), none, false, .load 1 false (.t 33), none⟩, .o ⟨(some 35), none, false, .eqn 0 true (.t 34), (some [1, 5, 6, 7, 8, 27, 28, 35])⟩]
def k22_9 : ACode := .cond (.t 35) (.exit 1) .skip
def k22_10 : ACode := .seq (.region k22_o7) k22_9
abbrev k22_o8 : List AJ := [.o ⟨(some 36), none, false, .mv (.t 7), none⟩, .o ⟨(some 37), none, false, .mv (.t 8), none⟩, .o ⟨(some 38), none, false, .mv (.t 8), none⟩, .o ⟨(some 39), none, false, .bsl false 1 [(.t 38)], none⟩, .o ⟨(some 40), none, false, .idxA 1 (.t 36) (.t 37), none⟩, .o ⟨none, none, false, .store 1 (.t 40) (.t 39), (some [1, 5, 6, 7, 8, 27, 28])⟩]
abbrev k22_o9 : List AJ := [.o ⟨(some 41), none, false, .mv (.t 8), none⟩, .o ⟨(some 42), none, false, .bsl true 1 [(.t 41)], none⟩, .o ⟨(some 9), none, false, .mv (.t 42), (some [1, 5, 6, 7, 9, 27, 28])⟩]
abbrev k22_o10 : List AJ := [.o ⟨(some 10), none, false, .mv (.c (.int .i64 0)), (some [1, 5, 6, 7, 9, 10, 27, 28])⟩]
abbrev k22_o11 : List AJ := [.o ⟨(some 43), none, false, .mv (.t 10), none⟩, .o ⟨(some 44), none, false, .mv (.t 9), none⟩, .o ⟨(some 45), none, false, .len (.t 44), none⟩, .o ⟨(some 46), none, false, .bin .lss (.t 43) (.t 45), (some [1, 5, 6, 7, 9, 10, 27, 28, 46])⟩]
def k22_15 : ACode := .cond (.t 46) .skip (.exit 2)
def k22_16 : ACode := .seq (.region k22_o11) k22_15
abbrev k22_o12 : List AJ := [.o ⟨(some 49), none, false, .mv (.t 9), none⟩, .o ⟨(some 50), none, false, .mv (.t 10), none⟩, .o ⟨(some 51), none, false, .idxA 1 (.t 49) (.t 50), none⟩, .o ⟨(some 52), none, false, .load 1 false (.t 51), none⟩, .o ⟨(some 11), none, false, .mv (.t 52), (some [1, 5, 6, 7, 9, 10, 11, 27, 28])⟩]
abbrev k22_o13 : List AJ := [.o ⟨(some 53), none, false, .fieldA 0 (.t 1), none⟩, .o ⟨(some 54), none, false, .load 1 false (.t 53), none⟩, .o ⟨(some 55), none, false, .mv (.c (.int .i64 0)), (some [1, 5, 6, 7, 9, 10, 11, 27, 28, 54, 55])⟩]
abbrev k22_o14 : List AJ := [.o ⟨(some 56), none, false, .bin .lss (.t 55) (.t 54), (some [1, 5, 6, 7, 9, 10, 11, 27, 28, 54, 55, 56])⟩]
abbrev k22_o15 : List AJ := [.o ⟨(some 57), none, false, .mv (.t 55), none⟩, .o ⟨(some 12), none, false, .mv (.t 57), (some [1, 5, 6, 7, 9, 10, 11, 12, 27, 28, 54, 55])⟩]
abbrev k22_o16 : List AJ := [.o ⟨(some 59), none, false, .load 3 true (.t 5), none⟩, .o ⟨(some 60), none, false, .mv (.t 11), none⟩, .o ⟨(some 61), none, false, .mv (.t 12), none⟩, .o ⟨(some 62), none, false, .call 50 [(.t 59), (.t 60), (.t 61)], none⟩, .o ⟨(some 58), none, false, .mv (.t 62), none⟩, .o ⟨(some 63), none, false, .extract (.t 58) 0, none⟩, .o ⟨(some 64), none, false, .extract (.t 58) 1, none⟩, .o ⟨(some 13), none, false, .mv (.t 63), none⟩, .o ⟨(some 14), none, false, .mv (.t 64), (some [1, 5, 6, 7, 9, 10, 11, 12, 13, 14, 27, 28, 54, 55])⟩]
abbrev k22_o17 : List AJ := [.o ⟨(some 65), none, false, .mv (.t 14), none⟩, .o ⟨(some 66), none, false, .mv (.t 65), none⟩, .o ⟨(some 67), (some (66, true)), false, .mv (.t 7), none⟩, .o ⟨(some 68), (some (66, true)), false, .mv (.t 12), none⟩, .o ⟨(some 69), (some (66, true)), false, .idxA 1 (.t 67) (.t 68), none⟩, .o ⟨(some 70), (some (66, true)), false, .load 1 false (.t 69), none⟩, .o ⟨(some 71), (some (66, true)), false, .eqn 0 false (.t 70), none⟩, .o ⟨(some 72), none, false, .pick (.t 66) (.t 71) (.c (.bool false)), (some [1, 5, 6, 7, 9, 10, 11, 12, 13, 27, 28, 54, 55, 72])⟩]
abbrev k22_o18 : List AI := [⟨(some 73), none, false, .mv (.t 6), none⟩, ⟨(some 74), none, false, .mv (.t 12), none⟩, ⟨(some 75), none, false, .mv (.t 6), none⟩, ⟨(some 76), none, false, .mv (.t 11), none⟩, ⟨(some 77), none, false, .idxA 1 (.t 75) (.t 76), none⟩, ⟨(some 78), none, false, .load 1 false (.t 77), none⟩, ⟨(some 79), none, false, .mv (.t 13), none⟩, ⟨(some 80), none, true, .bin .add (.t 78) (.t 79), none⟩, ⟨(some 81), none, false, .fieldA 1 (.t 1), none⟩, ⟨(some 82), none, false, .load 1 false (.t 81), none⟩, ⟨(some 83), none, false, .bin .rem (.t 80) (.t 82), none⟩, ⟨(some 84), none, false, .idxA 1 (.t 73) (.t 74), (some [1, 5, 6, 7, 9, 10, 11, 12, 27, 28, 54, 55, 83, 84])⟩]
abbrev k22_o19 : List AJ := [.o ⟨none, none, false, .store 1 (.t 84) (.t 83), (some [1, 5, 6, 7, 9, 10, 11, 12, 27, 28, 54, 55])⟩]
abbrev k22_o20 : List AJ := [.o ⟨(some 85), none, false, .mv (.t 7), none⟩, .o ⟨(some 86), none, false, .mv (.t 12), none⟩, .o ⟨(some 87), none, false, .mv (.t 7), none⟩, .o ⟨(some 88), none, false, .mv (.t 11), none⟩, .o ⟨(some 89), none, false, .idxA 1 (.t 87) (.t 88), none⟩, .o ⟨(some 90), none, false, .load 1 false (.t 89), none⟩, .o ⟨(some 91), none, false, .call 51 [(.t 90)], none⟩, .o ⟨(some 92), none, false, .mv (.t 12), none⟩, .o ⟨(some 93), none, false, .bsl false 1 [(.t 92)], none⟩, .o ⟨(some 94), none, false, .append 1 8 (.t 91) (.t 93), none⟩, .o ⟨(some 95), none, false, .idxA 1 (.t 85) (.t 86), none⟩, .o ⟨none, none, false, .store 1 (.t 95) (.t 94), (some [1, 5, 6, 7, 9, 10, 11, 12, 27, 28, 54, 55])⟩]
abbrev k22_o21 : List AJ := [.o ⟨(some 96), none, false, .mv (.t 9), none⟩, .o ⟨(some 97), none, false, .mv (.t 12), none⟩, .o ⟨(some 98), none, false, .bsl false 1 [(.t 97)], none⟩, .o ⟨(some 99), none, false, .append 1 8 (.t 96) (.t 98), none⟩, .o ⟨(some 9), none, false, .mv (.t 99), (some [1, 5, 6, 7, 9, 10, 11, 27, 28, 54, 55])⟩]
def k22_26 : ACode := .region k22_o21
def k22_27 : ACode := .seq (.region k22_o20) k22_26
def k22_28 : ACode := .seq (.draw k22_o18 k22_o19 rfl) k22_27
def k22_29 : ACode := .cond (.t 72) k22_28 .skip
def k22_30 : ACode := .seq (.region k22_o17) k22_29
def k22_31 : ACode := .seq (.region k22_o16) k22_30
def k22_32 : ACode := .seq (.region k22_o15) k22_31
abbrev k22_o22 : List AJ := [.o ⟨(some 100), none, true, .bin .add (.t 55) (.c (.int .i64 1)), none⟩, .o ⟨(some 55), none, false, .mv (.t 100), (some [1, 5, 6, 7, 9, 10, 11, 27, 28, 54, 55])⟩]
def k22_34 : ACode := .region k22_o22
def k22_35 : ACode := .seq (.block 5 k22_32) k22_34
def k22_36 : ACode := .seq (.cond (.t 56) .skip (.exit 4)) k22_35
def k22_37 : ACode := .seq (.region k22_o14) k22_36
def k22_38 : ACode := .loop k22_37
def k22_39 : ACode := .block 4 k22_38
def k22_40 : ACode := .seq (.region k22_o13) k22_39
def k22_41 : ACode := .seq (.region k22_o12) k22_40
abbrev k22_o23 : List AJ := [.o ⟨(some 47), none, false, .mv (.t 10), none⟩, .o ⟨(some 48), none, true, .bin .add (.t 47) (.c (.int .i64 1)), none⟩, .o ⟨(some 10), none, false, .mv (.t 48), (some [1, 5, 6, 7, 9, 10, 27, 28])⟩]
def k22_43 : ACode := .region k22_o23
def k22_44 : ACode := .seq (.block 3 k22_41) k22_43
def k22_45 : ACode := .seq k22_16 k22_44
def k22_46 : ACode := .loop k22_45
def k22_47 : ACode := .block 2 k22_46
def k22_48 : ACode := .seq (.region k22_o10) k22_47
def k22_49 : ACode := .seq (.region k22_o9) k22_48
def k22_50 : ACode := .seq (.region k22_o8) k22_49
def k22_51 : ACode := .seq k22_10 k22_50
def k22_52 : ACode := .seq (.region k22_o6) k22_51
abbrev k22_o24 : List AJ := [.o ⟨(some 101), none, true, .bin .add (.t 28) (.c (.int .i64 1)), none⟩, .o ⟨(some 28), none, false, .mv (.t 101), (some [1, 5, 6, 7, 27, 28])⟩]
def k22_54 : ACode := .region k22_o24
def k22_55 : ACode := .seq (.block 1 k22_52) k22_54
def k22_56 : ACode := .seq (.cond (.t 29) .skip (.exit 0)) k22_55
def k22_57 : ACode := .seq (.region k22_o5) k22_56
def k22_58 : ACode := .loop k22_57
def k22_59 : ACode := .block 0 k22_58
def k22_60 : ACode := .seq (.region k22_o4) k22_59
abbrev k22_o25 : List AJ := [.o ⟨(some 102), none, false, .mv (.t 6), none⟩, .o ⟨(some 103), none, false, .mv (.t 7), none⟩, .o ⟨(some 2), none, false, .mv (.t 102), none⟩, .o ⟨(some 3), none, false, .mv (.t 103), (some [2, 3])⟩]
def k22_62 : ACode := .seq (.region k22_o25) .ret
def k22_63 : ACode := .seq k22_60 k22_62
def k22_64 : ACode := .seq (.drawT 0 k22_o3 rfl) k22_63
def k22_65 : ACode := .seq (.region k22_o2) k22_64
def k22_66 : ACode := .seq (.region k22_o1) k22_65
def k22_67 : ACode := .seq (.region k22_o0) k22_66
@[simp, simp ↓] theorem k22_9r : rC k22_9 (.t 35) (.exit 1) .skip := zC rfl
@[simp, simp ↓] theorem k22_10r : sR k22_10 k22_o7 k22_9 := yR rfl
@[simp, simp ↓] theorem k22_15r : rC k22_15 (.t 46) .skip (.exit 2) := zC rfl
@[simp, simp ↓] theorem k22_16r : sR k22_16 k22_o11 k22_15 := yR rfl
@[simp, simp ↓] theorem k22_26r : rR k22_26 k22_o21 := zR rfl
@[simp, simp ↓] theorem k22_27r : sR k22_27 k22_o20 k22_26 := yR rfl
@[simp, simp ↓] theorem k22_28r : sD k22_28 k22_o18 k22_o19 k22_27 := yD rfl
@[simp, simp ↓] theorem k22_29r : rC k22_29 (.t 72) k22_28 .skip := zC rfl
@[simp, simp ↓] theorem k22_30r : sR k22_30 k22_o17 k22_29 := yR rfl
@[simp, simp ↓] theorem k22_31r : sR k22_31 k22_o16 k22_30 := yR rfl
@[simp, simp ↓] theorem k22_32r : sR k22_32 k22_o15 k22_31 := yR rfl
@[simp, simp ↓] theorem k22_34r : rR k22_34 k22_o22 := zR rfl
@[simp, simp ↓] theorem k22_35r : sB k22_35 5 k22_32 k22_34 := yB rfl
@[simp, simp ↓] theorem k22_36r : sC k22_36 (.t 56) .skip (.exit 4) k22_35 := yC rfl
@[simp, simp ↓] theorem k22_37r : sR k22_37 k22_o14 k22_36 := yR rfl
@[simp, simp ↓] theorem k22_38r : rL k22_38 k22_37 := zL rfl
@[simp, simp ↓] theorem k22_39r : rB k22_39 4 k22_38 := zB rfl
@[simp, simp ↓] theorem k22_40r : sR k22_40 k22_o13 k22_39 := yR rfl
@[simp, simp ↓] theorem k22_41r : sR k22_41 k22_o12 k22_40 := yR rfl
@[simp, simp ↓] theorem k22_43r : rR k22_43 k22_o23 := zR rfl
@[simp, simp ↓] theorem k22_44r : sB k22_44 3 k22_41 k22_43 := yB rfl
@[simp, simp ↓] theorem k22_45r : rS k22_45 k22_16 k22_44 := zS rfl
@[simp, simp ↓] theorem k22_46r : rL k22_46 k22_45 := zL rfl
@[simp, simp ↓] theorem k22_47r : rB k22_47 2 k22_46 := zB rfl
@[simp, simp ↓] theorem k22_48r : sR k22_48 k22_o10 k22_47 := yR rfl
@[simp, simp ↓] theorem k22_49r : sR k22_49 k22_o9 k22_48 := yR rfl
@[simp, simp ↓] theorem k22_50r : sR k22_50 k22_o8 k22_49 := yR rfl
@[simp, simp ↓] theorem k22_51r : rS k22_51 k22_10 k22_50 := zS rfl
@[simp, simp ↓] theorem k22_52r : sR k22_52 k22_o6 k22_51 := yR rfl
@[simp, simp ↓] theorem k22_54r : rR k22_54 k22_o24 := zR rfl
@[simp, simp ↓] theorem k22_55r : sB k22_55 1 k22_52 k22_54 := yB rfl
@[simp, simp ↓] theorem k22_56r : sC k22_56 (.t 29) .skip (.exit 0) k22_55 := yC rfl
@[simp, simp ↓] theorem k22_57r : sR k22_57 k22_o5 k22_56 := yR rfl
@[simp, simp ↓] theorem k22_58r : rL k22_58 k22_57 := zL rfl
@[simp, simp ↓] theorem k22_59r : rB k22_59 0 k22_58 := zB rfl
@[simp, simp ↓] theorem k22_60r : sR k22_60 k22_o4 k22_59 := yR rfl
@[simp, simp ↓] theorem k22_62r : sR k22_62 k22_o25 .ret := yR rfl
@[simp, simp ↓] theorem k22_63r : rS k22_63 k22_60 k22_62 := zS rfl
@[simp, simp ↓] theorem k22_64r : sT k22_64 k22_o3 k22_63 := yT rfl
@[simp, simp ↓] theorem k22_65r : sR k22_65 k22_o2 k22_64 := yR rfl
@[simp, simp ↓] theorem k22_66r : sR k22_66 k22_o1 k22_65 := yR rfl
@[simp, simp ↓] theorem k22_67r : sR k22_67 k22_o0 k22_66 := yR rfl
noncomputable abbrev k22_C : Orc → Cx := mkC Tryz.prog [4, 5, 42] 22 104 [.tmp 2, .tmp 3]
theorem k22_of : OfP Tryz.prog Tryz.f22 22 104 k22_C k22_67 := @ofP _ _ _ _ _ _ _ _ Tryz.func22 (by decide +kernel) rfl (by kernel_rfl) rfl (by kernel_rfl)
noncomputable abbrev BpC : Cx := k22_C (lk orcB3)
theorem bfs_inner (I : Is BpC Tryz.f22) {x : Ph} (hv : x.valid) {PQ : Nat → List Int → Prop} (hQ1 : ∀ (a b : Nat) (l : List Int) (d : Int), PQ a l → l ≠ [] → x.fgraph.step a b = some d → (b : Int) ∉ l → PQ b (l ++ [(b : Int)])) {h : Heap} {R : AV → Heap → Prop} {sk : List AItem} {N : Nat} (hNx : x.n = (N : Int)) {idf idp : Nat} (hne : ¬ idp = idf) {k a v : Nat} {ph0 : List Int} {ps0 : List (List Int)} {Q0 : List Int} {wq0 : AV} {gq0 : Heap}
    (hBI : BI x PQ ph0 ps0) (hQI : QI x v Q0 ps0) (hCL : CL x k Q0 ps0) (hg : Grow 1 wq0 (Q0.map iv) gq0) (hpq : idp ∉ dom gq0) (hfq : idf ∉ dom gq0) (hdq : ∀ j ∈ dom gq0, j ∉ dom h) (hka : Q0[k]? = some (a : Int))
    (go : ∀ ph ps Q wq gq, BI x PQ ph ps → QI x v Q ps → CL x (k + 1) Q ps → Grow 1 wq (Q.map iv) gq → idp ∉ dom gq → idf ∉ dom gq → (∀ j ∈ dom gq, j ∉ dom h) → k < Q.length → vc2 BpC 994 [] sk [(1, .ip [.int .i64 x.n, .int .i64 x.m, .snap 3 (x.ts.map T.av)]), (5, .ip [.int .i64 x.fgraph.n, .int .i64 x.fgraph.m, .snap 3 (x.fgraph.ts.map T.av)]), (6, .sl idf 1 0 N (some N)), (7, .sl idp 1 0 N (some N)), (9, wq), (10, .int .i64 (k : Nat)), (11, .int .i64 (a : Nat)), (27, .int .i64 x.n), (28, .int .i64 (v : Nat)), (54, .int .i64 x.n), (55, .int .i64 (N : Nat)), (56, .bool false)] (gq ++ ((idp, ⟨1, ps.map pav⟩) :: (idf, ⟨1, ph.map iv⟩) :: h)) R) :
    Run2 BpC (.code k22_37 :: .inLoop k22_37 :: .inBlock 4 :: sk) [(1, .ip [.int .i64 x.n, .int .i64 x.m, .snap 3 (x.ts.map T.av)]), (5, .ip [.int .i64 x.fgraph.n, .int .i64 x.fgraph.m, .snap 3 (x.fgraph.ts.map T.av)]), (6, .sl idf 1 0 N (some N)), (7, .sl idp 1 0 N (some N)), (9, wq0), (10, .int .i64 (k : Nat)), (11, .int .i64 (a : Nat)), (27, .int .i64 x.n), (28, .int .i64 (v : Nat)), (54, .int .i64 x.n), (55, .int .i64 0)] (gq0 ++ ((idp, ⟨1, ps0.map pav⟩) :: (idf, ⟨1, ph0.map iv⟩) :: h)) R := by
  have hn1 := hv.1
  have hn2 := hv.2.1
  have hm1 := hv.2.2.1
  have hm2 := hv.2.2.2.1
  have hl2 := hv.2.2.2.2.2
  have hbnd : Ph.bnd ⟨x.fgraph.n, x.fgraph.m, x.fgraph.ts⟩ := Ph.kept_bnd hv fun k => decide (k ∈ x.forest)
  have hNt : x.n.toNat = N := by omega
  refine Run2.loopE (α := Nat × List Int × List (List Int) × List Int × AV × Heap) (fun s => [(1, .ip [.int .i64 x.n, .int .i64 x.m, .snap 3 (x.ts.map T.av)]), (5, .ip [.int .i64 x.fgraph.n, .int .i64 x.fgraph.m, .snap 3 (x.fgraph.ts.map T.av)]), (6, .sl idf 1 0 N (some N)), (7, .sl idp 1 0 N (some N)), (9, s.2.2.2.2.1), (10, .int .i64 (k : Nat)), (11, .int .i64 (a : Nat)), (27, .int .i64 x.n), (28, .int .i64 (v : Nat)), (54, .int .i64 x.n), (55, .int .i64 (s.1 : Nat))]) (fun s => s.2.2.2.2.2 ++ ((idp, ⟨1, s.2.2.1.map pav⟩) :: (idf, ⟨1, s.2.1.map iv⟩) :: h)) (fun s => N - s.1)
    (fun s => s.1 ≤ N ∧ BI x PQ s.2.1 s.2.2.1 ∧ QI x v s.2.2.2.1 s.2.2.1 ∧ CL x k s.2.2.2.1 s.2.2.1 ∧ (∀ b', b' < s.1 → ∀ d, x.fgraph.step a b' = some d → Vis s.2.2.1 b') ∧ Grow 1 s.2.2.2.2.1 (s.2.2.2.1.map iv) s.2.2.2.2.2 ∧ idp ∉ dom s.2.2.2.2.2 ∧ idf ∉ dom s.2.2.2.2.2 ∧ (∀ j ∈ dom s.2.2.2.2.2, j ∉ dom h) ∧ s.2.2.2.1[k]? = some (a : Int))
    (0, ph0, ps0, Q0, wq0, gq0) (by simp) rfl ⟨Nat.zero_le _, hBI, hQI, hCL, fun b' hb => by omega, hg, hpq, hfq, hdq, hka⟩ ?_
  clear hBI hQI hCL hg hpq hfq hdq hka
  rintro ⟨b, ph, ps, Q, wq, gq⟩ ⟨hi, hBI, hQI, hCL, hdone, hg, hpq, hfq, hdq, hka⟩ ih
  simp only at hi hBI hQI hCL hdone hg hpq hfq hdq hka ih ⊢
  have b1 := hBI.l1
  have b2 := hBI.l2
  rw [hNt] at b1 b2
  have hkQ : k < Q.length := (List.getElem?_eq_some_iff.1 hka).1
  have haV : Vis ps a := by have := hQI.q (a : Int) (List.mem_of_getElem? hka); simpa using this.2
  have haN : a < N := by have := haV.lt; omega
  by_cases hlt : b < N
  · have hlt' : (b : Int) < x.n := by omega
    have go1 := fun ph ps Q wq gq c1 c2 c3 c4 c5 c6 c7 c8 c9 => ih (b + 1, ph, ps, Q, wq, gq) ⟨by simp; omega, c1, c2, c3, c4, c5, c6, c7, c8, c9⟩ (by simp; omega)
    clear ih go
    have hb1 : b < ph.length := by omega
    have hb2 : b < ps.length := by omega
    have ha1 : a < ph.length := by omega
    have ha2 : a < ps.length := by omega
    cases hst : x.fgraph.step a b with
    | none =>
      have hst' : Ph.step ⟨x.fgraph.n, x.fgraph.m, x.fgraph.ts⟩ a b = none := hst
      refine Run2.of I 1000 ?_
      simp -implicitDefEqProofs [hlt', hbnd, hst']
      refine ⟨by omega, ?_⟩
      have := go1 ph ps Q wq gq hBI hQI hCL (fun b' hb' d' hd' => by
        rcases Nat.lt_or_ge b' b with h1 | h1
        · exact hdone b' h1 d' hd'
        · obtain rfl : b' = b := by omega
          rw [hst] at hd'; cases hd') hg hpq hfq hdq hka
      simpa using this
    | some d =>
      have hst' : Ph.step ⟨x.fgraph.n, x.fgraph.m, x.fgraph.ts⟩ a b = some d := hst
      by_cases hV : Vis ps b
      · obtain ⟨c, l, hcl⟩ : ∃ c l, ps[b] = c :: l := by
          have : ps[b] ≠ [] := by simpa [Vis, hb2] using hV
          cases hp : ps[b] with
          | nil => exact absurd hp this
          | cons c l => exact ⟨c, l, rfl⟩
        have hpv : pav ps[b] = .snap 1 (.int .i64 c :: l.map iv) := by rw [hcl]; rfl
        refine Run2.of I 1000 ?_
        simp -implicitDefEqProofs [hlt, hlt', hbnd, hst', hget_app hpq, hget_app hfq, hne, hb1, hb2, hpv]
        refine ⟨by omega, ?_⟩
        have := go1 ph ps Q wq gq hBI hQI hCL (fun b' hb' d' hd' => by
        rcases Nat.lt_or_ge b' b with h1 | h1
        · exact hdone b' h1 d' hd'
        · obtain rfl : b' = b := by omega
          exact hV) hg hpq hfq hdq hka
        simpa using this
      · have hpv : pav ps[b] = .nilsl := by
          have : ps[b] = [] := by simpa [Vis, hb2] using hV
          rw [this]; rfl
        have hpa : pav ps[a] = .snap 1 (ps[a].map iv) := by
          have : ps[a] ≠ [] := by simpa [Vis, ha2] using haV
          simp [pav, this]
        refine Run2.of I 1000 ?_
        simp -implicitDefEqProofs [hlt, hlt', haN, hbnd, hst', hget_app hpq, hget_app hfq, hset_app hpq, hset_app hfq, hne, Ne.symm hne, hb1, hb2, ha1, ha2, hpv, hpa]
        have hpha : ph[a] = x.pots.getD a 0 := by have := hBI.eq a haV; simpa [ha1] using this
        have hpb := Ph.pots_b hv (v := a) (by omega)
        have hda : 0 ≤ d ∧ d ≤ x.m := by
          obtain ⟨j, hj, _, hh⟩ := Ph.fg_step hv hst
          obtain ⟨_, _, _, q4, q5⟩ := Ph.edge hv hj
          rcases hh with ⟨_, _, rfl⟩ | ⟨_, _, rfl⟩ <;> omega
        have hnew : (ph[a] + d).tmod x.m = x.pots.getD b 0 := by
          rw [Int.tmod_eq_emod_of_nonneg (by omega), hpha]
          simpa using Ph.pots_step hv hst
        have hlen : ps[a].length + cntE ps ≤ N := by have := hBI.sz a ha2; rw [hNt] at this; simpa [ha2] using this
        refine ⟨by omega, by omega, ?_⟩
        refine (Clone_w ps[a] _ (by omega)).mono ?_
        rintro wc h' ⟨gc, hgc, hdc, rfl⟩
        refine gK.go ?_
        simp -implicitDefEqProofs
        refine Grow.app_mid (pre := []) hgc (fun j hj => by simp [dom]) (by simp; omega) (by simp) fun wc' gc' hgc' hfc => ?_
        generalize hL : ps[a].map iv ++ [.int .i64 (b : Int)] = L at hgc'
        cases hgc' with
        | nil => have := congrArg List.length hL; simp at this
        | emp => have := congrArg List.length hL; simp at this
        | sl idc _ nc hnc =>
        have f1 : ¬ idc = idp := fun hh => hfc idc (by simp [dom]) (by simp [dom, hh])
        have f2 : ¬ idc = idf := fun hh => hfc idc (by simp [dom]) (by simp [dom, hh])
        have f3 : idc ∉ dom gq := fun hh => hfc idc (by simp [dom]) (by simp [hh])
        have f4 : idc ∉ dom h := fun hh => hfc idc (by simp [dom]) (by simp [hh])
        simp -implicitDefEqProofs [hlt, hget_app hpq, hget_app hfq, hset_app hpq, hset_app hfq, hne, Ne.symm hne, hb1, hb2, f1, f2, Ne.symm f1, Ne.symm f2]
        have hqc := hQI.cnt
        refine Grow.app_mid (pre := [(idc, _)]) hg (fun j hj => by simp [dom]; rintro rfl; exact f3 hj) (by simp; omega) (by simp) fun wq' gq' hg' hfq' => ?_
        have g1 : idp ∉ dom gq' := fun hh => hfq' idp hh (by simp [dom])
        have g2 : idf ∉ dom gq' := fun hh => hfq' idf hh (by simp [dom])
        have g3 : idc ∉ dom gq' := fun hh => hfq' idc hh (by simp [dom])
        have g4 : ∀ j ∈ dom gq', j ∉ dom h := fun j hj hj2 => hfq' j hj (by simp [dom] at hj2 ⊢; exact .inr (.inr (.inr hj2)))
        simp -implicitDefEqProofs
        refine ⟨by omega, ?_⟩
        rw [hnew]
        have hq0 : ps[a] ++ [(b : Int)] ≠ [] := by simp
        have hVn : (ps[a] ++ [(b : Int)]).map iv = L := by rw [← hL]; simp
        refine Run2.frz1 g3 ?_
        rw [← hVn, fzs_paths (by rw [hnc, ← hVn]; simp) hq0]
        have hnb : ∀ c ∈ ps[a], 0 ≤ c ∧ Vis ps c.toNat := fun c hc => hBI.nd a haV c (by simpa [ha2] using hc)
        have hpaD : ps.getD a [] = ps[a] := by simp [ha2]
        have hBI' := hBI.put (b := b) (p := x.pots.getD b 0) (l := ps[a] ++ [(b : Int)]) (by omega) hV hq0 rfl
          (hQ1 a b ps[a] d (by have := hBI.pq a haV; rwa [hpaD] at this) (by simpa [Vis, ha2] using haV) hst (fun hm => hV (by simpa using (hnb _ hm).2)))
          (fun c hc => by
            rcases List.mem_append.1 hc with hc | hc
            · exact ⟨(hnb c hc).1, .inl (hnb c hc).2⟩
            · rw [List.mem_singleton] at hc; subst hc; exact ⟨by omega, .inr (by simp)⟩) (by simp; omega)
        have hset : (ph.map iv).set b (.int .i64 (x.pots.getD b 0)) = (ph.set b (x.pots.getD b 0)).map iv := by rw [List.map_set]; rfl
        have := go1 _ _ _ wq' gq' hBI' (hQI.put hb2 hV hq0) (hCL.put (by omega) hb2 hq0) (fun b' hb' d' hd' => (vis_set hb2 hq0 b').2 (by
          rcases Nat.lt_or_ge b' b with h1 | h1
          · exact .inl (hdone b' h1 d' hd')
          · exact .inr (by omega))) (by simpa using hg') g1 g2 g4 (by rw [List.getElem?_append_left hkQ]; exact hka)
        rw [hset]
        simpa using this
  · obtain rfl : b = N := by omega
    have hlt' : ¬ (b : Int) < x.n := by omega
    refine Run2.of I 1000 ?_
    simp -implicitDefEqProofs [hlt']
    refine go ph ps Q wq gq hBI hQI (hCL.next hkQ fun a' ha' b' d' hd' => ?_) hg hpq hfq hdq hkQ
    have haa : a' = a := by
      rw [List.getElem?_eq_getElem hkQ] at hka
      have : Q[k] = (a : Int) := by simpa using hka
      omega
    subst haa
    refine hdone b' ?_ d' hd'
    obtain ⟨j, hj, _, hh⟩ := Ph.fg_step hv hd'
    obtain ⟨_, _, _, _, _⟩ := Ph.edge hv hj
    rcases hh with ⟨_, _, _⟩ | ⟨_, _, _⟩ <;> omega
theorem bfs_mid (I : Is BpC Tryz.f22) {x : Ph} (hv : x.valid) {PQ : Nat → List Int → Prop} (hQ1 : ∀ (a b : Nat) (l : List Int) (d : Int), PQ a l → l ≠ [] → x.fgraph.step a b = some d → (b : Int) ∉ l → PQ b (l ++ [(b : Int)])) {h : Heap} {R : AV → Heap → Prop} {sk : List AItem} {N : Nat} (hNx : x.n = (N : Int)) {idf idp : Nat} (hne : ¬ idp = idf) {v : Nat} {ph0 : List Int} {ps0 : List (List Int)} {Q0 : List Int} {wq0 : AV} {gq0 : Heap}
    (hBI : BI x PQ ph0 ps0) (hQI : QI x v Q0 ps0) (hCL : CL x 0 Q0 ps0) (hg : Grow 1 wq0 (Q0.map iv) gq0) (hpq : idp ∉ dom gq0) (hfq : idf ∉ dom gq0) (hdq : ∀ j ∈ dom gq0, j ∉ dom h) 
    (go : ∀ ph ps Q wq gq (k : Nat), BI x PQ ph ps → QI x v Q ps → CL x Q.length Q ps → Grow 1 wq (Q.map iv) gq → idp ∉ dom gq → idf ∉ dom gq → (∀ j ∈ dom gq, j ∉ dom h) → vc2 BpC 991 [] sk [(1, .ip [.int .i64 x.n, .int .i64 x.m, .snap 3 (x.ts.map T.av)]), (5, .ip [.int .i64 x.fgraph.n, .int .i64 x.fgraph.m, .snap 3 (x.fgraph.ts.map T.av)]), (6, .sl idf 1 0 N (some N)), (7, .sl idp 1 0 N (some N)), (9, wq), (10, .int .i64 (Q.length : Nat)), (27, .int .i64 x.n), (28, .int .i64 (v : Nat)), (46, .bool false)] (gq ++ ((idp, ⟨1, ps.map pav⟩) :: (idf, ⟨1, ph.map iv⟩) :: h)) R) :
    Run2 BpC (.code k22_45 :: .inLoop k22_45 :: .inBlock 2 :: sk) [(1, .ip [.int .i64 x.n, .int .i64 x.m, .snap 3 (x.ts.map T.av)]), (5, .ip [.int .i64 x.fgraph.n, .int .i64 x.fgraph.m, .snap 3 (x.fgraph.ts.map T.av)]), (6, .sl idf 1 0 N (some N)), (7, .sl idp 1 0 N (some N)), (9, wq0), (10, .int .i64 0), (27, .int .i64 x.n), (28, .int .i64 (v : Nat))] (gq0 ++ ((idp, ⟨1, ps0.map pav⟩) :: (idf, ⟨1, ph0.map iv⟩) :: h)) R := by
  have hn1 := hv.1
  have hn2 := hv.2.1
  have hNt : x.n.toNat = N := by omega
  refine Run2.loopE (α := Nat × List Int × List (List Int) × List Int × AV × Heap) (fun s => [(1, .ip [.int .i64 x.n, .int .i64 x.m, .snap 3 (x.ts.map T.av)]), (5, .ip [.int .i64 x.fgraph.n, .int .i64 x.fgraph.m, .snap 3 (x.fgraph.ts.map T.av)]), (6, .sl idf 1 0 N (some N)), (7, .sl idp 1 0 N (some N)), (9, s.2.2.2.2.1), (10, .int .i64 (s.1 : Nat)), (27, .int .i64 x.n), (28, .int .i64 (v : Nat))]) (fun s => s.2.2.2.2.2 ++ ((idp, ⟨1, s.2.2.1.map pav⟩) :: (idf, ⟨1, s.2.1.map iv⟩) :: h)) (fun s => N - s.1)
    (fun s => s.1 ≤ s.2.2.2.1.length ∧ BI x PQ s.2.1 s.2.2.1 ∧ QI x v s.2.2.2.1 s.2.2.1 ∧ CL x s.1 s.2.2.2.1 s.2.2.1 ∧ Grow 1 s.2.2.2.2.1 (s.2.2.2.1.map iv) s.2.2.2.2.2 ∧ idp ∉ dom s.2.2.2.2.2 ∧ idf ∉ dom s.2.2.2.2.2 ∧ (∀ j ∈ dom s.2.2.2.2.2, j ∉ dom h))
    (0, ph0, ps0, Q0, wq0, gq0) (by simp) rfl ⟨Nat.zero_le _, hBI, hQI, hCL, hg, hpq, hfq, hdq⟩ ?_
  clear hBI hQI hCL hg hpq hfq hdq
  rintro ⟨k, ph, ps, Q, wq, gq⟩ ⟨hi, hBI, hQI, hCL, hg, hpq, hfq, hdq⟩ ih
  simp only at hi hBI hQI hCL hg hpq hfq hdq ih ⊢
  have hlen := hg.len
  simp only [List.length_map] at hlen
  have hqc := hQI.cnt
  rw [hNt] at hqc
  by_cases hlt : k < Q.length
  · have go1 := fun ph ps Q wq gq c0 c1 c2 c3 c4 c5 c6 c7 => ih (k + 1, ph, ps, Q, wq, gq) ⟨c0, c1, c2, c3, c4, c5, c6, c7⟩ (by simp; omega)
    clear ih go
    obtain ⟨q1, q2⟩ := hQI.q _ (List.getElem_mem hlt)
    obtain ⟨a, ha⟩ : ∃ a : Nat, Q[k] = (a : Int) := ⟨Q[k].toNat, by omega⟩
    have hka : Q[k]? = some (a : Int) := by rw [List.getElem?_eq_getElem hlt, ha]
    have hg0 := hg
    generalize hL : Q.map iv = L at hg
    cases hg with
    | nil => simp at hL; rw [hL] at hlt; simp at hlt
    | emp => simp at hL; rw [hL] at hlt; simp at hlt
    | sl idq _ nq hnq =>
    obtain rfl : nq = Q.length := by rw [hnq, ← hL]; simp
    subst hL
    refine Run2.of I 1000 ?_
    simp -implicitDefEqProofs [hlt, ha]
    refine bfs_inner (k := k) (a := a) I hv hQ1 hNx hne hBI hQI hCL hg0 hpq hfq hdq hka fun ph ps Q wq gq c1 c2 c3 c4 c5 c6 c7 c8 => ?_
    simp -implicitDefEqProofs
    refine ⟨by omega, ?_⟩
    have := go1 ph ps Q wq gq (by simp only; omega) c1 c2 c3 c4 c5 c6 c7
    simpa using this
  · obtain rfl : k = Q.length := by omega
    refine Run2.of I 1000 ?_
    simp -implicitDefEqProofs [hlen]
    exact go ph ps Q wq gq 0 hBI hQI hCL hg hpq hfq hdq
theorem forestPhases_w (x : Ph) (PQ : Nat → List Int → Prop) (hQ0 : ∀ v, v < x.n.toNat → fsti x.parts v = v → PQ v [(v : Int)]) (hQ1 : ∀ (a b : Nat) (l : List Int) (d : Int), PQ a l → l ≠ [] → x.fgraph.step a b = some d → (b : Int) ∉ l → PQ b (l ++ [(b : Int)])) (h : Heap) (hv : x.valid) :
    ACalls Tryz.prog 22 [x.av] h (fun v h' => ∃ idf ps, idf ∉ dom h ∧ ps.length = x.n.toNat ∧ (∀ u, u < x.n.toNat → Vis ps u ∧ PQ u (ps.getD u [])) ∧ v = .tup [.sl idf 1 0 x.n.toNat (some x.n.toNat), .snap 1 (ps.map fun p => .snap 1 (p.map iv))] ∧ h' = (idf, ⟨1, x.pots.map iv⟩) :: h) := by
  have hn1 := hv.1
  have hn2 := hv.2.1
  have hm1 := hv.2.2.1
  have hm2 := hv.2.2.2.1
  have hl2 := hv.2.2.2.2.2
  have hvv : Ph.valid ⟨x.n, x.m, x.ts⟩ := hv
  have hbnd := Ph.kept_bnd hv fun k => decide (k ∈ x.forest)
  obtain ⟨N, hN⟩ : ∃ N : Nat, x.n.toNat = N := ⟨_, rfl⟩
  have hNx : x.n = (N : Int) := by omega
  have hN12 : N ≤ 12 := by omega
  refine k22_of rfl orcB3_p fun I => ?_
  generalize hR : (fun (v : AV) (h' : Heap) => ∃ idf ps, idf ∉ dom h ∧ ps.length = x.n.toNat ∧ (∀ u, u < x.n.toNat → Vis ps u ∧ PQ u (ps.getD u [])) ∧ v = .tup [.sl idf 1 0 x.n.toNat (some x.n.toNat), .snap 1 (ps.map fun p => .snap 1 (p.map iv))] ∧ h' = (idf, ⟨1, x.pots.map iv⟩) :: h) = R
  have leaf : ∀ idf ps, idf ∉ dom h → ps.length = N → (∀ u, u < N → Vis ps u ∧ PQ u (ps.getD u [])) → R (.tup [.sl idf 1 0 N (some N), .snap 1 (ps.map fun p => .snap 1 (p.map iv))]) ((idf, ⟨1, x.pots.map iv⟩) :: h) := by
    intro idf ps c1 c2 c3
    subst hR
    rw [hN]
    exact ⟨idf, ps, c1, c2, c3, rfl, rfl⟩
  clear hR
  refine Run2.of I 1000 ?_
  simp -implicitDefEqProofs [hvv]
  refine (fgraph_c x _ hl2).mono ?_
  rintro v h' ⟨rfl, rfl⟩
  refine gK.go ?_
  simp -implicitDefEqProofs
  refine ⟨by omega, by omega, fun idf hf => ⟨by omega, by omega, fun idp hne hp => ?_⟩⟩
  refine gK.go ?_
  simp -implicitDefEqProofs [hN]
  refine Run2.loopE (α := Nat × List Int × List (List Int)) (fun s => [(1, .ip [.int .i64 x.n, .int .i64 x.m, .snap 3 (x.ts.map T.av)]), (5, .ip [.int .i64 x.fgraph.n, .int .i64 x.fgraph.m, .snap 3 (x.fgraph.ts.map T.av)]), (6, .sl idf 1 0 N (some N)), (7, .sl idp 1 0 N (some N)), (27, .int .i64 x.n), (28, .int .i64 (s.1 : Nat))]) (fun s => (idp, ⟨1, s.2.2.map pav⟩) :: (idf, ⟨1, s.2.1.map iv⟩) :: h') (fun s => N - s.1)
    (fun s => s.1 ≤ N ∧ BI x PQ s.2.1 s.2.2 ∧ (∀ u, u < s.1 → Vis s.2.2 u) ∧ (∀ (a b : Nat) d, Vis s.2.2 a → x.fgraph.step a b = some d → Vis s.2.2 b)) (0, List.replicate N 0, List.replicate N []) (by simp) (by simp [pav]) ⟨Nat.zero_le _, ?_, fun u hu => by simp at hu, fun a b d ha => absurd ha (by unfold Vis; by_cases h : a < N <;> simp [h])⟩ ?_
  · have hnv : ∀ u, ¬ Vis (List.replicate N []) u := fun u => by
      unfold Vis
      by_cases h : u < N <;> simp [h]
    exact ⟨by simp [hN], by simp [hN], fun u hu => absurd hu (hnv u), fun u hu => absurd hu (hnv u), fun u hu => absurd hu (hnv u), fun u hu => by have := cntE_le (List.replicate N []); simp at this hu; simp [hu, hN]; exact this, fun u _ => by by_cases h : u < N <;> simp [h]⟩
  rintro ⟨v, ph, ps⟩ ⟨hi, hBI, hlow, hcl⟩ ih
  simp only at hi hBI hlow hcl ih ⊢
  have b1 := hBI.l1
  have b2 := hBI.l2
  rw [hN] at b1 b2
  by_cases hlt : v < N
  · have hlt' : (v : Int) < x.n := by omega
    have go1 := fun ph ps c1 c2 c3 => ih (v + 1, ph, ps) ⟨by simp; omega, c1, c2, c3⟩ (by simp; omega)
    clear ih
    have hb2 : v < ps.length := by omega
    by_cases hV : Vis ps v
    · obtain ⟨c, l, hcl2⟩ : ∃ c l, ps[v] = c :: l := by
        have : ps[v] ≠ [] := by simpa [Vis, hb2] using hV
        cases hp : ps[v] with
        | nil => exact absurd hp this
        | cons c l => exact ⟨c, l, rfl⟩
      have hpv : pav ps[v] = .snap 1 (.int .i64 c :: l.map iv) := by rw [hcl2]; rfl
      refine Run2.of I 1000 ?_
      simp -implicitDefEqProofs [hlt, hlt', hne, hb2, hpv]
      refine ⟨by omega, ?_⟩
      have := go1 ph ps hBI (fun u hu => by
        rcases Nat.lt_or_ge u v with h1 | h1
        · exact hlow u h1
        · obtain rfl : u = v := by omega
          exact hV) hcl
      simpa using this
    · have hpv : pav ps[v] = .nilsl := by
        have : ps[v] = [] := by simpa [Vis, hb2] using hV
        rw [this]; rfl
      refine Run2.of I 1000 ?_
      simp -implicitDefEqProofs [hlt, hlt', hne, Ne.symm hne, hb2, hpv]
      intro idq f1 f2 f3
      refine gK.go ?_
      simp -implicitDefEqProofs
      refine Run2.wk (e' := [(1, .ip [.int .i64 x.n, .int .i64 x.m, .snap 3 (x.ts.map T.av)]), (5, .ip [.int .i64 x.fgraph.n, .int .i64 x.fgraph.m, .snap 3 (x.fgraph.ts.map T.av)]), (6, .sl idf 1 0 N (some N)), (7, .sl idp 1 0 N (some N)), (9, .sl idq 1 0 1 none), (10, .int .i64 0), (27, .int .i64 x.n), (28, .int .i64 (v : Nat))]) (fun t => ?_) ?_
      · simp only [eget]
        repeat' split
        all_goals first | exact Wk.refl _ | exact Wk.cap _ _ _ _ _
      have hroot := Ph.root_of hv (Vis ps) hcl (by omega) hlow hV
      have hpot := Ph.pots_root hv (v := v) (by omega) hroot
      have hl : [(v : Int)] ≠ [] := by simp
      have hcle := cntE_le ps
      have hcs := cntE_set hb2 hV hl
      have hvs := vis_set hb2 hl
      have hBI' := hBI.put (b := v) (p := x.pots.getD v 0) (l := [(v : Int)]) (by omega) hV hl rfl (hQ0 v (by omega) hroot) (fun c hc => by rw [List.mem_singleton] at hc; subst hc; exact ⟨by omega, .inr (by simp)⟩) (by simp; omega)
      have hph : ph.set v (x.pots.getD v 0) = ph := by
        have hz := hBI.z v hV
        have hv1 : v < ph.length := by omega
        rw [hpot]
        apply List.ext_getElem?
        intro j
        by_cases hj : v = j
        · subst hj; simp [hv1] at hz ⊢; exact hz.symm
        · simp [List.getElem?_set, hj]
      rw [hph] at hBI'
      have hps : (ps.map pav).set v (.snap 1 [.int .i64 (v : Int)]) = (ps.set v [(v : Int)]).map pav := by rw [List.map_set]; rfl
      rw [hps]
      refine bfs_mid (gq0 := [(idq, ⟨1, [.int .i64 (v : Int)]⟩)]) (Q0 := [(v : Int)]) I hv hQ1 hNx hne hBI' ⟨fun c hc => ?_, fun u hu => ?_, by simp; omega⟩ (fun a ha => ?_) (.sl idq _ 1 rfl) (by simp [dom]; exact Ne.symm f1) (by simp [dom]; exact Ne.symm f2) (fun j hj => by simp [dom] at hj; subst hj; exact f3) fun ph ps Q wq gq k c1 c2 c3 c4 c5 c6 c7 => ?_
      · rw [List.mem_singleton] at hc; subst hc; exact ⟨by omega, (hvs _).2 (.inr (by simp))⟩
      · rcases Nat.lt_or_ge u v with h1 | h1
        · exact (hvs u).2 (.inl (hlow u h1))
        · exact (hvs u).2 (.inr (by omega))
      · rcases (hvs a).1 ha with h1 | h1
        · exact .inr fun b d hd => (hvs b).2 (.inl (hcl a b d h1 hd))
        · subst h1; exact .inl ⟨0, Nat.le_refl _, rfl⟩
      simp -implicitDefEqProofs
      refine ⟨by omega, Run2.sub (h' := (idp, ⟨1, ps.map pav⟩) :: (idf, ⟨1, ph.map iv⟩) :: h') (fun p hp => List.mem_append_right _ hp) (fun nd => by rw [dom_app] at nd; exact (List.nodup_append.1 nd).2.1) ?_⟩
      have := go1 ph ps c1 (fun u hu => c2.low u hu) (c3.all (Nat.le_refl _))
      simpa using this
  · obtain rfl : v = N := by omega
    have hlt' : ¬ (v : Int) < x.n := by omega
    refine Run2.of I 1000 ?_
    simp -implicitDefEqProofs [hlt']
    have hall : ∀ u, u < v → Vis ps u := hlow
    have hph : ph = x.pots := by
      have pl := Ph.pots_len hv
      apply List.ext_getElem?
      intro j
      by_cases hj : j < v
      · have := hBI.eq j (hall j hj)
        have h1 : j < ph.length := by omega
        have h2 : j < x.pots.length := by omega
        simpa [h1, h2] using this
      · rw [List.getElem?_eq_none (by omega), List.getElem?_eq_none (by omega)]
    have hpm : ps.map pav = ps.map fun p => AV.snap 1 (p.map iv) := by
      apply List.map_congr_left
      intro p hp
      obtain ⟨j, hj, rfl⟩ := List.mem_iff_getElem.1 hp
      have := hall j (by omega)
      have h1 : ps[j] ≠ [] := by simpa [Vis, hj] using this
      simp [pav, h1]
    have lf := leaf idf ps hf b2 fun u hu => ⟨hall u hu, hBI.pq u (hall u hu)⟩
    subst hph
    rw [hpm]
    refine .freeze idp (by simp [hget]; rfl) (.base ?_)
    simp [hdel, hne, Ne.symm hne, b2]
    rw [List.take_of_length_le (by simp [b2])]
    exact lf
end Go.AG.P
namespace Go.AG.P
open Go.Proofs Go.Proofs.YtgofekmoimjcmaaGreatDoor
set_option linter.unusedSimpArgs false
set_option linter.unusedVariables false
set_option maxRecDepth 4000
theorem Ph.pots_vec {x : Ph} (hv : x.valid) : vec x.pots x.n x.m := by
  have hn1 := hv.1
  have hl := Ph.pots_len hv
  refine ⟨by omega, fun a ha => ?_⟩
  obtain ⟨j, hj, rfl⟩ := List.mem_iff_getElem.1 ha
  have := Ph.pots_b hv (v := j) (by omega)
  simpa [hj] using this
/-- The edges at which the phases along the forest are wrong. -/
def Ph.wrong (x : Ph) : List Int := x.wr x.pots x.ts.length
noncomputable def Ph.pcode (x : Ph) : Int := if x.valid then (if x.wrong = [] then 0 else 3) else 1
noncomputable def Ph.pres (x : Ph) : List Int := if x.valid ∧ x.wrong = [] then x.pots else []
theorem errorsOf_l (x : Ph) (idf : Nat) (h : Heap) (hv : x.valid) : ACalls Tryz.prog 23 [x.av, .sl idf 1 0 x.n.toNat (some x.n.toNat)] ((idf, ⟨1, x.pots.map iv⟩) :: h) (fun v h' => ∃ hp, Grow 1 v (x.wrong.map iv) hp ∧ (∀ j ∈ dom hp, j ∉ dom ((idf, ⟨1, x.pots.map iv⟩) :: h)) ∧ h' = hp ++ ((idf, ⟨1, x.pots.map iv⟩) :: h)) := by
  have hl := Ph.pots_len hv
  refine (ACalls.gives [(idf, ⟨1, x.pots.map iv⟩)] (by simp) (S := fun v h' => Grow 1 v (x.wrong.map iv) h') ?_ ?_).mono ?_
  · have e1 : lend [(idf, ⟨1, x.pots.map iv⟩)] [x.av, .sl idf 1 0 x.n.toNat (some x.n.toNat)] = [x.av, .snap 1 (x.pots.map iv)] := by
      rw [lend_cons, lend_cons, lend_nil', lend1_cold [(idf, ⟨1, x.pots.map iv⟩)] (x := x.av) (x.is.cold)]
      congr 2
      simp [lend1, hl]
      exact List.take_of_length_le (by simp [hl])
    rw [e1]
    exact (errorsOf_w x x.pots [] hv (Ph.pots_vec hv)).mono fun v h' ⟨hp, hg, e⟩ => by rw [List.append_nil] at e; subst e; exact hg
  · intro v h' hg
    exact (Grow.own (enc := iv) hg).own own_iv1
  · rintro v h'' ⟨h', hg, hd, rfl⟩
    exact ⟨h', hg, hd, rfl⟩
abbrev k7_o0 : List AJ := [.o ⟨(some 1), none, false, .box false 3 (.t 0), none⟩, .o ⟨(some 2), none, false, .mv (.c .nilsl), none⟩, .o ⟨(some 3), none, false, .mv (.c (.int .i64 0)), (some [1])⟩]
abbrev k7_o1 : List AJ := [.o ⟨(some 6), none, false, .load 3 true (.t 1), none⟩, .o ⟨(some 7), none, false, .call 21 [(.t 6)], none⟩, .o ⟨(some 8), none, false, .un .not (.t 7), (some [1, 8])⟩]
abbrev k7_o2 : List AJ := [.o ⟨(some 2), none, false, .mv (.c .nilsl), none⟩, .o ⟨(some 3), none, false, .mv (.c (.int .i64 1)), (some [2, 3])⟩]
def k7_3 : ACode := .seq (.region k7_o2) .ret
def k7_4 : ACode := .cond (.t 8) k7_3 .skip
def k7_5 : ACode := .seq (.region k7_o1) k7_4
abbrev k7_o3 : List AJ := [.o ⟨(some 10), none, false, .load 3 true (.t 1), none⟩, .o ⟨(some 11), none, false, .call 22 [(.t 10)], none⟩, .o ⟨(some 9), none, false, .mv (.t 11), none⟩, .o ⟨(some 12), none, false, .extract (.t 9) 0, none⟩, .o ⟨(some 13), none, false, .extract (.t 9) 1, none⟩, .o ⟨(some 4), none, false, .mv (.t 12), none⟩, .o ⟨(some 5), none, false, .mv (.t 13), (some [1, 4])⟩]
abbrev k7_o4 : List AJ := [.o ⟨(some 14), none, false, .load 3 true (.t 1), none⟩, .o ⟨(some 15), none, false, .mv (.t 4), none⟩, .o ⟨(some 16), none, false, .call 23 [(.t 14), (.t 15)], none⟩, .o ⟨(some 17), none, false, .len (.t 16), none⟩, .o ⟨(some 18), none, false, .bin .gtr (.t 17) (.c (.int .i64 0)), (some [4, 18])⟩]
abbrev k7_o5 : List AJ := [.o ⟨(some 2), none, false, .mv (.c .nilsl), none⟩, .o ⟨(some 3), none, false, .mv (.c (.int .i64 3)), (some [2, 3])⟩]
def k7_9 : ACode := .seq (.region k7_o5) .ret
def k7_10 : ACode := .cond (.t 18) k7_9 .skip
def k7_11 : ACode := .seq (.region k7_o4) k7_10
abbrev k7_o6 : List AJ := [.o ⟨(some 19), none, false, .mv (.t 4), none⟩, .o ⟨(some 2), none, false, .mv (.t 19), none⟩, .o ⟨(some 3), none, false, .mv (.c (.int .i64 0)), (some [2, 3])⟩]
def k7_13 : ACode := .seq (.region k7_o6) .ret
def k7_14 : ACode := .seq k7_11 k7_13
def k7_15 : ACode := .seq (.region k7_o3) k7_14
def k7_16 : ACode := .seq k7_5 k7_15
def k7_17 : ACode := .seq (.region k7_o0) k7_16
@[simp, simp ↓] theorem k7_3r : sR k7_3 k7_o2 .ret := yR rfl
@[simp, simp ↓] theorem k7_4r : rC k7_4 (.t 8) k7_3 .skip := zC rfl
@[simp, simp ↓] theorem k7_5r : sR k7_5 k7_o1 k7_4 := yR rfl
@[simp, simp ↓] theorem k7_9r : sR k7_9 k7_o5 .ret := yR rfl
@[simp, simp ↓] theorem k7_10r : rC k7_10 (.t 18) k7_9 .skip := zC rfl
@[simp, simp ↓] theorem k7_11r : sR k7_11 k7_o4 k7_10 := yR rfl
@[simp, simp ↓] theorem k7_13r : sR k7_13 k7_o6 .ret := yR rfl
@[simp, simp ↓] theorem k7_14r : rS k7_14 k7_11 k7_13 := zS rfl
@[simp, simp ↓] theorem k7_15r : sR k7_15 k7_o3 k7_14 := yR rfl
@[simp, simp ↓] theorem k7_16r : rS k7_16 k7_5 k7_15 := zS rfl
@[simp, simp ↓] theorem k7_17r : sR k7_17 k7_o0 k7_16 := yR rfl
noncomputable abbrev k7_C : Orc → Cx := mkC Tryz.prog [] 7 20 [.tmp 2, .tmp 3]
theorem k7_of : OfP Tryz.prog Tryz.f7 7 20 k7_C k7_17 := @ofP _ _ _ _ _ _ _ _ Tryz.func7 (by decide +kernel) rfl (by kernel_rfl) rfl (by kernel_rfl)
theorem implPot_o (x : Ph) (ok : x.ok) (hl : x.ts.length ≤ 1048576) : ACalls Tryz.prog 7 [x.av] [] (fun v h' => ∃ w, v = .tup [w, .int .i64 x.pcode] ∧ OwnL iv 1 w x.pres h') := by
  refine k7_of rfl orcF_p fun I => ?_
  refine Run2.of I 1000 ?_
  simp -implicitDefEqProofs [ok, hl]
  refine ⟨fun hv => .base ?_, fun hv => ?_⟩
  · simp [Ph.pres, Ph.pcode, hv]
    exact .nil
  have hpl := Ph.pots_len hv
  refine (forestPhases_w x (fun _ _ => True) (fun _ _ _ => trivial) (fun _ _ _ _ _ _ _ _ => trivial) _ hv).mono ?_
  rintro w h' ⟨idf, ps, hf, hps, _, rfl, rfl⟩
  refine gK.go ?_
  simp -implicitDefEqProofs
  refine (errorsOf_l x idf [] hv).mono ?_
  rintro u h' ⟨hp, hg, hd, rfl⟩
  have hlen := hg.len
  simp only [List.length_map] at hlen
  refine gK.go ?_
  simp -implicitDefEqProofs [hlen]
  refine ⟨fun h1 => ?_, fun h1 => ?_⟩
  · have h2 : ¬ x.wrong = [] := fun h2 => by rw [h2] at h1; simp at h1
    refine Grow.dropped hg (.drop idf (.base ?_))
    simp [Ph.pres, Ph.pcode, hv, h2, hdel]
    exact .nil
  · have h2 : x.wrong = [] := h1
    refine Grow.dropped hg (.base ?_)
    have e1 : x.pres = x.pots := by simp [Ph.pres, hv, h2]
    have e2 : x.pcode = 0 := by simp [Ph.pcode, hv, h2]
    rw [e1, e2, ← hpl]
    exact ⟨_, rfl, by simpa using OwnL.sl (enc := iv) (sz := 1) (l := x.pots) idf (some x.pots.length) [] rfl⟩
theorem Ph.pres_len (x : Ph) : x.pres.length ≤ 12 := by
  unfold Ph.pres
  split
  · rename_i h
    have := Ph.pots_len h.1
    have := h.1.2.1
    omega
  · simp
end Go.AG.P
