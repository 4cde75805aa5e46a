/- What holds of drawn graphs: forests, potentials, loops and edges to leave out. Plain; no statement is made here. -/
import Derived.Test.YtdjamhallkijmaaPhLoop
import Derived.Test.YtdjamhallkijmaaPhCo
namespace Go.AG
open Go.Proofs Go.Proofs.Ytdjamhallkijmaa
set_option linter.unusedSimpArgs false
set_option linter.unusedVariables false
/-! ## A forest has fewer edges than nodes -/
def cntP (p : Nat → Bool) : Nat → Nat
  | 0 => 0
  | k + 1 => cntP p k + if p k then 1 else 0
theorem cntP_congr {p q : Nat → Bool} : ∀ k, (∀ j, j < k → p j = q j) → cntP p k = cntP q k
  | 0, _ => rfl
  | k + 1, h => by simp only [cntP]; rw [cntP_congr k fun j hj => h j (by omega), h k (by omega)]
theorem cntP_drop (p : Nat → Bool) (b : Nat) : ∀ k, cntP (fun v => p v && !decide (v = b)) k + (if b < k ∧ p b = true then 1 else 0) = cntP p k
  | 0 => by simp [cntP]
  | k + 1 => by
    have ih := cntP_drop p b k
    simp only [cntP]
    by_cases hk : k = b
    · subst hk
      simp only [Nat.lt_irrefl, false_and, if_false, Nat.add_zero] at ih
      simp only [decide_true, Bool.not_true, Bool.and_false, if_false, Nat.lt_add_one, true_and, Bool.false_eq_true]
      omega
    · simp only [hk, decide_false, Bool.not_false, Bool.and_true]
      by_cases hb : b < k ∧ p b = true
      · rw [if_pos hb] at ih
        rw [if_pos (show b < k + 1 ∧ p b = true from ⟨by omega, hb.2⟩)]
        omega
      · rw [if_neg hb] at ih
        rw [if_neg (show ¬ (b < k + 1 ∧ p b = true) from fun h => hb ⟨by omega, h.2⟩)]
        omega
theorem cntP_pos {p : Nat → Bool} {b : Nat} (hp : p b = true) : ∀ k, b < k → 1 ≤ cntP p k
  | k + 1, h => by
    simp only [cntP]
    by_cases hk : b = k
    · subst hk; rw [if_pos hp]; omega
    · have := cntP_pos hp k (by omega); omega
theorem cntP_all (k : Nat) {p : Nat → Bool} (h : ∀ j, j < k → p j = true) : cntP p k = k := by
  induction k with
  | zero => rfl
  | succ k ih => simp only [cntP]; rw [ih fun j hj => h j (by omega), h k (by omega)]; simp
/-- The labels are nodes that have themselves as labels, and each edge of the forest took one of these away. -/
structure FRt (x : Ph) (s : List Int × List Int × List Int) : Prop where
  c : s.2.2.length + cntP (fun v => decide (s.1.getD v 0 = (v : Int))) x.n.toNat = x.n.toNat
  r : ∀ v, v < x.n.toNat → 0 ≤ s.1.getD v 0 ∧ s.1.getD v 0 < x.n ∧ s.1.getD (s.1.getD v 0).toNat 0 = s.1.getD v 0
theorem FRt.step {x : Ph} (hv : x.valid) {i : Nat} (hi : i < x.ts.length) {s : List Int × List Int × List Int} (o : FOk x s) (I : FRt x s) : FRt x (fstep x i s) := by
  obtain ⟨q1, q2, q3, _, _⟩ := Ph.edge hv hi
  obtain ⟨P, F, out⟩ := s
  obtain ⟨hc, hr⟩ := I
  have oP := o.p
  simp only at oP hc hr
  unfold fstep
  have ht : x.ts.getD i default = x.ts[i] := by simp [hi]
  simp only [ht]
  split
  · exact ⟨hc, hr⟩
  rename_i hab
  have ha := hr x.ts[i].f.toNat (by omega)
  have hb := hr x.ts[i].t.toNat (by omega)
  generalize P.getD x.ts[i].f.toNat 0 = a at hab ha ⊢
  generalize P.getD x.ts[i].t.toNat 0 = b at hab hb ⊢
  have hg : ∀ v, v < x.n.toNat → (P.map fun c => if c = b then a else c).getD v 0 = if P.getD v 0 = b then a else P.getD v 0 := fun v hv => getD_map_int _ _ (by omega)
  have hbn : b.toNat < x.n.toNat := by omega
  refine ⟨?_, fun v hv => ?_⟩
  · simp only [List.length_append, List.length_singleton]
    have hd := cntP_drop (fun v => decide (P.getD v 0 = (v : Int))) b.toNat x.n.toNat
    rw [if_pos ⟨hbn, by simp only [decide_eq_true_eq]; rw [hb.2.2]; omega⟩] at hd
    have he : cntP (fun v => decide ((P.map fun c => if c = b then a else c).getD v 0 = (v : Int))) x.n.toNat = cntP (fun v => decide (P.getD v 0 = (v : Int)) && !decide (v = b.toNat)) x.n.toNat := cntP_congr _ fun v hv => by
      rw [hg v hv, Bool.eq_iff_iff]
      simp only [decide_eq_true_eq, Bool.and_eq_true, Bool.not_eq_true', decide_eq_false_iff_not]
      by_cases h1 : P.getD v 0 = b
      · rw [if_pos h1]
        constructor
        · intro h2
          exfalso
          have : v = a.toNat := by omega
          subst this
          rw [ha.2.2] at h1
          exact hab h1
        · rintro ⟨h2, h3⟩; omega
      · rw [if_neg h1]
        constructor
        · intro h2
          refine ⟨h2, fun h3 => h1 ?_⟩
          omega
        · exact fun h => h.1
    rw [he]
    omega
  · simp only
    have h0 := hr v hv
    rw [hg v hv]
    by_cases h1 : P.getD v 0 = b
    · rw [if_pos h1]
      refine ⟨ha.1, ha.2.1, ?_⟩
      rw [hg _ (by omega), ha.2.2, if_neg hab]
    · rw [if_neg h1]
      refine ⟨h0.1, h0.2.1, ?_⟩
      rw [hg _ (by omega), h0.2.2, if_neg h1]
theorem fstate_rt {x : Ph} (hv : x.valid) : ∀ i, i ≤ x.ts.length → FRt x (fstate x i)
  | 0, _ => by
    have hg : ∀ v, v < x.n.toNat → ((List.range x.n.toNat).map Int.ofNat).getD v 0 = (v : Int) := fun v hv => by simp [hv]
    refine ⟨?_, fun v hv => ?_⟩
    · show (0 : Nat) + cntP (fun v => decide (((List.range x.n.toNat).map Int.ofNat).getD v 0 = (v : Int))) x.n.toNat = x.n.toNat
      rw [cntP_all _ fun j hj => by rw [hg j hj]; simp]; omega
    · show 0 ≤ ((List.range x.n.toNat).map Int.ofNat).getD v 0 ∧ ((List.range x.n.toNat).map Int.ofNat).getD v 0 < x.n ∧ _
      have e : (fstate x 0).1 = (List.range x.n.toNat).map Int.ofNat := rfl
      rw [e, hg v hv, Int.toNat_natCast, hg v hv]
      exact ⟨by omega, by omega, rfl⟩
  | i + 1, hi => (fstate_rt hv i (by omega)).step hv (by omega) (fstate_ok hv.2.2.1 i)
theorem Ph.forest_lt {x : Ph} (hv : x.valid) : (x.forest.length : Int) < x.n := by
  have h := fstate_rt hv _ (Nat.le_refl _)
  have hn := hv.1
  have h0 := h.r 0 (by omega)
  have := cntP_pos (p := fun v => decide ((fstate x x.ts.length).1.getD v 0 = (v : Int))) (b := ((fstate x x.ts.length).1.getD 0 0).toNat) (by simp only [decide_eq_true_eq]; rw [h0.2.2]; omega) x.n.toNat (by omega)
  have := h.c
  have e : x.forest = (fstate x x.ts.length).2.2 := rfl
  rw [e]
  omega
/-! ## Potentials -/
theorem Ph.wrong_nil (x : Ph) : x.wrong = [] ↔ ∀ (j : Nat) (hj : j < x.ts.length), (x.pots.getD x.ts[j].f.toNat 0 + x.ts[j].s) % x.m = x.pots.getD x.ts[j].t.toNat 0 := by
  unfold Ph.wrong Ph.wr
  simp only [List.map_eq_nil_iff, List.filter_eq_nil_iff, List.mem_range]
  constructor
  · intro h j hj
    have := h j hj
    simpa [Ph.bad, hj] using this
  · intro h j hj
    have := h j hj
    simpa [Ph.bad, hj] using this
theorem Ph.wrong_at {x : Ph} {j : Nat} (hj : j < x.ts.length) (h : (j : Int) ∈ x.wrong) : (x.pots.getD x.ts[j].f.toNat 0 + x.ts[j].s) % x.m ≠ x.pots.getD x.ts[j].t.toNat 0 := by
  unfold Ph.wrong Ph.wr at h
  obtain ⟨k, hk, e⟩ := List.mem_map.1 h
  have e : (k : Int) = (j : Int) := e
  obtain rfl : k = j := by omega
  have := (List.mem_filter.1 hk).2
  simpa [Ph.bad, hj] using this
theorem dvd_of_mod_eq {m a b : Int} (h : a % m = b) : m ∣ a - b := by
  have := Int.emod_add_mul_ediv a m
  exact ⟨a / m, by rw [h] at this; omega⟩
theorem mod_eq_of_dvd {m a b : Int} (hb : 0 ≤ b ∧ b < m) (h : m ∣ a - b) : a % m = b := by
  obtain ⟨k, hk⟩ := h
  rw [show a = b + m * k by omega, Int.add_mul_emod_self_left]
  exact Int.emod_eq_of_lt hb.1 hb.2
theorem dvd_cast {m a b : Int} (h : m ∣ a) (e : a = b) : m ∣ b := e ▸ h
/-- If there are phases that are right, those along the forest are right. -/
theorem Ph.pot_ok {x : Ph} (hv : x.valid) (p : Nat → Int) (hp : ∀ (j : Nat) (hj : j < x.ts.length), x.m ∣ p x.ts[j].f.toNat + x.ts[j].s - p x.ts[j].t.toNat) : x.wrong = [] := by
  rw [Ph.wrong_nil]
  intro j hj
  obtain ⟨q1, q2, q3, q4, q5⟩ := Ph.edge hv hj
  have key := ((fstate_inv hv _ (Nat.le_refl _)).part (fun u => x.m ∣ (x.pots.getD u 0 - p u) - (x.pots.getD x.ts[j].f.toNat 0 - p x.ts[j].f.toNat)) (fun i hi hm => ?_) x.ts[j].f.toNat x.ts[j].t.toNat (by omega) (by omega) (same_parts hv _ (Nat.le_refl _) j hj hj)).1 (by simp)
  · refine mod_eq_of_dvd (Ph.pots_b hv (by omega)) ?_
    exact dvd_cast (Int.dvd_sub (hp j hj) key) (by omega)
  · have h1 := dvd_of_mod_eq (Ph.pots_edge hv hi hm)
    have h2 := hp i hi
    have h3 := Int.dvd_sub h1 h2
    constructor
    · intro h
      exact dvd_cast (Int.dvd_sub h h3) (by omega)
    · intro h
      exact dvd_cast (Int.dvd_add h h3) (by omega)
/-! ## Loops -/
theorem Ph.lt_at {x : Ph} (hv : x.valid) {i j : Nat} (hi : i < x.ts.length) (hj : j < x.ts.length) (h : i < j) : (x.ts[i]).lt x.ts[j] := (List.pairwise_iff_getElem.1 (good_pw hv.2.2.2.2.1)) i j hi hj h
theorem Ph.edge_uniq {x : Ph} (hv : x.valid) {i j : Nat} (hi : i < x.ts.length) (hj : j < x.ts.length) (h1 : x.ts[i].f = x.ts[j].f) (h2 : x.ts[i].t = x.ts[j].t) : i = j := by
  rcases Nat.lt_trichotomy i j with h | h | h
  · have := Ph.lt_at hv hi hj h
    unfold T.lt at this; omega
  · exact h
  · have := Ph.lt_at hv hj hi h
    unfold T.lt at this; omega
theorem Ph.step_edge {x : Ph} (hv : x.valid) {j : Nat} (hj : j < x.ts.length) : x.step x.ts[j].f x.ts[j].t = some x.ts[j].s ∧ x.step x.ts[j].t x.ts[j].f = some (x.m - x.ts[j].s) := by
  obtain ⟨q1, q2, q3, q4, q5⟩ := Ph.edge hv hj
  have hb : ∀ i (hi : i < x.ts.length), i < j → T.joins x.ts[j].f x.ts[j].t x.ts[i] = false ∧ T.joins x.ts[j].t x.ts[j].f x.ts[i] = false := fun i hi hij => by
    obtain ⟨p1, p2, _⟩ := Ph.edge hv hi
    have := Ph.lt_at hv hi hj hij
    unfold T.lt at this
    simp only [T.joins, Bool.or_eq_false_iff, decide_eq_false_iff_not]
    omega
  exact ⟨(Ph.step_at hj fun i hi hij => (hb i hi hij).1).1 rfl rfl, (Ph.step_at hj fun i hi hij => (hb i hi hij).2).2 (by omega) rfl rfl⟩
theorem Ph.adj_step {x : Ph} (hv : x.valid) {a b : Int} (h : x.adj a b) : ∃ d, x.step a b = some d ∧ x.m ∣ x.pots.getD a.toNat 0 + d - x.pots.getD b.toNat 0 := by
  obtain ⟨j, hj, hm, h⟩ := h
  have he := dvd_of_mod_eq (Ph.pots_edge hv hj hm)
  obtain ⟨s1, s2⟩ := Ph.step_edge hv hj
  rcases h with ⟨rfl, rfl⟩ | ⟨rfl, rfl⟩
  · exact ⟨_, s1, he⟩
  · refine ⟨_, s2, dvd_cast (Int.dvd_sub (Int.dvd_refl x.m) he) (by omega)⟩
theorem Ph.hol_ch {x : Ph} (hv : x.valid) : ∀ (l : List Int) (a b acc : Int), Ch x.adj (a :: l) → (a :: l).getLast? = some b → (0 ≤ acc ∧ acc < x.m) → ∃ s, holR x.step x.m acc (a :: l) = some s ∧ (0 ≤ s ∧ s < x.m) ∧ x.m ∣ acc + (x.pots.getD b.toNat 0 - x.pots.getD a.toNat 0) - s
  | [], a, b, acc, _, hl, hacc => by
    simp at hl; subst hl
    exact ⟨acc, rfl, hacc, dvd_cast (Int.dvd_zero x.m) (by omega)⟩
  | c :: l, a, b, acc, hc, hl, hacc => by
    obtain ⟨d, hd, hdv⟩ := Ph.adj_step hv (hc.1 c rfl)
    have hm1 := hv.2.2.1
    obtain ⟨s, h1, h2, h3⟩ := Ph.hol_ch hv l c b ((acc + d) % x.m) hc.2 (by rwa [List.getLast?_cons_cons] at hl) ⟨Int.emod_nonneg _ (by omega), Int.emod_lt_of_pos _ (by omega)⟩
    refine ⟨s, by simp only [holR, hd]; exact h1, h2, ?_⟩
    have h4 := dvd_of_mod_eq (show (acc + d) % x.m = (acc + d) % x.m from rfl)
    exact dvd_cast (Int.dvd_sub (Int.dvd_add h3 h4) hdv) (by omega)
theorem Ph.ch_rng {x : Ph} (hv : x.valid) : ∀ (l : List Int) (a : Int), Ch x.adj (a :: l) → (0 ≤ a ∧ a < x.n) → ∀ c ∈ a :: l, 0 ≤ c ∧ c < x.n
  | [], a, _, ha, c, hc => by rw [List.mem_singleton] at hc; subst hc; exact ha
  | b :: l, a, h, ha, c, hc => by
    rcases List.mem_cons.1 hc with rfl | hc
    · exact ha
    · exact Ph.ch_rng hv l b h.2 (Ph.adj_in hv (h.1 b rfl)).2.1 c hc
/-- What is claimed of a loop. -/
theorem Ph.loop_ok {x : Ph} (hv : x.valid) (hw : x.wrong ≠ []) : ∃ (f : Int) (mid : List Int), x.loop = f :: mid ++ [f] ∧ 2 ≤ mid.length ∧ x.loop.length ≤ 13 ∧ x.hol2 x.loop = (x.lsum, 0) ∧ x.lsum ≠ 0 ∧ in64 x.lsum := by
  obtain ⟨j, hj, e1, e2, e3⟩ := Ph.w0_spec hv hw
  obtain ⟨q1, q2, q3, q4, q5⟩ := Ph.edge hv hj
  have hm1 := hv.2.2.1
  have hm2 := hv.2.2.2.1
  have hsp := Ph.path_sp hv (a := x.ts[j].t) (b := x.ts[j].f) (by omega) (by omega) e3
  have hpl := Ph.path_len hv x.ts[j].f (a := x.ts[j].t) (by omega)
  have hwr : (j : Int) ∈ x.wrong := by cases hh : x.wrong <;> rw [hh] at e1 <;> simp_all
  have hbad := Ph.wrong_at hj hwr
  have hlp : x.loop = x.ts[j].f :: x.path x.ts[j].t x.ts[j].f := by unfold Ph.loop; rw [e2]
  have hs : x.lsum = (x.hol x.loop).getD 0 := by simp [Ph.lsum, hv, hw]
  generalize x.path x.ts[j].t x.ts[j].f = p at hsp hpl hlp
  obtain ⟨r, rfl⟩ : ∃ r, p = x.ts[j].t :: r := by
    have := hsp.hd
    cases p with
    | nil => cases this
    | cons a r => simp at this; exact ⟨r, by rw [this]⟩
  obtain ⟨r', rfl⟩ : ∃ r', r = r' ++ [x.ts[j].f] := by
    have := hsp.la
    cases r with
    | nil => simp at this; omega
    | cons b r =>
      rw [List.getLast?_cons_cons] at this
      obtain ⟨r', e⟩ := List.getLast?_eq_some_iff.1 this
      exact ⟨r', e⟩
  have hr1 : 1 ≤ r'.length := by
    cases r' with
    | cons a r => simp
    | nil =>
      exfalso
      obtain ⟨i, hi, him, hie⟩ := hsp.ch.1 x.ts[j].f rfl
      obtain ⟨p1, p2, _⟩ := Ph.edge hv hi
      rcases hie with ⟨g1, g2⟩ | ⟨g1, g2⟩
      · omega
      · obtain rfl := Ph.edge_uniq hv hi hj g1 g2
        exact hbad (Ph.pots_edge hv hi him)
  obtain ⟨s, h1, h2, h3⟩ := Ph.hol_ch hv _ _ x.ts[j].f ((0 + x.ts[j].s) % x.m) hsp.ch hsp.la ⟨Int.emod_nonneg _ (by omega), Int.emod_lt_of_pos _ (by omega)⟩
  have hhol : x.hol x.loop = some s := by
    rw [hlp]
    unfold Ph.hol
    simp only [holR, (Ph.step_edge hv hj).1]
    exact h1
  have hls : x.lsum = s := by rw [hs, hhol]; rfl
  refine ⟨x.ts[j].f, x.ts[j].t :: r', by rw [hlp]; simp, by simp; omega, by rw [hlp]; simp at hpl ⊢; omega, ?_, ?_, ?_⟩
  · rw [hls]
    unfold Ph.hol2
    have hlen : x.loop.length ≤ 64 := by rw [hlp]; simp at hpl ⊢; omega
    have hall : ∀ a ∈ x.loop, 0 ≤ a ∧ a < x.n := fun a ha => by
      rw [hlp] at ha
      rcases List.mem_cons.1 ha with rfl | ha
      · omega
      · exact Ph.ch_rng hv _ _ hsp.ch (by omega) a ha
    rw [if_pos hv, if_pos hlen, if_pos hall, hhol]
  · rw [hls]
    rintro rfl
    refine hbad (mod_eq_of_dvd (Ph.pots_b hv (by omega)) ?_)
    have h4 := dvd_of_mod_eq (show (0 + x.ts[j].s) % x.m = (0 + x.ts[j].s) % x.m from rfl)
    exact dvd_cast (Int.dvd_add h3 h4) (by omega)
  · rw [hls]; exact ⟨by omega, by omega⟩
/-! ## Edges to leave out -/
theorem scan_good {good : List Int → Bool} {B : Int} {w : List Int} {k' : Int} : ∀ {L : List (List Int)} {k : Int}, scan good B L k = (some w, k') → k' ≤ B → good w = true
  | [], k, h, _ => by simp [scan] at h
  | u :: L, k, h, hk => by
    simp only [scan] at h
    split at h
    · rename_i hc
      simp at h
      obtain ⟨rfl, rfl⟩ := h
      rcases hc with hc | hc
      · omega
      · exact hc
    · exact scan_good h hk
theorem scan_none_all {good : List Int → Bool} {B : Int} {k' : Int} : ∀ {L : List (List Int)} {k : Int}, scan good B L k = (none, k') → ∀ u ∈ L, good u = false
  | [], k, h, u, hu => by cases hu
  | v :: L, k, h, u, hu => by
    simp only [scan] at h
    split at h
    · simp at h
    · rename_i hc
      rcases List.mem_cons.1 hu with rfl | hu
      · have := (not_or.1 hc).2; simpa using this
      · exact scan_none_all h u hu
theorem scan_small {good : List Int → Bool} {B : Int} {E m : Nat} {g w : List Int} {k' : Int} (hg : g ∈ cb m E 0) (hgg : good g = true) (hm : m ≤ E) : ∀ (n s : Nat) (k : Int), m - s = n → s ≤ m → scan good B (tot E s) k = (some w, k') → w.length ≤ m
  | n, s, k, hn, hs, h => by
    rw [tot_step (by omega), scan_app] at h
    cases hh : scan good B (cb s E 0) k with
    | mk o k1 =>
      rw [hh] at h
      cases o with
      | some u =>
        simp at h
        obtain ⟨rfl, _⟩ := h
        have := cb_len _ _ _ u (scan_mem hh)
        omega
      | none =>
        simp only at h
        rcases Nat.lt_or_ge s m with h1 | h1
        · match n, hn with
          | 0, hn => exact absurd hn (by omega)
          | n + 1, hn => exact scan_small hg hgg hm n (s + 1) k1 (by omega) (by omega) h
        · obtain rfl : s = m := by omega
          have := scan_none_all hh g hg
          rw [hgg] at this; cases this
theorem mem_cb : ∀ (d f : Nat) (w : List Int), w.Pairwise (· < ·) → (∀ c ∈ w, (f : Int) ≤ c ∧ c < (f + d : Nat)) → w ∈ cb w.length d f
  | d, f, [], _, _ => by rw [List.length_nil, cb_zero]; simp
  | 0, f, a :: w, _, h => by have := h a (by simp); omega
  | d + 1, f, a :: w, hp, h => by
    have ha := h a (by simp)
    rw [List.pairwise_cons] at hp
    rw [List.length_cons, cb_succ, List.mem_append]
    by_cases hf : a = (f : Int)
    · left
      rw [List.mem_map]
      refine ⟨w, mem_cb d (f + 1) w hp.2 fun c hc => ?_, by rw [hf]⟩
      have h1 := hp.1 c hc
      have h2 := h c (List.mem_cons_of_mem _ hc)
      omega
    · right
      have := mem_cb d (f + 1) (a :: w) (List.pairwise_cons.2 hp) fun c hc => by
        have h2 := h c hc
        rcases List.mem_cons.1 hc with rfl | hc
        · omega
        · have := hp.1 c hc; omega
      rwa [List.length_cons] at this
theorem cb_rest : ∀ (d m f : Nat), ∀ w ∈ cb m d f, ((List.range' f d).filter fun (k : Nat) => !decide ((k : Int) ∈ w)).length + m = d
  | d, 0, f, w, h => by
    rw [cb_zero] at h; simp at h; subst h
    rw [List.filter_eq_self.2 fun a _ => by simp]
    simp
  | 0, m + 1, f, w, h => by simp [cb] at h
  | d + 1, m + 1, f, w, h => by
    rw [cb_succ] at h
    rw [List.range'_succ]
    rcases List.mem_append.1 h with h | h
    · obtain ⟨u, hu, rfl⟩ := List.mem_map.1 h
      have ih := cb_rest d m (f + 1) u hu
      have e : ((List.range' (f + 1) d).filter fun (k : Nat) => !decide ((k : Int) ∈ (f : Int) :: u)) = (List.range' (f + 1) d).filter fun (k : Nat) => !decide ((k : Int) ∈ u) := by
        apply List.filter_congr
        intro k hk
        have := List.mem_range'_1.1 hk
        have hne : ¬ (k : Int) = (f : Int) := by omega
        simp [hne]
      rw [List.filter_cons_of_neg (by simp), e]
      omega
    · have ih := cb_rest d (m + 1) (f + 1) w h
      have hf : ¬ (f : Int) ∈ w := fun hm => by have := cb_rng d (m + 1) (f + 1) w h _ hm; omega
      rw [List.filter_cons_of_pos (by simp [hf])]
      simp only [List.length_cons]
      omega
theorem forest_inc (x : Ph) : ∀ i, (fstate x i).2.2.Pairwise (· < ·) ∧ ∀ c ∈ (fstate x i).2.2, 0 ≤ c ∧ c < (i : Int)
  | 0 => by simp [fstate]
  | i + 1 => by
    have ih := forest_inc x i
    rw [show fstate x (i + 1) = fstep x i (fstate x i) from rfl]
    unfold fstep
    simp only
    split
    · exact ⟨ih.1, fun c hc => by have := ih.2 c hc; omega⟩
    · refine ⟨?_, fun c hc => ?_⟩
      · rw [List.pairwise_append]
        exact ⟨ih.1, by simp, fun a ha b hb => by rw [List.mem_singleton] at hb; subst hb; exact (ih.2 a ha).2⟩
      · rcases List.mem_append.1 hc with hc | hc
        · have := ih.2 c hc; omega
        · rw [List.mem_singleton] at hc; subst hc; omega
/-- The edges that are not of the forest. -/
def Ph.rest (x : Ph) : List Int := ((List.range x.ts.length).map Int.ofNat).filter fun c => !decide (c ∈ x.forest)
theorem Ph.rest_cb (x : Ph) : x.rest ∈ cb x.rest.length x.ts.length 0 := by
  refine mem_cb _ _ _ ?_ fun c hc => ?_
  · unfold Ph.rest
    refine List.Pairwise.filter _ ?_
    rw [List.pairwise_map]
    exact List.pairwise_lt_range.imp fun h => by simpa using h
  · obtain ⟨k, hk, rfl⟩ := List.mem_map.1 (List.mem_filter.1 hc).1
    have := List.mem_range.1 hk
    simp; omega
theorem Ph.rest_len (x : Ph) : x.forest.length + x.rest.length ≤ x.ts.length := by
  have hf := forest_inc x x.ts.length
  have : (x.forest ++ x.rest).length ≤ x.ts.length := by
    refine nodup_len _ ?_ fun c hc => ?_
    · rw [List.nodup_append]
      refine ⟨hf.1.imp fun h => Int.ne_of_lt h, ?_, fun a ha b hb => ?_⟩
      · unfold Ph.rest
        refine List.Pairwise.filter _ ?_
        exact (List.pairwise_map.2 (List.pairwise_lt_range.imp fun {a b} h => by show ¬ (Int.ofNat a = Int.ofNat b); intro e; have := Int.ofNat.inj e; omega))
      · rintro rfl
        have := (List.mem_filter.1 hb).2
        simp at this
        exact this ha
    · rcases List.mem_append.1 hc with hc | hc
      · exact hf.2 c hc
      · obtain ⟨k, hk, rfl⟩ := List.mem_map.1 (List.mem_filter.1 hc).1
        have := List.mem_range.1 hk
        simp; omega
  simpa using this
theorem Ph.rest_gd {x : Ph} (hv : x.valid) : x.gd x.rest = true := by
  have hlv := Ph.less_valid hv x.rest
  have : (x.less x.rest).wrong = [] := by
    refine Ph.pot_ok hlv (fun u => x.pots.getD u 0) fun j hj => ?_
    have hmem : (x.less x.rest).ts[j] ∈ keptTo x.ts (fun k => !decide (k ∈ x.rest)) x.ts.length := List.getElem_mem hj
    obtain ⟨k, hk, _, hq, e⟩ := (kept_mem (Nat.le_refl _)).1 hmem
    have hkf : (k : Int) ∈ x.forest := by
      simp only [Bool.not_eq_true', decide_eq_false_iff_not] at hq
      refine Classical.byContradiction fun hn => hq ?_
      unfold Ph.rest
      exact List.mem_filter.2 ⟨List.mem_map.2 ⟨k, List.mem_range.2 hk, rfl⟩, by simpa using hn⟩
    rw [e]
    exact dvd_of_mod_eq (Ph.pots_edge hv hk hkf)
  unfold Ph.gd
  rw [this]; rfl
/-- What is claimed of the edges to leave out. -/
theorem Ph.drops_ok {x : Ph} (hv : x.valid) {B : Int} (hB : 1 ≤ B ∧ B ≤ 20000) (hc : x.dcode B = 0) :
    (x.less (x.dres B)).wrong = [] ∧ (x.dres B = [] ↔ x.wrong = []) ∧ (x.dres B).length + x.forest.length ≤ x.ts.length ∧ (x.less (x.dres B)).ts.length + (x.dres B).length = x.ts.length := by
  obtain ⟨w, k, hw⟩ := scan_tot (B := B) x.gd_all x.ts.length 0 0 rfl (Nat.zero_le _)
  have hd : x.dscan B = (some w, k) := hw
  have hk : k ≤ B := by
    unfold Ph.dcode at hc
    rw [if_pos hv, if_pos hB, hd] at hc
    split at hc
    · cases hc
    · omega
  have hr : x.dres B = w := by
    unfold Ph.dres
    rw [hd, if_pos ⟨hv, hB.1, hB.2, by simp only; omega⟩]; rfl
  rw [hr]
  have hgw := scan_good hw hk
  have hwm := scan_mem hw
  unfold tot at hwm
  obtain ⟨m, hm1, hm2⟩ := List.mem_flatMap.1 hwm
  have hwl := cb_len _ _ _ w hm2
  have hrl := x.rest_len
  refine ⟨by unfold Ph.gd at hgw; exact List.isEmpty_iff.1 hgw, ?_, ?_, ?_⟩
  · have h0 : x.gd [] = x.wrong.isEmpty := by unfold Ph.gd; rw [Ph.less_nil]
    constructor
    · rintro rfl
      rw [h0] at hgw
      exact List.isEmpty_iff.1 hgw
    · intro h
      rw [tot_step (Nat.zero_le _), cb_zero] at hw
      have hg0 : x.gd [] = true := by rw [h0, h]; rfl
      simp only [List.cons_append, scan, hg0, or_true, if_true] at hw
      simp at hw
      exact hw.1
  · have := scan_small (B := B) x.rest_cb (Ph.rest_gd hv) (by omega) _ 0 0 rfl (Nat.zero_le _) hw
    omega
  · have := cb_rest _ _ _ w hm2
    unfold Ph.less lessTo
    simp only [List.length_map]
    rw [hwl, List.range_eq_range']
    exact this
end Go.AG
