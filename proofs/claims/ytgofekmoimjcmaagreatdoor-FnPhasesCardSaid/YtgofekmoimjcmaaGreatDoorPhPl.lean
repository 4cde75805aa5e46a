/- Turned graphs: potentials and sums along paths. Plain; no statement is made here. -/
import Derived.Test.YtgofekmoimjcmaaGreatDoorPhPotI
import Derived.Test.YtgofekmoimjcmaaGreatDoorPhTurnB
namespace Go.AG.P
open Go.Proofs Go.Proofs.YtgofekmoimjcmaaGreatDoor
set_option linter.unusedSimpArgs false
set_option linter.unusedVariables false
set_option maxRecDepth 4000
/-- Both ends of an edge are of one part at the end. -/
theorem same_parts {x : Ph} (hv : x.valid) : ∀ i, i ≤ x.ts.length → ∀ (j : Nat) (hj : j < x.ts.length), j < i → (fstate x i).1.getD x.ts[j].f.toNat 0 = (fstate x i).1.getD x.ts[j].t.toNat 0
  | 0, _, j, _, h => absurd h (Nat.not_lt_zero _)
  | i + 1, hi, j, hj, hji => by
    have ih := same_parts hv i (by omega) j hj
    have fo := (fstate_ok (x := x) hv.2.2.1 i).p
    have hlt : i < x.ts.length := by omega
    have ht : x.ts.getD i default = x.ts[i] := by simp [hlt]
    obtain ⟨q1, q2, q3, _, _⟩ := Ph.edge hv hj
    rw [show fstate x (i + 1) = fstep x i (fstate x i) from rfl]
    generalize hS : fstate x i = S at *
    obtain ⟨P, F, out⟩ := S
    simp only at ih fo
    unfold fstep
    simp only [ht]
    split
    · rename_i hab
      rcases Nat.lt_or_ge j i with h | h
      · exact ih h
      · obtain rfl : j = i := by omega
        exact hab
    · rename_i hab
      simp only
      rw [getD_map_int _ _ (by omega), getD_map_int _ _ (by omega)]
      rcases Nat.lt_or_ge j i with h | h
      · rw [ih h]
      · obtain rfl : j = i := by omega
        rw [if_neg hab, if_pos rfl]
theorem T.lt_trans {a b c : T} (h : a.lt b) (k : b.lt c) : a.lt c := by
  unfold T.lt at *
  omega
theorem good_pw {x : Ph} (h : x.good x.ts.length) : x.ts.Pairwise T.lt := by
  rw [List.pairwise_iff_getElem]
  intro i j hi hj hij
  induction j with
  | zero => omega
  | succ j ih =>
    have h1 := (h (j + 1) hj hj).2 (by omega)
    simp only [Nat.add_sub_cancel] at h1
    rcases Nat.lt_or_ge i j with h2 | h2
    · exact T.lt_trans (ih (by omega) h2) h1
    · obtain rfl : i = j := by omega
      exact h1
/-! ## Potentials -/
theorem Ph.wrong_nil (x : Ph) : x.wrong = [] ↔ ∀ (j : Nat) (hj : j < x.ts.length), (x.pots.getD x.ts[j].f.toNat 0 + x.ts[j].s) % x.m = x.pots.getD x.ts[j].t.toNat 0 := by
  unfold Ph.wrong Ph.wr
  simp only [List.map_eq_nil_iff, List.filter_eq_nil_iff, List.mem_range]
  constructor
  · intro h j hj
    have := h j hj
    simpa [Ph.bad, hj] using this
  · intro h j hj
    have := h j hj
    simpa [Ph.bad, hj] using this
theorem Ph.wrong_at {x : Ph} {j : Nat} (hj : j < x.ts.length) (h : (j : Int) ∈ x.wrong) : (x.pots.getD x.ts[j].f.toNat 0 + x.ts[j].s) % x.m ≠ x.pots.getD x.ts[j].t.toNat 0 := by
  unfold Ph.wrong Ph.wr at h
  obtain ⟨k, hk, e⟩ := List.mem_map.1 h
  have e : (k : Int) = (j : Int) := e
  obtain rfl : k = j := by omega
  have := (List.mem_filter.1 hk).2
  simpa [Ph.bad, hj] using this
theorem dvd_of_mod_eq {m a b : Int} (h : a % m = b) : m ∣ a - b := by
  have := Int.emod_add_mul_ediv a m
  exact ⟨a / m, by rw [h] at this; omega⟩
theorem mod_eq_of_dvd {m a b : Int} (hb : 0 ≤ b ∧ b < m) (h : m ∣ a - b) : a % m = b := by
  obtain ⟨k, hk⟩ := h
  rw [show a = b + m * k by omega, Int.add_mul_emod_self_left]
  exact Int.emod_eq_of_lt hb.1 hb.2
theorem dvd_cast {m a b : Int} (h : m ∣ a) (e : a = b) : m ∣ b := e ▸ h
/-- If there are phases that are right, those along the forest are right. -/
theorem Ph.pot_ok {x : Ph} (hv : x.valid) (p : Nat → Int) (hp : ∀ (j : Nat) (hj : j < x.ts.length), x.m ∣ p x.ts[j].f.toNat + x.ts[j].s - p x.ts[j].t.toNat) : x.wrong = [] := by
  rw [Ph.wrong_nil]
  intro j hj
  obtain ⟨q1, q2, q3, q4, q5⟩ := Ph.edge hv hj
  have key := ((fstate_inv hv _ (Nat.le_refl _)).part (fun u => x.m ∣ (x.pots.getD u 0 - p u) - (x.pots.getD x.ts[j].f.toNat 0 - p x.ts[j].f.toNat)) (fun i hi hm => ?_) x.ts[j].f.toNat x.ts[j].t.toNat (by omega) (by omega) (same_parts hv _ (Nat.le_refl _) j hj hj)).1 (by simp)
  · refine mod_eq_of_dvd (Ph.pots_b hv (by omega)) ?_
    exact dvd_cast (Int.dvd_sub (hp j hj) key) (by omega)
  · have h1 := dvd_of_mod_eq (Ph.pots_edge hv hi hm)
    have h2 := hp i hi
    have h3 := Int.dvd_sub h1 h2
    constructor
    · intro h
      exact dvd_cast (Int.dvd_sub h h3) (by omega)
    · intro h
      exact dvd_cast (Int.dvd_add h h3) (by omega)
theorem Ph.lt_at {x : Ph} (hv : x.valid) {i j : Nat} (hi : i < x.ts.length) (hj : j < x.ts.length) (h : i < j) : (x.ts[i]).lt x.ts[j] := (List.pairwise_iff_getElem.1 (good_pw hv.2.2.2.2.1)) i j hi hj h
theorem Ph.edge_uniq {x : Ph} (hv : x.valid) {i j : Nat} (hi : i < x.ts.length) (hj : j < x.ts.length) (h1 : x.ts[i].f = x.ts[j].f) (h2 : x.ts[i].t = x.ts[j].t) : i = j := by
  rcases Nat.lt_trichotomy i j with h | h | h
  · have := Ph.lt_at hv hi hj h
    unfold T.lt at this; omega
  · exact h
  · have := Ph.lt_at hv hj hi h
    unfold T.lt at this; omega
theorem Ph.step_edge {x : Ph} (hv : x.valid) {j : Nat} (hj : j < x.ts.length) : x.step x.ts[j].f x.ts[j].t = some x.ts[j].s ∧ x.step x.ts[j].t x.ts[j].f = some (x.m - x.ts[j].s) := by
  obtain ⟨q1, q2, q3, q4, q5⟩ := Ph.edge hv hj
  have hb : ∀ i (hi : i < x.ts.length), i < j → T.joins x.ts[j].f x.ts[j].t x.ts[i] = false ∧ T.joins x.ts[j].t x.ts[j].f x.ts[i] = false := fun i hi hij => by
    obtain ⟨p1, p2, _⟩ := Ph.edge hv hi
    have := Ph.lt_at hv hi hj hij
    unfold T.lt at this
    simp only [T.joins, Bool.or_eq_false_iff, decide_eq_false_iff_not]
    omega
  exact ⟨(Ph.step_at hj fun i hi hij => (hb i hi hij).1).1 rfl rfl, (Ph.step_at hj fun i hi hij => (hb i hi hij).2).2 (by omega) rfl rfl⟩
theorem Ph.valid_ok {x : Ph} (hv : x.valid) : x.ok := by
  obtain ⟨h1, h2, h3, h4, h5, h6⟩ := hv
  refine ⟨⟨by omega, by omega⟩, ⟨by omega, by omega⟩, fun t ht => ?_⟩
  obtain ⟨j, hj, rfl⟩ := List.mem_iff_getElem.1 ht
  have := (h5 j hj hj).1
  unfold Ph.el at this
  exact ⟨⟨by omega, by omega⟩, ⟨by omega, by omega⟩, ⟨by omega, by omega⟩⟩
theorem frz2 {P : Program} {g : FuncId} {args : List AV} {res : List Int} {c : Int} (H : ACalls P g args [] (fun v h' => ∃ w, v = .tup [w, .int .i64 c] ∧ OwnL iv 1 w res h')) (h : Heap) : ACalls P g args h (fun v h' => v = .tup [.snap 1 (res.map iv), .int .i64 c] ∧ h' = h) := by
  refine ACalls.post ((ACalls.gives (h := h) [] (by simp) H fun v h' ⟨w, e, o⟩ => ?_).mono ?_)
  · have := o.own own_iv1
    subst e
    exact ⟨by simp [own, owns, this.1], this.2⟩
  · rintro v h'' ⟨h', ⟨w, rfl, o⟩, _, rfl⟩
    refine Post.lend ?_
    rw [lend1_tup2, lend1_cold h' (x := .int .i64 c) rfl]
    exact .wk (.tup (.cons o.lent.wk (.cons (.refl _) .nil))) (.base ⟨rfl, rfl⟩)
end Go.AG.P
namespace Go.AG.P
open Go.Proofs Go.Proofs.YtgofekmoimjcmaaGreatDoor
set_option linter.unusedSimpArgs false
set_option linter.unusedVariables false
set_option maxRecDepth 4000
/-- The graph whose differences are increased by differences of l. -/
def Ph.tn (x : Ph) (l : List Int) : Ph := ⟨x.n, x.m, x.ts.map (x.turn1 l)⟩
theorem Ph.turned_tn {x : Ph} (hv : x.valid) {l : List Int} (hl : vec l x.n x.m) : x.turned l = x.tn l := by
  unfold Ph.turned Ph.tn
  rw [if_pos ⟨hv, hl⟩]
theorem Ph.tn_valid {x : Ph} (hv : x.valid) (l : List Int) : (x.tn l).valid := by
  obtain ⟨h1, h2, h3, h4, h5, h6⟩ := hv
  refine ⟨h1, h2, h3, h4, fun j hj _ => ?_, by simpa [Ph.tn] using h6⟩
  have hj' : j < x.ts.length := by simpa [Ph.tn] using hj
  obtain ⟨g1, g2⟩ := h5 j hj' hj'
  have e : ∀ (i : Nat) (hi : i < (x.tn l).ts.length) (hi' : i < x.ts.length), (x.tn l).ts[i] = x.turn1 l x.ts[i] := fun i hi hi' => by simp [Ph.tn]
  refine ⟨?_, fun h0 => ?_⟩
  · rw [e j hj hj']
    unfold Ph.el at g1 ⊢
    exact ⟨g1.1, g1.2.1, g1.2.2.1, Int.emod_nonneg _ (by show x.m ≠ 0; omega), Int.emod_lt_of_pos _ (by show 0 < x.m; omega)⟩
  · rw [e j hj hj', e (j - 1) (by omega) (by omega)]
    exact g2 h0
theorem tn_at (x : Ph) (l : List Int) {j : Nat} (hj : j < x.ts.length) (hj2 : j < (x.tn l).ts.length) : (x.tn l).ts[j] = x.turn1 l x.ts[j] := by simp [Ph.tn]
theorem Ph.tn_dvd {x : Ph} (l : List Int) (t : T) : x.m ∣ (x.turn1 l t).s - (t.s + l.getD t.t.toNat 0 - l.getD t.f.toNat 0) := by
  have := dvd_of_mod_eq (show (t.s + l.getD t.t.toNat 0 - l.getD t.f.toNat 0) % x.m = (x.turn1 l t).s from rfl)
  exact dvd_cast (Int.dvd_neg.2 this) (by omega)
theorem Ph.tn_wrong {x : Ph} (hv : x.valid) (l : List Int) : (x.tn l).wrong = [] ↔ x.wrong = [] := by
  have hv2 := Ph.tn_valid hv l
  have hlen : (x.tn l).ts.length = x.ts.length := by simp [Ph.tn]
  constructor
  · intro h
    rw [Ph.wrong_nil] at h
    refine Ph.pot_ok hv (fun u => (x.tn l).pots.getD u 0 - l.getD u 0) fun j hj => ?_
    have h1 := dvd_of_mod_eq (h j (by omega))
    rw [tn_at x l hj (by omega)] at h1
    have h2 := Ph.tn_dvd (x := x) l x.ts[j]
    have h1 : x.m ∣ (x.tn l).pots.getD x.ts[j].f.toNat 0 + (x.turn1 l x.ts[j]).s - (x.tn l).pots.getD x.ts[j].t.toNat 0 := h1
    exact dvd_cast (Int.dvd_sub h1 h2) (by omega)
  · intro h
    rw [Ph.wrong_nil] at h
    refine Ph.pot_ok hv2 (fun u => x.pots.getD u 0 + l.getD u 0) fun j hj => ?_
    have hj' : j < x.ts.length := by omega
    rw [tn_at x l hj' hj]
    have h1 := dvd_of_mod_eq (h j hj')
    have h2 := Ph.tn_dvd (x := x) l x.ts[j]
    show x.m ∣ x.pots.getD x.ts[j].f.toNat 0 + l.getD x.ts[j].f.toNat 0 + (x.turn1 l x.ts[j]).s - (x.pots.getD x.ts[j].t.toNat 0 + l.getD x.ts[j].t.toNat 0)
    exact dvd_cast (Int.dvd_add h1 h2) (by omega)
/-- Joined by an edge. -/
def Ph.eAdj (x : Ph) (a b : Int) : Prop := ∃ (j : Nat) (h : j < x.ts.length), (x.ts[j].f = a ∧ x.ts[j].t = b) ∨ (x.ts[j].f = b ∧ x.ts[j].t = a)
/-- A path, node for node along edges. -/
def Ph.walk (x : Ph) : List Int → Prop
  | [] => False
  | [a] => 0 ≤ a ∧ a < x.n
  | a :: b :: r => x.eAdj a b ∧ Ph.walk x (b :: r)
theorem Ph.walk_rng {x : Ph} (hv : x.valid) : ∀ {p : List Int}, x.walk p → ∀ c ∈ p, 0 ≤ c ∧ c < x.n
  | [a], h, c, hc => by rw [List.mem_singleton] at hc; subst hc; exact h
  | a :: b :: r, ⟨⟨j, hj, he⟩, h⟩, c, hc => by
    rcases List.mem_cons.1 hc with rfl | hc
    · obtain ⟨q1, q2, q3, _, _⟩ := Ph.edge hv hj
      rcases he with ⟨rfl, rfl⟩ | ⟨rfl, rfl⟩ <;> omega
    · exact Ph.walk_rng hv h c hc
theorem Ph.walk_snoc {x : Ph} (hv : x.valid) : ∀ {p : List Int} {a b : Int}, x.walk p → p.getLast? = some a → x.eAdj a b → x.walk (p ++ [b])
  | [c], a, b, h, hl, he => by
    simp at hl; subst hl
    obtain ⟨j, hj, e⟩ := he
    obtain ⟨q1, q2, q3, _, _⟩ := Ph.edge hv hj
    refine ⟨⟨j, hj, e⟩, ?_⟩
    rcases e with ⟨rfl, rfl⟩ | ⟨rfl, rfl⟩
    · exact ⟨by omega, by omega⟩
    · exact ⟨by omega, by omega⟩
  | c :: d :: r, a, b, ⟨h1, h2⟩, hl, he => ⟨h1, Ph.walk_snoc hv h2 (by rwa [List.getLast?_cons_cons] at hl) he⟩
theorem Ph.tn_step {x : Ph} (hv : x.valid) (l : List Int) {a b : Int} (h : x.eAdj a b) : ∃ d d', x.step a b = some d ∧ (x.tn l).step a b = some d' ∧ x.m ∣ d' - (d + l.getD b.toNat 0 - l.getD a.toNat 0) := by
  obtain ⟨j, hj, h⟩ := h
  have hv2 := Ph.tn_valid hv l
  have hj2 : j < (x.tn l).ts.length := by simpa [Ph.tn] using hj
  obtain ⟨s1, s2⟩ := Ph.step_edge hv hj
  obtain ⟨t1, t2⟩ := Ph.step_edge hv2 hj2
  rw [tn_at x l hj hj2] at t1 t2
  have hd := Ph.tn_dvd (x := x) l x.ts[j]
  rcases h with ⟨rfl, rfl⟩ | ⟨rfl, rfl⟩
  · exact ⟨_, _, s1, t1, hd⟩
  · refine ⟨_, _, s2, t2, ?_⟩
    show x.m ∣ x.m - (x.turn1 l x.ts[j]).s - (x.m - x.ts[j].s + l.getD x.ts[j].f.toNat 0 - l.getD x.ts[j].t.toNat 0)
    exact dvd_cast (Int.dvd_neg.2 hd) (by omega)
theorem Ph.tn_hol {x : Ph} (hv : x.valid) (l : List Int) : ∀ (r : List Int) (a acc acc' : Int), x.walk (a :: r) → (0 ≤ acc ∧ acc < x.m) → (0 ≤ acc' ∧ acc' < x.m) →
    ∃ s s' b, (a :: r).getLast? = some b ∧ holR x.step x.m acc (a :: r) = some s ∧ holR (x.tn l).step x.m acc' (a :: r) = some s' ∧ (0 ≤ s ∧ s < x.m) ∧ (0 ≤ s' ∧ s' < x.m) ∧ x.m ∣ (s' - s) - (acc' - acc) - (l.getD b.toNat 0 - l.getD a.toNat 0)
  | [], a, acc, acc', _, h1, h2 => ⟨acc, acc', a, rfl, rfl, rfl, h1, h2, dvd_cast (Int.dvd_zero x.m) (by omega)⟩
  | c :: r, a, acc, acc', ⟨he, hw⟩, h1, h2 => by
    have hm1 := hv.2.2.1
    obtain ⟨d, d', e1, e2, e3⟩ := Ph.tn_step hv l he
    obtain ⟨s, s', b, g1, g2, g3, g4, g5, g6⟩ := Ph.tn_hol hv l r c ((acc + d) % x.m) ((acc' + d') % x.m) hw ⟨Int.emod_nonneg _ (by omega), Int.emod_lt_of_pos _ (by omega)⟩ ⟨Int.emod_nonneg _ (by omega), Int.emod_lt_of_pos _ (by omega)⟩
    refine ⟨s, s', b, by rw [List.getLast?_cons_cons]; exact g1, by simp only [holR, e1]; exact g2, by simp only [holR, e2]; exact g3, g4, g5, ?_⟩
    have k1 := dvd_of_mod_eq (show (acc + d) % x.m = (acc + d) % x.m from rfl)
    have k2 := dvd_of_mod_eq (show (acc' + d') % x.m = (acc' + d') % x.m from rfl)
    exact dvd_cast (Int.dvd_add (Int.dvd_sub (Int.dvd_sub g6 k2) (Int.dvd_neg.2 k1)) e3) (by omega)
/-- What is claimed of the sums along a path. -/
theorem Ph.tn_sum {x : Ph} (hv : x.valid) {l : List Int} {p : List Int} {a b : Int} (hw : x.walk p) (ha : p.head? = some a) (hb : p.getLast? = some b) (hlen : p.length ≤ 64) :
    ∃ s s', x.hol2 p = (s, 0) ∧ (x.tn l).hol2 p = (s', 0) ∧ (0 ≤ s ∧ s < x.m) ∧ (0 ≤ s' ∧ s' < x.m) ∧ (s + l.getD b.toNat 0 - l.getD a.toNat 0 + x.m) % x.m = s' := by
  have hm1 := hv.2.2.1
  have hv2 := Ph.tn_valid hv l
  have hall := Ph.walk_rng hv hw
  cases p with
  | nil => cases ha
  | cons c r =>
    simp at ha; subst ha
    obtain ⟨s, s', b', g1, g2, g3, g4, g5, g6⟩ := Ph.tn_hol hv l r c 0 0 hw (by omega) (by omega)
    rw [g1] at hb; cases hb
    refine ⟨s, s', ?_, ?_, g4, g5, mod_eq_of_dvd g5 (dvd_cast (Int.dvd_sub (Int.dvd_refl x.m) g6) (by omega))⟩
    · unfold Ph.hol2 Ph.hol
      rw [if_pos hv, if_pos hlen, if_pos hall, g2]
    · unfold Ph.hol2
      have hh : (x.tn l).hol (c :: r) = some s' := g3
      rw [if_pos hv2, if_pos hlen, if_pos (show ∀ a ∈ c :: r, 0 ≤ a ∧ a < (x.tn l).n from hall), hh]
end Go.AG.P
