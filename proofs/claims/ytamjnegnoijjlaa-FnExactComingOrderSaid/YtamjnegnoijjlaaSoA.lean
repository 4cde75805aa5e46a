/- Stable order in place, on plain functions: exchange of two ranges, rotation, what a merge leaves. No statement is made here. -/
import Derived.Test.YtamjnegnoijjlaaFxM
namespace Go.AG
set_option linter.unusedSimpArgs false
set_option linter.unusedVariables false
/-- The first n values of a function. -/
def arr (n : Nat) (f : Nat → Int) : List Int := (List.range n).map f
theorem arr_len (n : Nat) (f : Nat → Int) : (arr n f).length = n := by simp [arr]
theorem arr_get {n : Nat} {f : Nat → Int} {p : Nat} (h : p < n) (h2 : p < (arr n f).length) : (arr n f)[p] = f p := by simp [arr]
def updF (f : Nat → Int) (p : Nat) (v : Int) : Nat → Int := fun q => if q = p then v else f q
theorem arr_set (n : Nat) (f : Nat → Int) (p : Nat) (v : Int) : (arr n f).set p v = arr n (updF f p v) := by
  apply List.ext_getElem (by simp [arr])
  intro i h1 h2
  simp only [List.getElem_set, arr, List.getElem_map, List.getElem_range, updF]
  by_cases h : p = i
  · subst h; simp
  · simp [h, Ne.symm h]
/-- Two values exchanged. -/
def swp (f : Nat → Int) (p q : Nat) : Nat → Int := fun i => if i = q then f p else if i = p then f q else f i
theorem arr_swp (n : Nat) (f : Nat → Int) (p q : Nat) : ((arr n f).set p (f q)).set q (f p) = arr n (swp f p q) := by
  rw [arr_set, arr_set]
  congr 1
/-- Two ranges exchanged. -/
def swr (f : Nat → Int) (a b n : Nat) : Nat → Int := fun p => if a ≤ p ∧ p < a + n then f (p - a + b) else if b ≤ p ∧ p < b + n then f (p - b + a) else f p
theorem swr_zero (f : Nat → Int) (a b : Nat) : swr f a b 0 = f := by
  funext p
  unfold swr
  repeat' split
  all_goals first | rfl | (exfalso; omega) | (congr 1; omega)
theorem swr_succ (f : Nat → Int) {a b n : Nat} (h : a + (n + 1) ≤ b) : swp (swr f a b n) (a + n) (b + n) = swr f a b (n + 1) := by
  funext p
  unfold swp swr
  repeat' split
  all_goals first | rfl | (exfalso; omega) | (congr 1; omega)
/-- Two neighbouring ranges change places. -/
def rot (f : Nat → Int) (a m b : Nat) : Nat → Int := fun p => if a ≤ p ∧ p < a + (b - m) then f (p - a + m) else if a + (b - m) ≤ p ∧ p < b then f (p - (b - m)) else f p
theorem rot_eq (f : Nat → Int) {m i : Nat} (h : i ≤ m) : swr f (m - i) m i = rot f (m - i) m (m + i) := by
  funext p
  unfold swr rot
  repeat' split
  all_goals first | rfl | (exfalso; omega) | (congr 1; omega)
theorem rot_gt (f : Nat → Int) {m i j : Nat} (h : i ≤ m) (hij : j < i) : rot (swr f (m - i) m j) (m - (i - j)) m (m + j) = rot f (m - i) m (m + j) := by
  funext p
  unfold rot swr
  repeat' split
  all_goals first | rfl | (exfalso; omega) | (congr 1; omega)
theorem rot_lt (f : Nat → Int) {m i j : Nat} (h : i ≤ m) (hij : i < j) : rot (swr f (m - i) (m + j - i) i) (m - i) m (m + (j - i)) = rot f (m - i) m (m + j) := by
  funext p
  unfold rot swr
  repeat' split
  all_goals first | rfl | (exfalso; omega) | (congr 1; omega)
/-- One function is the other but for the order of a range. -/
def Same (f g : Nat → Int) (a b : Nat) : Prop := (∀ p, ¬ (a ≤ p ∧ p < b) → g p = f p) ∧ (∀ p, a ≤ p → p < b → ∃ q, a ≤ q ∧ q < b ∧ g p = f q) ∧ ∀ p, a ≤ p → p < b → ∃ q, a ≤ q ∧ q < b ∧ f p = g q
theorem Same.refl (f : Nat → Int) (a b : Nat) : Same f f a b := ⟨fun _ _ => rfl, fun p h1 h2 => ⟨p, h1, h2, rfl⟩, fun p h1 h2 => ⟨p, h1, h2, rfl⟩⟩
theorem Same.trans {f g k : Nat → Int} {a b : Nat} (h1 : Same f g a b) (h2 : Same g k a b) : Same f k a b := by
  refine ⟨fun p hp => (h2.1 p hp).trans (h1.1 p hp), fun p ha hb => ?_, fun p ha hb => ?_⟩
  · obtain ⟨q, q1, q2, e⟩ := h2.2.1 p ha hb
    obtain ⟨r, r1, r2, e2⟩ := h1.2.1 q q1 q2
    exact ⟨r, r1, r2, e.trans e2⟩
  · obtain ⟨q, q1, q2, e⟩ := h1.2.2 p ha hb
    obtain ⟨r, r1, r2, e2⟩ := h2.2.2 q q1 q2
    exact ⟨r, r1, r2, e.trans e2⟩
theorem Same.wide {f g : Nat → Int} {a b c d : Nat} (h : Same f g a b) (h1 : c ≤ a) (h2 : b ≤ d) : Same f g c d := by
  refine ⟨fun p hp => h.1 p (by omega), fun p ha hb => ?_, fun p ha hb => ?_⟩
  · by_cases hp : a ≤ p ∧ p < b
    · obtain ⟨q, q1, q2, e⟩ := h.2.1 p hp.1 hp.2
      exact ⟨q, by omega, by omega, e⟩
    · exact ⟨p, ha, hb, h.1 p hp⟩
  · by_cases hp : a ≤ p ∧ p < b
    · obtain ⟨q, q1, q2, e⟩ := h.2.2 p hp.1 hp.2
      exact ⟨q, by omega, by omega, e⟩
    · exact ⟨p, ha, hb, (h.1 p hp).symm⟩
theorem Same.rot (f : Nat → Int) {a m b : Nat} (h1 : a ≤ m) (h2 : m ≤ b) : Same f (rot f a m b) a b := by
  refine ⟨fun p hp => ?_, fun p ha hb => ?_, fun p ha hb => ?_⟩
  · unfold Go.AG.rot
    repeat' split
    all_goals first | rfl | (exfalso; omega)
  · by_cases h : p < a + (b - m)
    · exact ⟨p - a + m, by omega, by omega, by unfold Go.AG.rot; rw [if_pos ⟨ha, h⟩]⟩
    · refine ⟨p - (b - m), by omega, by omega, ?_⟩
      unfold Go.AG.rot
      repeat' split
      all_goals first | rfl | (exfalso; omega)
  · by_cases h : p < m
    · refine ⟨p + (b - m), by omega, by omega, ?_⟩
      unfold Go.AG.rot
      repeat' split
      all_goals first | rfl | (exfalso; omega) | (congr 1; omega)
    · refine ⟨p - m + a, by omega, by omega, ?_⟩
      unfold Go.AG.rot
      repeat' split
      all_goals first | rfl | (exfalso; omega) | (congr 1; omega)
theorem Same.swp (f : Nat → Int) {a b p q : Nat} (h1 : a ≤ p) (h2 : p < b) (h3 : a ≤ q) (h4 : q < b) : Same f (swp f p q) a b := by
  refine ⟨fun i hi => ?_, fun i ha hb => ?_, fun i ha hb => ?_⟩
  · unfold Go.AG.swp; rw [if_neg (by omega), if_neg (by omega)]
  · unfold Go.AG.swp
    split
    · exact ⟨p, h1, h2, rfl⟩
    · split
      · exact ⟨q, h3, h4, rfl⟩
      · exact ⟨i, ha, hb, rfl⟩
  · by_cases e1 : i = p
    · exact ⟨q, h3, h4, by unfold Go.AG.swp; rw [if_pos rfl, e1]⟩
    · by_cases e2 : i = q
      · refine ⟨p, h1, h2, ?_⟩
        unfold Go.AG.swp
        by_cases e3 : p = q
        · rw [if_pos e3, e2, e3]
        · rw [if_neg e3, if_pos rfl, e2]
      · exact ⟨i, ha, hb, by unfold Go.AG.swp; rw [if_neg e2, if_neg e1]⟩
/-- The order: by key, then by number. -/
def lt2 (k : Int → Int) (x y : Int) : Prop := k x < k y ∨ k x = k y ∧ x < y
theorem lt2_trans {k : Int → Int} {x y z : Int} (h1 : lt2 k x y) (h2 : lt2 k y z) : lt2 k x z := by unfold lt2 at *; omega
theorem lt2_irr {k : Int → Int} {x : Int} : ¬ lt2 k x x := by unfold lt2; omega
theorem lt2_tot {k : Int → Int} {x y : Int} (h : ¬ lt2 k x y) (hne : x ≠ y) : lt2 k y x := by unfold lt2 at *; omega
/-- A number that is behind comes ahead only by its key. -/
theorem lt2_key {k : Int → Int} {x y : Int} (h : y < x) : lt2 k x y ↔ k x < k y := by unfold lt2; omega
def Srt2 (k : Int → Int) (f : Nat → Int) (a b : Nat) : Prop := ∀ p q, a ≤ p → p < q → q < b → lt2 k (f p) (f q)
theorem Srt2.sub {k : Int → Int} {f : Nat → Int} {a b c d : Nat} (h : Srt2 k f a b) (h1 : a ≤ c) (h2 : d ≤ b) : Srt2 k f c d := fun p q hp hpq hq => h p q (by omega) hpq (by omega)
theorem Srt2.cong {k : Int → Int} {f g : Nat → Int} {a b : Nat} (h : Srt2 k f a b) (e : ∀ p, a ≤ p → p < b → g p = f p) : Srt2 k g a b := fun p q hp hpq hq => by
  rw [e p hp (by omega), e q (by omega) hq]; exact h p q hp hpq hq
theorem Srt2.join {k : Int → Int} {f : Nat → Int} {a m b : Nat} (h1 : Srt2 k f a m) (h2 : Srt2 k f m b) (h3 : ∀ p q, a ≤ p → p < m → m ≤ q → q < b → lt2 k (f p) (f q)) : Srt2 k f a b := fun p q hp hpq hq => by
  by_cases h : q < m
  · exact h1 p q hp hpq h
  · by_cases h' : p < m
    · exact h3 p q hp h' (by omega) hq
    · exact h2 p q (by omega) hpq hq
end Go.AG
