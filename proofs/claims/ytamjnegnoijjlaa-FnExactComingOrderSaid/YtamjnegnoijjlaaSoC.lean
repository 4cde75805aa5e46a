/- Stable order in place: what a merge leaves (plain). No statement is made here. -/
import Derived.Test.YtamjnegnoijjlaaSoB
namespace Go.AG
set_option linter.unusedSimpArgs false
set_option linter.unusedVariables false
theorem Srt2.low {k : Int → Int} {f : Nat → Int} {a b p q : Nat} {z : Int} (h : Srt2 k f a b) (h1 : a ≤ p) (h2 : p ≤ q) (h3 : q < b) (hz : lt2 k (f q) z) : lt2 k (f p) z := by
  by_cases e : p = q
  · rw [e]; exact hz
  · exact lt2_trans (h p q h1 (by omega) h3) hz
theorem Srt2.high {k : Int → Int} {f : Nat → Int} {a b p q : Nat} {z : Int} (h : Srt2 k f a b) (h1 : a ≤ p) (h2 : p ≤ q) (h3 : q < b) (hz : lt2 k z (f p)) : lt2 k z (f q) := by
  by_cases e : p = q
  · rw [← e]; exact hz
  · exact lt2_trans hz (h p q h1 (by omega) h3)
theorem rotA {f : Nat → Int} {s m e p : Nat} (h1 : s ≤ p) (h2 : p < s + (e - m)) : rot f s m e p = f (p - s + m) := by unfold rot; rw [if_pos ⟨h1, h2⟩]
theorem rotB {f : Nat → Int} {s m e p : Nat} (h1 : s + (e - m) ≤ p) (h2 : p < e) : rot f s m e p = f (p - (e - m)) := by
  unfold rot
  rw [if_neg (by omega : ¬ (s ≤ p ∧ p < s + (e - m))), if_pos ⟨h1, h2⟩]
theorem rotC {f : Nat → Int} {s m e p : Nat} (hs : s ≤ m) (he : m ≤ e) (h : p < s ∨ e ≤ p) : rot f s m e p = f p := by
  unfold rot
  rw [if_neg (by omega : ¬ (s ≤ p ∧ p < s + (e - m))), if_neg (by omega : ¬ (s + (e - m) ≤ p ∧ p < e))]
theorem rot_no {f : Nat → Int} {s m e : Nat} (hs : s ≤ m) (he : m ≤ e) (h : ¬ (s < m ∧ m < e)) : rot f s m e = f := by
  funext p
  unfold rot
  repeat' split
  all_goals first | rfl | (exfalso; omega) | (congr 1; omega)
/-- One number put into the right part: it goes behind those that come ahead of it. -/
theorem one_left {k : Int → Int} {f : Nat → Int} {a i b : Nat} (ha : a + 1 ≤ i) (hi : i ≤ b) (hs : Srt2 k f (a + 1) b) (h1 : ∀ q, a + 1 ≤ q → q < i → lt2 k (f q) (f a)) (h2 : ∀ q, i ≤ q → q < b → lt2 k (f a) (f q)) : Srt2 k (rot f a (a + 1) i) a b := by
  intro p q hp hpq hq
  have hv : ∀ r, a ≤ r → r < b → (r < i - 1 ∧ rot f a (a + 1) i r = f (r + 1)) ∨ (r = i - 1 ∧ rot f a (a + 1) i r = f a) ∨ (i ≤ r ∧ rot f a (a + 1) i r = f r) := by
    intro r hr hrb
    by_cases c1 : r < i - 1
    · exact .inl ⟨c1, by rw [rotA hr (by omega)]; congr 1; omega⟩
    · by_cases c2 : r = i - 1
      · exact .inr (.inl ⟨c2, by rw [rotB (by omega) (by omega)]; congr 1; omega⟩)
      · exact .inr (.inr ⟨by omega, rotC (by omega) (by omega) (by omega)⟩)
  rcases hv p hp (by omega) with ⟨c1, e1⟩ | ⟨c1, e1⟩ | ⟨c1, e1⟩ <;> rcases hv q (by omega) hq with ⟨c2, e2⟩ | ⟨c2, e2⟩ | ⟨c2, e2⟩ <;> rw [e1, e2]
  · exact hs (p + 1) (q + 1) (by omega) (by omega) (by omega)
  · exact h1 (p + 1) (by omega) (by omega)
  · exact hs (p + 1) q (by omega) (by omega) hq
  · omega
  · omega
  · exact h2 q c2 hq
  · omega
  · omega
  · exact hs p q (by omega) hpq hq
/-- One number put into the left part. -/
theorem one_right {k : Int → Int} {f : Nat → Int} {a i m : Nat} (ha : a ≤ i) (hi : i ≤ m) (hs : Srt2 k f a m) (h1 : ∀ q, a ≤ q → q < i → lt2 k (f q) (f m)) (h2 : ∀ q, i ≤ q → q < m → lt2 k (f m) (f q)) : Srt2 k (rot f i m (m + 1)) a (m + 1) := by
  intro p q hp hpq hq
  have hv : ∀ r, a ≤ r → r < m + 1 → (r < i ∧ rot f i m (m + 1) r = f r) ∨ (r = i ∧ rot f i m (m + 1) r = f m) ∨ (i < r ∧ rot f i m (m + 1) r = f (r - 1)) := by
    intro r hr hrb
    by_cases c1 : r < i
    · exact .inl ⟨c1, rotC (by omega) (by omega) (by omega)⟩
    · by_cases c2 : r = i
      · exact .inr (.inl ⟨c2, by rw [rotA (by omega) (by omega)]; congr 1; omega⟩)
      · exact .inr (.inr ⟨by omega, by rw [rotB (by omega) (by omega)]; congr 1; omega⟩)
  rcases hv p hp (by omega) with ⟨c1, e1⟩ | ⟨c1, e1⟩ | ⟨c1, e1⟩ <;> rcases hv q (by omega) hq with ⟨c2, e2⟩ | ⟨c2, e2⟩ | ⟨c2, e2⟩ <;> rw [e1, e2]
  · exact hs p q (by omega) (by omega) (by omega)
  · exact h1 p (by omega) (by omega)
  · exact hs p (q - 1) (by omega) (by omega) (by omega)
  · omega
  · omega
  · exact h2 (q - 1) (by omega) (by omega)
  · omega
  · omega
  · exact hs (p - 1) (q - 1) (by omega) (by omega) (by omega)
/-- The two halves of a merge do not mix. -/
theorem halves {k : Int → Int} {f : Nat → Int} {a s m e b : Nat} (hs1 : a ≤ s) (hs2 : s ≤ m) (he1 : m ≤ e) (he2 : e ≤ b) (hL : Srt2 k f a m) (hR : Srt2 k f m b)
    (c1 : a < s → e < b → lt2 k (f (s - 1)) (f e)) (c2 : s < m → m < e → lt2 k (f (e - 1)) (f s)) :
    Srt2 k (rot f s m e) a s ∧ Srt2 k (rot f s m e) s (s + (e - m)) ∧ Srt2 k (rot f s m e) (s + (e - m)) e ∧ Srt2 k (rot f s m e) e b ∧ ∀ p q, a ≤ p → p < s + (e - m) → s + (e - m) ≤ q → q < b → lt2 k (rot f s m e p) (rot f s m e q) := by
  refine ⟨(hL.sub (Nat.le_refl _) hs2).cong fun p h1 h2 => rotC hs2 he1 (by omega), fun p q h1 h2 h3 => ?_, fun p q h1 h2 h3 => ?_, (hR.sub he1 (Nat.le_refl _)).cong fun p h1 h2 => rotC hs2 he1 (by omega), fun p q h1 h2 h3 h4 => ?_⟩
  · rw [rotA h1 (by omega), rotA (by omega) h3]
    exact hR _ _ (by omega) (by omega) (by omega)
  · rw [rotB h1 (by omega), rotB (by omega) h3]
    exact hL _ _ (by omega) (by omega) (by omega)
  · have hp : (p < s ∧ rot f s m e p = f p) ∨ (s ≤ p ∧ rot f s m e p = f (p - s + m)) := by
      by_cases c : p < s
      · exact .inl ⟨c, rotC hs2 he1 (by omega)⟩
      · exact .inr ⟨by omega, rotA (by omega) h2⟩
    have hq : (q < e ∧ rot f s m e q = f (q - (e - m))) ∨ (e ≤ q ∧ rot f s m e q = f q) := by
      by_cases c : q < e
      · exact .inl ⟨c, rotB h3 c⟩
      · exact .inr ⟨by omega, rotC hs2 he1 (by omega)⟩
    rcases hp with ⟨d1, e1⟩ | ⟨d1, e1⟩ <;> rcases hq with ⟨d2, e2⟩ | ⟨d2, e2⟩ <;> rw [e1, e2]
    · exact hL _ _ h1 (by omega) (by omega)
    · exact hR.high (p := e) he1 d2 h4 (hL.low (q := s - 1) h1 (by omega) (by omega) (c1 (by omega) (by omega)))
    · exact hL.high (p := s) hs1 (by omega) (by omega) (hR.low (q := e - 1) (by omega) (by omega) (by omega) (c2 (by omega) (by omega)))
    · exact hR _ _ (by omega) (by omega) h4
end Go.AG
