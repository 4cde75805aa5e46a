/- Bars of two lists: the reference, and what is in order. No statement is made here. -/
import Derived.Test.YteheocdkjmfgdaaBrMg
namespace Go.AG
open Go.Proofs Go.Proofs.Yteheocdkjmfgdaa
set_option linter.unusedSimpArgs false
set_option linter.unusedVariables false
set_option maxRecDepth 4000
def posB (l : List T) (b : T) : Nat → Nat
  | 0 => 0
  | p + 1 => if b.bef (l.getD p default) then posB l b p else p + 1
theorem posB_le (l : List T) (b : T) : ∀ p, posB l b p ≤ p
  | 0 => Nat.le_refl _
  | p + 1 => by
    unfold posB
    split
    · exact Nat.le_succ_of_le (posB_le l b p)
    · exact Nat.le_refl _
theorem posB_hi (l : List T) (b : T) : ∀ p j, posB l b p ≤ j → j < p → b.bef (l.getD j default)
  | 0, j, _, h => by omega
  | p + 1, j, h1, h2 => by
    unfold posB at h1
    split at h1
    · rename_i hb
      by_cases hj : j = p
      · subst hj; exact hb
      · exact posB_hi l b p j h1 (by omega)
    · omega
theorem posB_lo (l : List T) (b : T) : ∀ p, 0 < posB l b p → ¬ b.bef (l.getD (posB l b p - 1) default)
  | 0, h => by simp [posB] at h
  | p + 1, h => by
    unfold posB at h ⊢
    split at h
    · rename_i hb
      rw [if_pos hb]
      exact posB_lo l b p h
    · rename_i hb
      rw [if_neg hb]
      exact hb
def insB (l : List T) (b : T) : List T := l.take (posB l b l.length) ++ [b] ++ l.drop (posB l b l.length)
theorem insB_perm (l : List T) (b : T) : (insB l b).Perm (l ++ [b]) := by
  unfold insB
  have h := (List.perm_append_comm (l₁ := [b]) (l₂ := l.drop (posB l b l.length))).append_left (l.take (posB l b l.length))
  rw [List.append_assoc]
  refine h.trans ?_
  rw [← List.append_assoc, List.take_append_drop]
theorem insB_len (l : List T) (b : T) : (insB l b).length = l.length + 1 := by rw [(insB_perm l b).length_eq]; simp
def srtB (l : List T) : Prop := l.Pairwise fun a b => ¬ b.lt a
def elB (l : List T) : Prop := ∀ t ∈ l, t.el
theorem insB_el {l : List T} {b : T} (h : elB l) (hb : b.el) : elB (insB l b) := fun t ht => by
  rw [(insB_perm l b).mem_iff, List.mem_append, List.mem_singleton] at ht
  rcases ht with ht | rfl
  · exact h t ht
  · exact hb
theorem lt_trans' {a b c : T} (h1 : a.lt b) (h2 : b.lt c) : a.lt c := by unfold T.lt at *; omega
theorem nlt_trans {a b c : T} (h1 : ¬ b.lt a) (h2 : ¬ c.lt b) : ¬ c.lt a := by unfold T.lt at *; omega
theorem lt_asymm' {a b : T} (h : a.lt b) : ¬ b.lt a := by unfold T.lt at *; omega
theorem insB_srt {l : List T} {b : T} (hs : srtB l) (he : elB l) (hb : b.el) : srtB (insB l b) := by
  have hle := posB_le l b l.length
  have hhi := posB_hi l b l.length
  have hlo := posB_lo l b l.length
  unfold insB srtB
  generalize posB l b l.length = q at *
  have hsp : (l.take q ++ l.drop q).Pairwise (fun a b => ¬ b.lt a) := by rw [List.take_append_drop]; exact hs
  obtain ⟨p1, p2, p3⟩ := List.pairwise_append.1 hsp
  rw [List.pairwise_append, List.pairwise_append]
  refine ⟨⟨p1, by simp, fun a ha c hc => ?_⟩, p2, fun a ha c hc => ?_⟩
  · obtain rfl := List.mem_singleton.1 hc
    obtain ⟨j, hj, rfl⟩ := List.mem_iff_getElem.1 ha
    rw [List.length_take] at hj
    rw [List.getElem_take]
    have h1 := hlo (by omega)
    have hq : q - 1 < l.length := by omega
    rw [show l.getD (q - 1) default = l[q - 1] by simp [hq]] at h1
    rw [T.bef_iff hb (he _ (List.getElem_mem hq))] at h1
    rcases Nat.lt_or_ge j (q - 1) with h | h
    · exact nlt_trans (List.pairwise_iff_getElem.1 hs j (q - 1) (by omega) hq h) h1
    · have : j = q - 1 := by omega
      subst this
      exact h1
  · rcases List.mem_append.1 ha with ha | ha
    · exact p3 a ha c hc
    · obtain rfl := List.mem_singleton.1 ha
      obtain ⟨j, hj, rfl⟩ := List.mem_iff_getElem.1 hc
      rw [List.length_drop] at hj
      rw [List.getElem_drop]
      have hq : q + j < l.length := by omega
      have h1 := hhi (q + j) (by omega) hq
      rw [show l.getD (q + j) default = l[q + j] by simp [hq], T.bef_iff hb (he _ (List.getElem_mem hq))] at h1
      exact lt_asymm' h1
def mgB (a b : List T) : List T := b.foldl insB a
theorem mgB_snoc (a b : List T) (t : T) : mgB a (b ++ [t]) = insB (mgB a b) t := by simp [mgB]
theorem mgB_take {a : List T} (ha : srtB a) (hea : elB a) (b : List T) (hb : elB b) : ∀ i, i ≤ b.length → (mgB a (b.take i)).Perm (a ++ b.take i) ∧ srtB (mgB a (b.take i)) ∧ elB (mgB a (b.take i)) ∧ (mgB a (b.take i)).length = a.length + i
  | 0, _ => ⟨by simp [mgB], ha, hea, by simp [mgB]⟩
  | i + 1, hi => by
    obtain ⟨h1, h2, h3, h4⟩ := mgB_take ha hea b hb i (by omega)
    have hlt : i < b.length := by omega
    have ht := hb b[i] (List.getElem_mem hlt)
    rw [List.take_succ_eq_append_getElem hlt, mgB_snoc]
    refine ⟨((insB_perm _ b[i]).trans (h1.append_right [b[i]])).trans (by rw [List.append_assoc]), insB_srt h2 h3 ht, insB_el h3 ht, by rw [insB_len, h4]; omega⟩
theorem mgB_all {a : List T} (ha : srtB a) (hea : elB a) (b : List T) (hb : elB b) : (mgB a b).Perm (a ++ b) ∧ srtB (mgB a b) ∧ elB (mgB a b) ∧ (mgB a b).length = a.length + b.length := by
  have := mgB_take ha hea b hb b.length (Nat.le_refl _)
  rwa [List.take_length] at this
theorem mgB_of {a b l : List T} (ha : srtB a) (hea : elB a) (heb : elB b) (hp : l.Perm (a ++ b)) (hs : srtB l) : l = mgB a b := by
  obtain ⟨h1, h2, h3, _⟩ := mgB_all ha hea b heb
  refine List.Perm.eq_of_pairwise (le := fun (x y : T) => ¬ T.lt y x) ?_ hs h2 (hp.trans h1.symm)
  intro x y hx hy q1 q2
  have ex : x.el := by
    rw [hp.mem_iff, List.mem_append] at hx
    exact hx.elim (hea x) (heb x)
  have ey : y.el := by
    rw [h1.mem_iff, List.mem_append] at hy
    exact hy.elim (hea y) (heb y)
  unfold T.lt T.en at q1 q2
  unfold T.el at ex ey
  refine T.ext' ?_ ?_ ?_ <;> grind
theorem valid_srt {l : List T} (h : validB l) : srtB l ∧ elB l := by
  refine ⟨?_, fun t ht => h.el ht⟩
  unfold srtB
  rw [List.pairwise_iff_getElem]
  intro i j hi hj hij
  obtain ⟨d, rfl⟩ : ∃ d, j = i + 1 + d := ⟨j - (i + 1), by omega⟩
  clear hij
  induction d with
  | zero =>
    have := (h.1 (i + 1) hj hj).2 (by omega)
    simpa using this
  | succ d ih =>
    have h1 := ih (by omega)
    have h2 := (h.1 (i + 1 + (d + 1)) hj hj).2 (by omega)
    exact nlt_trans h1 (by simpa using h2)
end Go.AG
