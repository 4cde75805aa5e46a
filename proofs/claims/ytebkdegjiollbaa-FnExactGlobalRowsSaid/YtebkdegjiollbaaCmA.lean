/- Maps of complexes: what is told, images, what fits, the search. No statement is made here. -/
import Derived.Test.YtebkdegjiollbaaFxR
import Derived.Test.YtebkdegjiollbaaFxLo
import Derived.Test.YtebkdegjiollbaaFxP
namespace Go.AG
open Go.Proofs Go.Proofs.Ytebkdegjiollbaa
set_option linter.unusedSimpArgs false
set_option linter.unusedVariables false
set_option maxRecDepth 4000
theorem ixI_le {l : List Int} {v : Int} {j : Nat} (hj : j < l.length) (h : l[j] = v) : ixI l v ≤ j := by
  unfold ixI idxf
  cases hf : l.findIdx? (fun a => decide (v = a)) with
  | none => simp
  | some k =>
    obtain ⟨hk, h1, h2⟩ := List.findIdx?_eq_some_iff_getElem.1 hf
    rcases Nat.lt_or_ge j k with h3 | h3
    · have := h2 j h3
      simp [h] at this
    · simp; omega
theorem tk_ix {vs : List Int} {n : Nat} {v : Int} (h : v ∈ vs.take n) : ∃ (k : Nat) (hk : k < vs.length), k < n ∧ ixI vs v = k ∧ vs[k] = v := by
  obtain ⟨k, hk, e1, e2⟩ := ixI_at (List.mem_of_mem_take h)
  refine ⟨k, hk, ?_, e1, e2⟩
  obtain ⟨j, hj, ej⟩ := List.mem_iff_getElem.1 h
  rw [List.length_take] at hj
  rw [List.getElem_take] at ej
  have := ixI_le (by omega) ej
  omega
/-- What is told for a vertex, -1 if nothing is. -/
def tld (vs im : List Int) (v : Int) : Int := if v ∈ vs.take im.length then vl vs im v else -1
/-- All vertices are told. -/
def allT (vs im s : List Int) : Bool := subL s (vs.take im.length)
theorem allT_succ (vs im : List Int) {s : List Int} {j : Nat} (hj : j < s.length) : allT vs im (s.take (j + 1)) = (allT vs im (s.take j) && decide (s[j] ∈ vs.take im.length)) := by
  unfold allT subL
  rw [List.take_succ_eq_append_getElem hj, List.all_append]
  simp
theorem allT_mem {vs im s : List Int} (h : allT vs im s = true) : ∀ v ∈ s, v ∈ vs.take im.length := by
  unfold allT subL at h
  intro v hv
  simpa using List.all_eq_true.1 h v hv
/-- The images of all simplices whose vertices are told are simplices. -/
def fitB (ra rb : List (List Int)) (im : List Int) : Bool := ra.all fun s => !(allT (vt ra) im s && !decide (critL (s.map (vl (vt ra) im)) ∈ rb))
/-- The search: what is counted, the nodes, and whether there were too many. -/
def srch (fit : List Int → Bool) (cs : List Int) (B : Int) : Nat → List Int → Int × Int × Bool → Int × Int × Bool
  | 0, _, s => (s.1 + 1, s.2.1, s.2.2)
  | d + 1, im, s => cs.foldl (fun s v => if s.2.2 = true then s else if fit (im ++ [v]) = true then (if s.2.1 = B then (s.1, s.2.1, true) else srch fit cs B d (im ++ [v]) (s.1, s.2.1 + 1, s.2.2)) else s) s
def sstep (fit : List Int → Bool) (cs : List Int) (B : Int) (d : Nat) (im : List Int) (s : Int × Int × Bool) (v : Int) : Int × Int × Bool := if s.2.2 = true then s else if fit (im ++ [v]) = true then (if s.2.1 = B then (s.1, s.2.1, true) else srch fit cs B d (im ++ [v]) (s.1, s.2.1 + 1, s.2.2)) else s
theorem srch_succ (fit : List Int → Bool) (cs : List Int) (B : Int) (d : Nat) (im : List Int) (s : Int × Int × Bool) : srch fit cs B (d + 1) im s = cs.foldl (sstep fit cs B d im) s := rfl
theorem sstep_full (fit : List Int → Bool) (cs : List Int) (B : Int) (d : Nat) (im l : List Int) (c k : Int) : l.foldl (sstep fit cs B d im) (c, k, true) = (c, k, true) := by
  induction l with
  | nil => rfl
  | cons v l ih => rw [List.foldl_cons, show sstep fit cs B d im (c, k, true) v = (c, k, true) by simp [sstep], ih]
theorem srch_bd (fit : List Int → Bool) (cs : List Int) (B : Int) : ∀ (d : Nat) (im : List Int) (s : Int × Int × Bool) (e : Int), s.1 + e ≤ s.2.1 → s.2.1 ≤ B →
    s.1 ≤ (srch fit cs B d im s).1 ∧ s.2.1 ≤ (srch fit cs B d im s).2.1 ∧ (srch fit cs B d im s).2.1 ≤ B ∧ (srch fit cs B d im s).1 + e ≤ (srch fit cs B d im s).2.1 + 1
  | 0, im, s, e, h1, h2 => by simp only [srch]; omega
  | d + 1, im, s, e, h1, h2 => by
    have ih := srch_bd fit cs B d
    rw [srch_succ]
    suffices h : ∀ (l : List Int) (s : Int × Int × Bool), s.1 + e ≤ s.2.1 → s.2.1 ≤ B → s.1 ≤ (l.foldl (sstep fit cs B d im) s).1 ∧ s.2.1 ≤ (l.foldl (sstep fit cs B d im) s).2.1 ∧ (l.foldl (sstep fit cs B d im) s).2.1 ≤ B ∧ (l.foldl (sstep fit cs B d im) s).1 + e ≤ (l.foldl (sstep fit cs B d im) s).2.1 by
      have := h cs s h1 h2
      omega
    clear h1 h2 s
    intro l
    induction l with
    | nil => intro s h1 h2; simp only [List.foldl_nil]; omega
    | cons v l ihl =>
      intro s h1 h2
      rw [List.foldl_cons]
      have hs : s.1 ≤ (sstep fit cs B d im s v).1 ∧ s.2.1 ≤ (sstep fit cs B d im s v).2.1 ∧ (sstep fit cs B d im s v).2.1 ≤ B ∧ (sstep fit cs B d im s v).1 + e ≤ (sstep fit cs B d im s v).2.1 := by
        unfold sstep
        split
        · omega
        · split
          · split
            · simp only; omega
            · have := ih (im ++ [v]) (s.1, s.2.1 + 1, s.2.2) (e + 1) (by simp only; omega) (by simp only; omega)
              simp only at this
              omega
          · omega
      have := ihl _ hs.2.2.2 hs.2.2.1
      omega
end Go.AG
