/- The order in which simplices come: plain part, and the program. No statement is made here. -/
import Derived.Test.YtamjnegnoijjlaaSoE
namespace Go.AG
open Go.Proofs Go.Proofs.Ytamjnegnoijjlaa
set_option linter.unusedSimpArgs false
set_option linter.unusedVariables false
set_option maxRecDepth 4000
def upto (n : Nat) : List Int := (List.range n).map fun (i : Nat) => (i : Int)
theorem upto_succ (n : Nat) : upto (n + 1) = upto n ++ [(n : Int)] := by simp [upto, List.range_succ]
@[simp] theorem upto_length (n : Nat) : (upto n).length = n := by simp [upto]
theorem upto_arr (n : Nat) : upto n = arr n idI := rfl
theorem upto_mem (n : Nat) (a : Int) : a ∈ upto n ↔ 0 ≤ a ∧ a < n := by
  unfold upto
  rw [List.mem_map]
  constructor
  · rintro ⟨i, hi, rfl⟩
    have := List.mem_range.1 hi
    omega
  · rintro ⟨h1, h2⟩
    exact ⟨a.toNat, List.mem_range.2 (by omega), by omega⟩
theorem lt2_ext {k : Int → Int} : ∀ {l m : List Int}, l.Pairwise (lt2 k) → m.Pairwise (lt2 k) → (∀ a, a ∈ l ↔ a ∈ m) → l = m
  | [], [], _, _, _ => rfl
  | [], b :: m, _, _, h => by have := (h b).2 (List.mem_cons_self ..); simp at this
  | a :: l, [], _, _, h => by have := (h a).1 (List.mem_cons_self ..); simp at this
  | a :: l, b :: m, hl, hm, h => by
    rw [List.pairwise_cons] at hl hm
    have h1 : a = b := by
      rcases List.mem_cons.1 ((h a).1 (List.mem_cons_self ..)) with e | e
      · exact e
      · rcases List.mem_cons.1 ((h b).2 (List.mem_cons_self ..)) with e' | e'
        · exact e'.symm
        · exact absurd (lt2_trans (hl.1 b e') (hm.1 a e)) lt2_irr
    subst h1
    rw [lt2_ext hl.2 hm.2 fun c => ?_]
    constructor
    · intro hc
      rcases List.mem_cons.1 ((h c).1 (List.mem_cons_of_mem _ hc)) with e | e
      · subst e; exact absurd (hl.1 c hc) lt2_irr
      · exact e
    · intro hc
      rcases List.mem_cons.1 ((h c).2 (List.mem_cons_of_mem _ hc)) with e | e
      · subst e; exact absurd (hm.1 c hc) lt2_irr
      · exact e
theorem arr_srt {k : Int → Int} {f : Nat → Int} {n : Nat} (h : Srt2 k f 0 n) : (arr n f).Pairwise (lt2 k) := by
  rw [List.pairwise_iff_getElem]
  intro i j hi hj hij
  simp only [arr_len] at hi hj
  rw [arr_get hi (by simp [arr_len]; omega), arr_get hj (by simp [arr_len]; omega)]
  exact h i j (Nat.zero_le _) hij hj
theorem arr_mem {f : Nat → Int} {n : Nat} (h : Same idI f 0 n) (a : Int) : a ∈ arr n f ↔ 0 ≤ a ∧ a < n := by
  unfold arr
  rw [List.mem_map]
  constructor
  · rintro ⟨p, hp, rfl⟩
    obtain ⟨q, _, q2, e⟩ := h.2.1 p (Nat.zero_le _) (List.mem_range.1 hp)
    rw [e]; unfold idI; omega
  · rintro ⟨h1, h2⟩
    obtain ⟨q, _, q2, e⟩ := h.2.2 a.toNat (Nat.zero_le _) (by omega)
    exact ⟨q, List.mem_range.2 q2, by rw [← e]; unfold idI; omega⟩
/-- The numbers below n in the order of their keys. -/
def ordL (k : Int → Int) (n : Nat) : List Int := (upto n).mergeSort fun a b => decide (k a < k b ∨ k a = k b ∧ a ≤ b)
theorem ordL_perm (k : Int → Int) (n : Nat) : (ordL k n).Perm (upto n) := List.mergeSort_perm _ _
theorem ordL_len (k : Int → Int) (n : Nat) : (ordL k n).length = n := by rw [(ordL_perm k n).length_eq]; simp
theorem ordL_mem (k : Int → Int) (n : Nat) (a : Int) : a ∈ ordL k n ↔ 0 ≤ a ∧ a < n := by rw [(ordL_perm k n).mem_iff, upto_mem]
theorem ordL_srt (k : Int → Int) (n : Nat) : (ordL k n).Pairwise (lt2 k) := by
  have h1 : (ordL k n).Pairwise fun a b => decide (k a < k b ∨ k a = k b ∧ a ≤ b) = true := List.pairwise_mergeSort (fun a b c => by simp; omega) (fun a b => by simp; omega) _
  have h2 : (ordL k n).Nodup := (ordL_perm k n).nodup_iff.2 (by
    unfold upto
    rw [List.nodup_iff_pairwise_ne, List.pairwise_map]
    exact List.Pairwise.imp (fun {a b} h e => h (by omega)) (List.nodup_iff_pairwise_ne.1 List.nodup_range))
  have h3 := List.pairwise_and_iff.2 ⟨h1, List.nodup_iff_pairwise_ne.1 h2⟩
  refine h3.imp fun {a b} h => ?_
  have := h.1
  simp only [decide_eq_true_eq] at this
  have := h.2
  unfold lt2; omega
theorem ordL_eq {k : Int → Int} {n : Nat} {l : List Int} (h1 : l.Pairwise (lt2 k)) (h2 : ∀ a, a ∈ l ↔ 0 ≤ a ∧ a < n) : l = ordL k n := lt2_ext h1 (ordL_srt k n) fun a => by rw [h2, ordL_mem]
def keyT (ts : List Int) (a : Int) : Int := ts.getD a.toNat 0
end Go.AG
