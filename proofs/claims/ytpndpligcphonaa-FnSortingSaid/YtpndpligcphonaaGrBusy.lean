/- The busiest node: what the program's and the reference's functions give. No statement is made here. -/
import Derived.Test.YtpndpligcphonaaGrVal
import Derived.Test.YtpndpligcphonaaISS
namespace Go.AG
open Go.Proofs Go.Proofs.Ytpndpligcphonaa
set_option linter.unusedSimpArgs false
set_option linter.unusedVariables false
set_option maxRecDepth 4000
/-- The greatest one. -/
def maxL (l : List Int) : Int := l.foldl max (l.headD 0)
theorem foldl_max (l : List Int) (a : Int) : (∀ x ∈ l, x ≤ l.foldl max a) ∧ a ≤ l.foldl max a ∧ (l.foldl max a = a ∨ l.foldl max a ∈ l) := by
  induction l generalizing a with
  | nil => simp
  | cons x l ih =>
    obtain ⟨h1, h2, h3⟩ := ih (max a x)
    simp only [List.foldl_cons]
    refine ⟨?_, by omega, ?_⟩
    · intro y hy
      rcases List.mem_cons.1 hy with rfl | hy
      · omega
      · exact h1 y hy
    · rcases h3 with h3 | h3
      · rcases Int.le_total a x with h | h
        · exact .inr (by rw [h3, Int.max_eq_right h]; exact List.mem_cons_self ..)
        · exact .inl (by rw [h3, Int.max_eq_left h])
      · exact .inr (List.mem_cons_of_mem _ h3)
theorem maxL_ge {l : List Int} {x : Int} (h : x ∈ l) : x ≤ maxL l := (foldl_max l _).1 x h
theorem maxL_mem {l : List Int} (h : l ≠ []) : maxL l ∈ l := by
  rcases (foldl_max l (l.headD 0)).2.2 with h1 | h1
  · unfold maxL; rw [h1]
    cases l with
    | nil => exact absurd rfl h
    | cons a l => simp
  · exact h1
def idxI (l : List Int) (x : Int) : Int := match l.findIdx? (fun a => decide (x = a)) with
  | some i => i
  | none => -1
theorem getD_at {l : List Int} {i : Nat} (h : i < l.length) : l.getD i 0 = l[i] := by simp [h]
/-- One more. -/
def bump (l : List Int) (i : Nat) : List Int := l.set i (l.getD i 0 + 1)
@[simp] theorem bump_length (l : List Int) (i : Nat) : (bump l i).length = l.length := by simp [bump]
def degsTo (n : Nat) (ts : List T) (i : Nat) : List Int := (ts.take i).foldl (fun l t => bump (bump l t.f.toNat) t.t.toNat) (List.replicate n 0)
theorem degsTo_succ (n : Nat) (ts : List T) {i : Nat} (hi : i < ts.length) : degsTo n ts (i + 1) = bump (bump (degsTo n ts i) ts[i].f.toNat) ts[i].t.toNat := by
  unfold degsTo
  rw [List.take_succ_eq_append_getElem hi, List.foldl_append]; rfl
theorem bump_le {l : List Int} {m : Int} (h : ∀ x ∈ l, 0 ≤ x ∧ x ≤ m) (i : Nat) : ∀ x ∈ bump l i, 0 ≤ x ∧ x ≤ m + 1 := by
  intro x hx
  have hx0 := hx
  unfold bump at hx
  rcases List.mem_or_eq_of_mem_set hx with h1 | h1
  · have := h x h1; omega
  · by_cases hi : i < l.length
    · have := h _ (List.getElem_mem hi)
      simp [hi] at h1
      omega
    · unfold bump at hx0
      rw [List.set_eq_of_length_le (by omega)] at hx0
      have := h x hx0
      omega
theorem degsTo_inv (n : Nat) (ts : List T) : ∀ i, i ≤ ts.length → (degsTo n ts i).length = n ∧ ∀ x ∈ degsTo n ts i, 0 ≤ x ∧ x ≤ 2 * i
  | 0, _ => by simp [degsTo]
  | i + 1, h => by
    obtain ⟨h1, h2⟩ := degsTo_inv n ts i (by omega)
    rw [degsTo_succ n ts (by omega)]
    refine ⟨by simp [h1], fun x hx => ?_⟩
    have := bump_le (bump_le h2 ts[i].f.toNat) ts[i].t.toNat x hx
    omega
def Gr.degs (x : Gr) : List Int := degsTo x.n.toNat x.ts x.ts.length
/-- The first place of the greatest one. -/
def isBest (l : List Int) (b : Nat) : Prop := ∃ hb : b < l.length, (∀ j (hj : j < l.length), l[j] ≤ l[b]) ∧ ∀ j (hj : j < b), l[j] < l[b]
theorem isBest.idx {l : List Int} {b : Nat} (h : isBest l b) : idxI l (maxL l) = b ∧ maxL l = l.getD b 0 := by
  obtain ⟨hb, h1, h2⟩ := h
  have hm : maxL l = l[b] := by
    have h3 := maxL_ge (List.getElem_mem hb)
    obtain ⟨j, hj, e⟩ := List.mem_iff_getElem.1 (maxL_mem (l := l) (by intro e; simp [e] at hb))
    have := h1 j hj
    omega
  refine ⟨?_, by simp [hm, hb]⟩
  have : l.findIdx? (fun a => decide (maxL l = a)) = some b := List.findIdx?_eq_some_iff_getElem.2 ⟨hb, by simp [hm], fun j hj => by have := h2 j hj; simp [hm]; omega⟩
  unfold idxI; rw [this]
noncomputable def Gr.bCode (x : Gr) : Int := if x.valid then 0 else 1
noncomputable def Gr.bIdx (x : Gr) : Int := if x.valid then idxI x.degs (maxL x.degs) else 0
noncomputable def Gr.bMax (x : Gr) : Int := if x.valid then maxL x.degs else 0
theorem bump_iv (l : List Int) {i : Nat} (hi : i < l.length) : (l.map iv).set i (.int .i64 (l[i] + 1)) = (bump l i).map iv := by
  unfold bump
  rw [List.map_set]
  simp [hi]
end Go.AG
