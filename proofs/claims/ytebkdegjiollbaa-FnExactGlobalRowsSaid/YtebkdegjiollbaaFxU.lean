/- Parts of complexes as plain data. No statement is made here. -/
import Derived.Test.YtebkdegjiollbaaFxT
namespace Go.AG
set_option linter.unusedSimpArgs false
set_option linter.unusedVariables false
set_option maxRecDepth 4000
theorem sortS_iff (rs : List (List Int)) : sortS rs ↔ rs.Pairwise fun a b => cmpS a b < 0 := by
  rw [List.pairwise_iff_getElem]
  exact ⟨fun h i j hi hj hij => h.lt hij hj, fun h i hi => h i (i + 1) (by omega) hi (by omega)⟩
/-- Those whose numbers are chosen. -/
def subK (rs : List (List Int)) (p : Nat → Bool) : List (List Int) := ((List.range rs.length).filter p).map fun k => rs.getD k []
theorem subK_mem {rs : List (List Int)} {p : Nat → Bool} {s : List Int} : s ∈ subK rs p ↔ ∃ k, ∃ h : k < rs.length, p k = true ∧ rs[k] = s := by
  unfold subK
  simp only [List.mem_map, List.mem_filter, List.mem_range]
  constructor
  · rintro ⟨k, ⟨hk, hp⟩, rfl⟩; exact ⟨k, hk, hp, by simp [hk]⟩
  · rintro ⟨k, hk, hp, rfl⟩; exact ⟨k, ⟨hk, hp⟩, by simp [hk]⟩
theorem subK_length (rs : List (List Int)) (p : Nat → Bool) : (subK rs p).length ≤ rs.length := by
  unfold subK
  rw [List.length_map]
  exact Nat.le_trans (List.length_filter_le ..) (by simp)
theorem subK_sort {rs : List (List Int)} (h : sortS rs) (p : Nat → Bool) : sortS (subK rs p) := by
  rw [sortS_iff]
  unfold subK
  rw [List.pairwise_map]
  have h1 : (List.range rs.length).Pairwise (· < ·) := List.pairwise_lt_range
  have h2 := h1.filter p
  refine List.Pairwise.imp_of_mem (fun {i j} hi hj hij => ?_) h2
  have hi' := List.mem_range.1 (List.mem_filter.1 hi).1
  have hj' := List.mem_range.1 (List.mem_filter.1 hj).1
  rw [show rs.getD i [] = rs[i] by simp [hi'], show rs.getD j [] = rs[j] by simp [hj']]
  exact h.lt hij hj'
/-- What has come at a time. -/
def Fil.atT (x : Fil) (t : Int) : List (List Int) := subK x.rs fun k => decide (x.ts.getD k 0 ≤ t)
theorem cxOk_of {rs : List (List Int)} (h : sortS rs) (hl : rs.length ≤ 48) (hs : ∀ s ∈ rs, smOk s ∧ ∀ f ∈ faces s, f ∈ rs) : cxOk rs :=
  ⟨fun i hi => ⟨(hs _ (List.getElem_mem hi)).1, fun h0 => by
    have := h (i - 1) (by omega)
    have e : i - 1 + 1 = i := by omega
    simpa only [e] using this, (hs _ (List.getElem_mem hi)).2⟩, hl⟩
theorem cxOk.mem {rs : List (List Int)} (h : cxOk rs) {s : List Int} (hs : s ∈ rs) : smOk s ∧ ∀ f ∈ faces s, f ∈ rs := by
  obtain ⟨i, hi, rfl⟩ := List.mem_iff_getElem.1 hs
  exact ⟨(h.1 i hi).1, (h.1 i hi).2.2⟩
theorem Fil.atT_ok {x : Fil} (h : x.valid) (t : Int) : cxOk (x.atT t) := by
  obtain ⟨h1, ⟨h2, h3⟩, h4⟩ := h
  refine cxOk_of (subK_sort h1.sort _) (Nat.le_trans (subK_length ..) h1.2) fun s hs => ?_
  obtain ⟨k, hk, hp, rfl⟩ := subK_mem.1 hs
  refine ⟨(h1.1 k hk).1, fun f hf => ?_⟩
  have h5 := (h1.1 k hk).2.2 f hf
  obtain ⟨j, hj, e, hx⟩ := ixS_mem h5
  refine subK_mem.2 ⟨j, hj, ?_, e⟩
  have h6 := h4 k hk f hf
  rw [hx] at h6
  simp only [Int.toNat_natCast] at h6
  simp only [decide_eq_true_eq] at hp ⊢
  omega
/-- Strictly rising lists with the same numbers are the same. -/
theorem strict_ext : ∀ {l m : List Int}, l.Pairwise (· < ·) → m.Pairwise (· < ·) → (∀ a, a ∈ l ↔ a ∈ m) → l = m
  | [], [], _, _, _ => rfl
  | [], b :: m, _, _, h => by have := (h b).2 (List.mem_cons_self ..); simp at this
  | a :: l, [], _, _, h => by have := (h a).1 (List.mem_cons_self ..); simp at this
  | a :: l, b :: m, hl, hm, h => by
    rw [List.pairwise_cons] at hl hm
    have h1 : a = b := by
      rcases List.mem_cons.1 ((h a).1 (List.mem_cons_self ..)) with e | e
      · exact e
      · rcases List.mem_cons.1 ((h b).2 (List.mem_cons_self ..)) with e' | e'
        · exact e'.symm
        · have := hl.1 b e'; have := hm.1 a e; omega
    subst h1
    rw [strict_ext hl.2 hm.2 fun c => ?_]
    constructor
    · intro hc
      rcases List.mem_cons.1 ((h c).1 (List.mem_cons_of_mem _ hc)) with e | e
      · subst e; have := hl.1 c hc; omega
      · exact e
    · intro hc
      rcases List.mem_cons.1 ((h c).2 (List.mem_cons_of_mem _ hc)) with e | e
      · subst e; have := hm.1 c hc; omega
      · exact e
end Go.AG
