/- The nodes without an exchange: what the program's and the reference's functions give. No statement is made here. -/
import Derived.Test.YtpndpligcphonaaCtDel
import Derived.Test.YtpndpligcphonaaGrBusy
import Derived.Test.YtpndpligcphonaaCtS
namespace Go.AG
open Go.Proofs Go.Proofs.Ytpndpligcphonaa
set_option linter.unusedSimpArgs false
set_option linter.unusedVariables false
set_option maxRecDepth 4000
theorem idxI_ge (l : List Int) (x : Int) : (0 ≤ idxI l x) ↔ x ∈ l := by
  unfold idxI
  cases h : l.findIdx? (fun a => decide (x = a)) with
  | none =>
    rw [List.findIdx?_eq_none_iff] at h
    simp only [show ¬ (0 : Int) ≤ -1 by omega, false_iff]
    intro hx
    have := h x hx
    simp at this
  | some i =>
    obtain ⟨hi, hq, _⟩ := List.findIdx?_eq_some_iff_getElem.1 h
    simp only [Int.natCast_nonneg, true_iff]
    simp only [decide_eq_true_eq] at hq
    rw [hq]; exact List.getElem_mem hi
/-- The nodes of a round. -/
def Gr.busy (x : Gr) (r : List Int) : List Int := r.flatMap fun k => [(x.e k).f, (x.e k).t]
theorem Gr.busy_succ (x : Gr) (r : List Int) {j : Nat} (h : j < r.length) : x.busy (r.take (j + 1)) = x.busy (r.take j) ++ [(x.e r[j]).f, (x.e r[j]).t] := by
  unfold Gr.busy
  rw [List.take_succ_eq_append_getElem h, List.flatMap_append]
  simp
theorem Gr.busy_len (x : Gr) (r : List Int) : (x.busy r).length = 2 * r.length := by
  unfold Gr.busy
  induction r with
  | nil => rfl
  | cons a r ih => simp only [List.flatMap_cons, List.length_append, ih, List.length_cons, List.length_nil]; omega
noncomputable def Gr.iCode (x : Gr) (rs : List (List Int)) (k : Int) : Int := if x.sCode rs = 0 then if 0 ≤ k ∧ k < rs.length then 0 else 2 else x.sCode rs
noncomputable def Gr.idle (x : Gr) (rs : List (List Int)) (k : Int) : List Int := if x.iCode rs k = 0 then (upto x.n.toNat).filter fun a => !decide (a ∈ x.busy (rs.getD k.toNat [])) else []
theorem Gr.idle_len (x : Gr) (rs : List (List Int)) (k : Int) (hv : x.iCode rs k = 0 → x.valid) : (x.idle rs k).length ≤ 12 := by
  unfold Gr.idle
  split
  · rename_i h
    have := (hv h).2.1
    refine Nat.le_trans (List.length_filter_le _ _) ?_
    simp; omega
  · simp
theorem Gr.iCode_ok {x : Gr} {rs : List (List Int)} {k : Int} (h : x.iCode rs k = 0) : (x.valid ∧ x.rsOk rs) ∧ 0 ≤ k ∧ k < rs.length := by
  unfold Gr.iCode at h
  split at h
  · rename_i h1
    split at h
    · exact ⟨Gr.sCode_ok h1, by assumption⟩
    · omega
  · rename_i h1; exact absurd h h1
theorem iCode_rw {x : Gr} {rs : List (List Int)} {k : Int} : (x.sCode rs = 0 ∧ (0 ≤ k ∧ k < rs.length) ∧ x.iCode rs k = 0) ∨ (x.sCode rs = 0 ∧ ¬ (0 ≤ k ∧ k < rs.length) ∧ x.iCode rs k = 2) ∨ (¬ x.sCode rs = 0 ∧ x.iCode rs k = x.sCode rs) := by
  unfold Gr.iCode
  by_cases h1 : x.sCode rs = 0
  · by_cases h2 : 0 ≤ k ∧ k < rs.length
    · exact .inl ⟨h1, h2, by simp [h1, h2]⟩
    · exact .inr (.inl ⟨h1, h2, by simp [h1, h2]⟩)
  · exact .inr (.inr ⟨h1, by simp [h1]⟩)
end Go.AG
