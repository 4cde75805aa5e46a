/- What the set's own helpers of slices of slices of whole numbers do: they copy, compare, count, mark. No statement is made here. -/
import Derived.Test.YtpndpligcphonaaIntS
import Derived.Test.YtpndpligcphonaaAGLists
namespace Go.AG
open Go.Proofs Go.Proofs.Ytpndpligcphonaa
set_option linter.unusedSimpArgs false
set_option linter.unusedVariables false
set_option maxRecDepth 4000
abbrev LS := List (List Int)
def wfSS (rs : List (List Int)) : Prop := (∀ r ∈ rs, wfI r) ∧ rs.length ≤ 9223372036854775807
theorem Lists_list : ∀ {xs : List AV}, (∀ x ∈ xs, isAgg x = (Ty.slice (.int .i64)).isS ∧ shC (.slice (.int .i64)) (cellsOf x)) → ∃ rs : List (List Int), xs = rs.map il ∧ ∀ r ∈ rs, wfI r
  | [], _ => ⟨[], rfl, by simp⟩
  | x :: xs, h => by
    obtain ⟨r, rfl, hr⟩ := Ints_of_shape (h x (List.mem_cons_self ..))
    obtain ⟨rs, rfl, hrs⟩ := Lists_list (xs := xs) fun y hy => h y (List.mem_cons_of_mem _ hy)
    exact ⟨r :: rs, rfl, by simpa using ⟨hr, hrs⟩⟩
def tySS : Ty := .slice (.slice (.int .i64))
theorem Lists_of_shape {x : AV} (h : shV tySS x) : ∃ rs : List (List Int), x = .snap 1 (rs.map il) ∧ wfSS rs := by
  obtain ⟨h1, xs, e1, hlen, r3⟩ := h
  have hm : maxLen ≤ 9223372036854775807 := by decide
  obtain ⟨rs, rfl, hl⟩ := Lists_list r3
  cases x <;> simp [isAgg, tySS, Ty.isS, cellsOf] at h1 e1
  rw [e1.1, e1.2]
  exact ⟨rs, rfl, hl, by simp only [List.length_map] at hlen; exact Nat.le_trans hlen hm⟩
/-- As many as the laws allow. -/
def fitSS (rs : List (List Int)) : Prop := rs.length ≤ 1048576 ∧ ∀ r ∈ rs, r.length ≤ 1048576
noncomputable def orcI1 : List (Nat × (List AV → Option (Prop × AV))) := []
theorem orcI1_p : Pure Try.prog (lk orcI1) := lk_pure0
@[simp] theorem orcI1_l (b : Bool) (g : FuncId) (l : List AV) : lk orcI1 b g l = none := nr rfl

def sumL (rs : List (List Int)) : Nat := (rs.map List.length).sum
def ssTot (rs : List (List Int)) : Nat := rs.length + sumL rs
theorem sumL_take (rs : List (List Int)) {i : Nat} (hi : i < rs.length) : sumL (rs.take (i + 1)) = sumL (rs.take i) + rs[i].length := by
  unfold sumL
  rw [List.take_succ_eq_append_getElem hi, List.map_append, List.sum_append]
  simp
theorem sumL_le (rs : List (List Int)) (i : Nat) : sumL (rs.take i) ≤ sumL rs := by
  conv => rhs; rw [← List.take_append_drop i rs]
  unfold sumL
  rw [List.map_append, List.sum_append]
  omega
theorem len_sumL {rs : List (List Int)} {r : List Int} (h : r ∈ rs) : r.length ≤ sumL rs := by
  obtain ⟨i, hi, rfl⟩ := List.mem_iff_getElem.1 h
  have := sumL_take rs hi
  have := sumL_le rs (i + 1)
  omega
theorem fit_of_tot {rs : List (List Int)} (h : ssTot rs ≤ 1048576) : fitSS rs := ⟨by unfold ssTot at h; omega, fun r hr => by have := len_sumL hr; unfold ssTot at h; omega⟩

/-- The slices that a slice holds which nobody writes. -/
def listsOf : AV → List (List Int)
  | .snap _ l => l.map intsOf
  | _ => []
@[simp] theorem listsOf_snap (s : Nat) (rs : List (List Int)) : listsOf (.snap s (rs.map il)) = rs := by
  simp only [listsOf, List.map_map]
  exact List.map_id'' (fun r => intsOf_snap 1 r) rs
@[simp] theorem listsOf_nil : listsOf .nilsl = [] := rfl
@[simp] theorem listsOf_emp : listsOf .emp = [] := rfl
def isLists (v : AV) : Prop := v = .nilsl ∨ v = .emp ∨ ∃ rs : List (List Int), v = .snap 1 (rs.map il)
@[simp] theorem isLists_snap (rs : List (List Int)) : isLists (.snap 1 (rs.map il)) := .inr (.inr ⟨rs, rfl⟩)
@[simp] theorem isLists_nil : isLists .nilsl := .inl rfl
@[simp] theorem isLists_emp : isLists .emp := .inr (.inl rfl)
theorem Wk.lists {v : AV} (h : isLists v) : Wk v (.snap 1 ((listsOf v).map il)) := by
  rcases h with rfl | rfl | ⟨rs, rfl⟩
  · exact Wk.nil 1
  · exact Wk.emp 1
  · rw [listsOf_snap]; exact Wk.refl _

/-! ## With memory of their own -/
/-- The marks that follow on k, as long as these. -/
def marksL : Int → List (List Int) → List (List Int)
  | _, [] => []
  | k, r :: rs => marks k r.length :: marksL (k + r.length) rs
theorem marksL_len (k : Int) (rs : List (List Int)) : (marksL k rs).length = rs.length := by
  induction rs generalizing k with
  | nil => rfl
  | cons r rs ih => simp [marksL, ih]
theorem marksL_snoc (r : List Int) : ∀ (k : Int) (rs : List (List Int)), marksL k (rs ++ [r]) = marksL k rs ++ [marks (k + sumL rs) r.length]
  | k, [] => by simp [marksL, sumL]
  | k, x :: rs => by
    simp only [List.cons_append, marksL, marksL_snoc r _ rs]
    congr 4
    simp [sumL]; omega
theorem marksL_take : ∀ (k : Int) (rs : List (List Int)) (j : Nat), (marksL k rs).take j = marksL k (rs.take j)
  | _, [], j => by simp [marksL]
  | _, _ :: _, 0 => rfl
  | k, r :: rs, j + 1 => by simp [marksL, marksL_take]
/-! ## In the laws: with other memory about -/
end Go.AG
