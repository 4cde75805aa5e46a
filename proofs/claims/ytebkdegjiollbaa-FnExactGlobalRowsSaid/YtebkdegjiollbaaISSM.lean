/- Marks on slices of slices, twice. No statement is made here. -/
import Derived.Test.YtebkdegjiollbaaISS
namespace Go.AG
@[simp] theorem sumL_marksL : ∀ (k : Int) (rs : List (List Int)), sumL (marksL k rs) = sumL rs
  | _, [] => rfl
  | k, r :: rs => by
    have := sumL_marksL (k + r.length) rs
    unfold sumL at this ⊢
    simp [marksL, this]
@[simp] theorem ssTot_marksL (k : Int) (rs : List (List Int)) : ssTot (marksL k rs) = ssTot rs := by simp [ssTot, marksL_len]
@[simp] theorem marksL_marksL : ∀ (k : Int) (rs : List (List Int)), marksL k (marksL k rs) = marksL k rs
  | _, [] => rfl
  | k, r :: rs => by
    simp [marksL, marksL_marksL]
end Go.AG
