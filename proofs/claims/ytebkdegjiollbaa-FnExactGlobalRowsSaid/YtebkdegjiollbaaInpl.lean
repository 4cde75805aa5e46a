/- A list that is changed in place. No statement is made here. -/
import Derived.Test.YtebkdegjiollbaaAGInts
namespace Go.AG
/-- A list that is changed in place: the first v are new. -/
def inpl {α : Type} (l l' : List α) (v : Nat) : List α := l'.take v ++ l.drop v
section
variable {α β : Type} {l l' : List α} {v : Nat}
theorem inpl_len (h : l'.length = l.length) : (inpl l l' v).length = l.length := by simp [inpl]; omega
@[simp] theorem inpl_zero : inpl l l' 0 = l := by simp [inpl]
theorem inpl_end (h : l'.length = l.length) : inpl l l' l.length = l' := by simp [inpl, ← h]
theorem inpl_get (h : l'.length = l.length) (hv : v < l.length) (h2 : v < (inpl l l' v).length) : (inpl l l' v)[v] = l[v] := by
  simp only [inpl]
  rw [List.getElem_append_right (by simp; omega)]
  simp [Nat.min_eq_left (show v ≤ l'.length by omega)]
theorem inpl_old (h : l'.length = l.length) {j : Nat} (hj : j < v) (hv : v < l.length) (h2 : j < (inpl l l' v).length) : (inpl l l' v)[j] = l'[j] := by
  simp only [inpl]
  rw [List.getElem_append_left (by simp; omega)]
  simp
theorem inpl_set (h : l'.length = l.length) (hv : v < l.length) : (inpl l l' v).set v (l'[v]'(h ▸ hv)) = inpl l l' (v + 1) := by
  have h1 : (l'.take v).length = v := by simp; omega
  unfold inpl
  rw [List.take_succ_eq_append_getElem (by omega), List.set_append_right _ _ (by omega), h1, Nat.sub_self, List.drop_eq_getElem_cons hv]
  simp only [List.set_cons_zero, List.append_assoc, List.cons_append, List.nil_append]
theorem inpl_keep (h : l'.length = l.length) (hv : v < l.length) (he : l'[v]'(h ▸ hv) = l[v]) : inpl l l' v = inpl l l' (v + 1) := by
  rw [← inpl_set h hv, he, ← inpl_get h hv (by rw [inpl_len h]; exact hv), List.set_getElem_self]
theorem inpl_map (f : α → β) : (inpl l l' v).map f = inpl (l.map f) (l'.map f) v := by simp [inpl]
end
theorem OwnL.split {α : Type} {enc : α → AV} {sz : Nat} {v : AV} {l : List α} {hp : Heap} (h : OwnL enc sz v l hp) : ((v = .nilsl ∨ v = .emp) ∧ l = [] ∧ hp = []) ∨ ∃ id cap ex, v = .sl id sz 0 l.length cap ∧ hp = [(id, ⟨sz, l.map enc ++ ex⟩)] ∧ ex.all Go.AG.own = true := by
  cases h with
  | nil => exact .inl ⟨.inl rfl, rfl, rfl⟩
  | emp => exact .inl ⟨.inr rfl, rfl, rfl⟩
  | sl id cap ex hex => exact .inr ⟨id, cap, ex, rfl, rfl, hex⟩
theorem OwnL.len {α : Type} {enc : α → AV} {sz : Nat} {v : AV} {l : List α} {hp : Heap} (h : OwnL enc sz v l hp) : lenR v = .val (.int .i64 l.length) := by
  cases h <;> simp
end Go.AG
