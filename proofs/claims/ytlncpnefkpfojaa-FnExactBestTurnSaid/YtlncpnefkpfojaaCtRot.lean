/- Rounds that begin with another one. No statement is made here. -/
import Derived.Test.YtlncpnefkpfojaaCtR2
namespace Go.AG
/-- Rounds that begin with another one. -/
def rotL (rs : List (List Int)) (k : Nat) : List (List Int) := rs.drop k ++ rs.take k
@[simp] theorem rotL_length (rs : List (List Int)) (k : Nat) : (rotL rs k).length = rs.length := by simp [rotL]; omega
theorem rotL_perm (rs : List (List Int)) (k : Nat) : (rotL rs k).Perm rs := by
  have : (rs.drop k ++ rs.take k).Perm (rs.take k ++ rs.drop k) := List.perm_append_comm
  rwa [List.take_append_drop] at this
theorem rotL_zero (rs : List (List Int)) : rotL rs 0 = rs := by simp [rotL]
theorem rotL_at {rs : List (List Int)} {k : Nat} (hk : k < rs.length) (t : Nat) : (rotL rs k).getD (t % rs.length) [] = rs.getD ((k + t) % rs.length) [] := by
  have hL : 0 < rs.length := by omega
  have hi : t % rs.length < rs.length := Nat.mod_lt _ hL
  rw [Nat.add_mod, Nat.mod_eq_of_lt hk]
  generalize t % rs.length = i at *
  unfold rotL
  rw [List.getD_eq_getElem?_getD, List.getD_eq_getElem?_getD]
  congr 1
  by_cases h : k + i < rs.length
  · rw [Nat.mod_eq_of_lt h, List.getElem?_append_left (by simp; omega), List.getElem?_drop]
  · rw [List.getElem?_append_right (by simp; omega), List.length_drop, Nat.mod_eq_sub_mod (by omega), Nat.mod_eq_of_lt (by omega), List.getElem?_take_of_lt (by omega)]
    congr 1
    omega
theorem Gr.rsOk.rot {x : Gr} {rs : List (List Int)} (h : x.rsOk rs) (k : Nat) : x.rsOk (rotL rs k) := by
  have p := rotL_perm rs k
  have pf : (rotL rs k).flatten.Perm rs.flatten := p.flatten
  exact ⟨fun r hr => h.1 r (p.mem_iff.1 hr), pf.nodup_iff.2 h.2.1, by rw [pf.length_eq]; exact h.2.2⟩
end Go.AG
