/- Laws with bytes as arguments. No statement is made here. -/
import Derived.Test.YtdjamhallkijmaaIntS
import Derived.Test.YtdjamhallkijmaaAGByte
namespace Go.AG
open Go.Proofs Go.Proofs.Ytdjamhallkijmaa
set_option linter.unusedSimpArgs false
set_option linter.unusedVariables false
set_option maxRecDepth 4000
theorem Byte_of_shape {x : AV} (h : shV (.int .u8) x) : ∃ b : UInt8, x = bv b := by
  obtain ⟨h1, n, e, r⟩ := h
  have hr : 0 ≤ n ∧ n ≤ 255 := by simpa [IntKind.min, IntKind.max, IntKind.signed, IntKind.bits] using r
  have key : bv (UInt8.ofNat n.toNat) = .int .u8 n := by
    unfold bv
    rw [UInt8.toNat_ofNat']
    congr 1
    omega
  cases x <;> simp [isAgg, Ty.isS, cellsOf] at h1 e
  exact ⟨UInt8.ofNat n.toNat, by rw [key, e.1, e.2]⟩
theorem Bytes_list : ∀ {xs : List AV}, (∀ x ∈ xs, isAgg x = (Ty.int .u8).isS ∧ shC (.int .u8) (cellsOf x)) → ∃ l : List UInt8, xs = l.map bv
  | [], _ => ⟨[], rfl⟩
  | x :: xs, h => by
    obtain ⟨b, rfl⟩ := Byte_of_shape (h x (List.mem_cons_self ..))
    obtain ⟨l, rfl⟩ := Bytes_list (xs := xs) fun y hy => h y (List.mem_cons_of_mem _ hy)
    exact ⟨b :: l, rfl⟩
def wfY (l : List UInt8) : Prop := l.length ≤ 9223372036854775807
theorem Bytes_of_shape {x : AV} (h : shV (.slice (.int .u8)) x) : ∃ l : List UInt8, x = .snap 1 (l.map bv) ∧ wfY l := by
  obtain ⟨h1, xs, e1, hlen, r3⟩ := h
  have hm : maxLen ≤ 9223372036854775807 := by decide
  obtain ⟨l, rfl⟩ := Bytes_list r3
  cases x <;> simp [isAgg, Ty.isS, cellsOf] at h1 e1
  rw [e1.1, e1.2]
  exact ⟨l, rfl, by simp only [List.length_map] at hlen; exact Nat.le_trans hlen hm⟩
end Go.AG
