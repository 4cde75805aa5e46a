/- Bytes in our own layer. No statement about the program is made here. -/
import Derived.Test.YtdjamhallkijmaaAGLists2
namespace Go.AG
open Go.RowKit
set_option linter.unusedVariables false
set_option linter.unusedSimpArgs false
/-- Bytes as values. -/
def bv (b : UInt8) : AV := .int .u8 b.toNat
@[simp] theorem bytesAV_bv (l : List UInt8) : bytesAV (l.map bv) = some l := by
  induction l with
  | nil => rfl
  | cons b l ih =>
    simp only [List.map_cons, bv, bytesAV]
    rw [ih]
    simp
theorem bv_cold (l : List UInt8) : colds (l.map bv) = true := by
  induction l with
  | nil => rfl
  | cons a l ih => simp only [List.map_cons, colds, ih]; rfl
theorem bv_rng (b : UInt8) : 0 ≤ (b.toNat : Int) ∧ (b.toNat : Int) ≤ 255 := by have := b.toNat_lt; omega
end Go.AG
