/- Bytes in our own layer. No statement about the program is made here. -/
import Derived.Test.YtpndpligcphonaaAGLists2
namespace Go.AG
open Go.RowKit
set_option linter.unusedVariables false
set_option linter.unusedSimpArgs false
/-- Bytes as values. -/
def bv (b : UInt8) : AV := .int .u8 b.toNat
@[simp] theorem bytesAV_bv (l : List UInt8) : bytesAV (l.map bv) = some l := by
  induction l with
  | nil => rfl
  | cons b l ih =>
    simp only [List.map_cons, bv, bytesAV]
    rw [ih]
    simp
theorem bv_cold (l : List UInt8) : colds (l.map bv) = true := by
  induction l with
  | nil => rfl
  | cons a l ih => simp only [List.map_cons, colds, ih]; rfl
theorem bv_rng (b : UInt8) : 0 ≤ (b.toNat : Int) ∧ (b.toNat : Int) ≤ 255 := by have := b.toNat_lt; omega
theorem bv_inj {a b : UInt8} (h : bv a = bv b) : a = b := by
  unfold bv at h
  injection h with _ h
  exact UInt8.toNat_inj.1 (Int.ofNat.inj h)
@[simp] theorem bvs_inj (l m : List UInt8) : (l.map bv = m.map bv) ↔ l = m := ⟨fun h => List.map_inj_right (fun _ _ => bv_inj) |>.1 h, fun h => by rw [h]⟩
end Go.AG
