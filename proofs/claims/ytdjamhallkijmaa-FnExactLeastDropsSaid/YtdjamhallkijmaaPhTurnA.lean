/- Graphs whose differences are turned: what the program's and the reference's functions give. No statement is made here. -/
import Derived.Test.YtdjamhallkijmaaPhC
namespace Go.AG
open Go.Proofs Go.Proofs.Ytdjamhallkijmaa
set_option linter.unusedSimpArgs false
set_option linter.unusedVariables false
set_option maxRecDepth 4000
def Ph.turn1 (x : Ph) (p : List Int) (t : T) : T := ⟨t.f, t.t, (t.s + p.getD t.t.toNat 0 - p.getD t.f.toNat 0) % x.m⟩

noncomputable def orcT : List (Nat × (List AV → Option (Prop × AV))) := orcF
theorem orcT_p : Pure Try.prog (lk orcT) := orcF_p
@[simp] theorem orcT_l (b : Bool) (g : FuncId) (l : List AV) : lk orcT b g l = lk orcF b g l := nr rfl
end Go.AG
