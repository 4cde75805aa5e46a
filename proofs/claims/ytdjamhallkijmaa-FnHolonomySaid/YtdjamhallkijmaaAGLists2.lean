/- Our own small layer: blocks in another order. No statement about the program is made here. -/
import Derived.Test.YtdjamhallkijmaaAGLists
namespace Go.AG
theorem ACalls.permR {P : Program} {g : FuncId} {args : List AV} {h : Heap} {R : AV → Heap → Prop} (H : ACalls P g args h fun v h'' => (dom h'').Nodup → ∃ h', h''.Perm h' ∧ R v h') : ACalls P g args h R := by
  refine ACalls.sub (H.monoN fun v h'' hr nd => ?_)
  obtain ⟨h', p, r⟩ := hr nd
  exact ⟨h', fun q hq => p.mem_iff.2 hq, nodup_perm p, r⟩
theorem Grow.ne {sz : Nat} {w : AV} {l : List AV} {hp : Heap} (g : Grow sz w l hp) (h : l ≠ []) : ∃ id, w = .sl id sz 0 l.length none ∧ hp = [(id, ⟨sz, l⟩)] := by
  cases g with
  | nil => exact absurd rfl h
  | emp => exact absurd rfl h
  | sl id l n hn => subst hn; exact ⟨id, rfl, rfl⟩
/-- Blocks that are not needed any more. -/
theorem Post.dropAll {R : AV → Heap → Prop} {h : Heap} {L : Heap} {v : AV} (hv : cold v = true) (hk : Post R v h) : Post R v (L ++ h) :=
  Post.lend (by rwa [lend1_cold L hv])
end Go.AG
