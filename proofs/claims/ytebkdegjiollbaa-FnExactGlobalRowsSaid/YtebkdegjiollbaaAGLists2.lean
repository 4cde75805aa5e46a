/- Our own small layer: blocks in another order. No statement about the program is made here. -/
import Derived.Test.YtebkdegjiollbaaAGLists
namespace Go.AG
theorem ACalls.permR {P : Program} {g : FuncId} {args : List AV} {h : Heap} {R : AV → Heap → Prop} (H : ACalls P g args h fun v h'' => (dom h'').Nodup → ∃ h', h''.Perm h' ∧ R v h') : ACalls P g args h R := by
  refine ACalls.sub (H.monoN fun v h'' hr nd => ?_)
  obtain ⟨h', p, r⟩ := hr nd
  exact ⟨h', fun q hq => p.mem_iff.2 hq, nodup_perm p, r⟩
theorem Grow.ne {sz : Nat} {w : AV} {l : List AV} {hp : Heap} (g : Grow sz w l hp) (h : l ≠ []) : ∃ id, w = .sl id sz 0 l.length none ∧ hp = [(id, ⟨sz, l⟩)] := by
  cases g with
  | nil => exact absurd rfl h
  | emp => exact absurd rfl h
  | sl id l n hn => subst hn; exact ⟨id, rfl, rfl⟩
/-- Blocks that are not needed any more. -/
theorem Post.dropAll {R : AV → Heap → Prop} {h : Heap} {L : Heap} {v : AV} (hv : cold v = true) (hk : Post R v h) : Post R v (L ++ h) :=
  Post.lend (by rwa [lend1_cold L hv])
theorem Run2.freezeS {C : Cx} {sk : List AItem} {e e' : Env} {h h' : Heap} {R : AV → Heap → Prop} (id : Nat) {b : Blk} (hb : hget h id = some b) (hd : dom h' = dom (hdel h id)) (hs : ∀ p ∈ h', p ∈ hdel h id ∨ ∃ c, (p.1, c) ∈ hdel h id ∧ p.2 = ⟨c.sz, fzs id b c.l⟩)
    (he : ∀ t, eget e' t = eget e t ∨ eget e' t = fz id b (eget e t)) (g : Run2 C sk e' h' R) : Run2 C sk e h R := by
  unfold Run2 at g ⊢
  intro k tmps w cs w0 D0 hk S
  obtain ⟨H', Ev⟩ := S.heap.del id
  have hd2 : Held w (dom (hdel h id)) id b := S.heap.held hb (fun _ => dom_hdel_sub) (hdel_out S.heap.nd)
  refine g k tmps w cs w0 D0 hk ⟨fun t => ?_, S.size, ⟨by rw [hd]; exact H'.nd, fun p hp => ?_, by rw [hd]; exact H'.fix⟩, by rw [hd]; exact S.ev.trans Ev⟩
  · have := Rep.mono Ev.keeps _ _ (S.env t)
    rw [hd]
    rcases he t with h1 | h1
    · rw [h1]; exact this
    · rw [h1]; exact Rep.fz hd2 _ _ this
  · rw [hd]
    rcases hs p hp with h1 | ⟨c, h1, h2⟩
    · exact H'.all p h1
    · obtain ⟨cs', el, e1, hE⟩ := H'.all _ h1
      refine ⟨cs', el, e1, ?_⟩
      rw [h2]
      exact Elems.fz hd2 _ _ _ _ hE
theorem Post.dmid {R : AV → Heap → Prop} {v : AV} {i : Nat} {b : Blk} {g r : Heap} (hi : i ∉ dom g) (k : Post R v (g ++ r)) : Post R v (g ++ (i, b) :: r) :=
  .drop i (by rw [hdel_app hi]; simpa [hdel] using k)
end Go.AG
