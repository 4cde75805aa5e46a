/- A complex in order, copied: the program and the reference give the same again. No statement is made here. -/
import Derived.Test.YtebkdegjiollbaaFxG
import Derived.Test.YtebkdegjiollbaaFxU
import Derived.Test.YtebkdegjiollbaaFxHz
namespace Go.AG
open Go.Proofs Go.Proofs.Ytebkdegjiollbaa
set_option linter.unusedSimpArgs false
set_option linter.unusedVariables false
set_option maxRecDepth 4000
theorem OwnLs.isLs {us : List AV} {rs : List (List Int)} {hp : Heap} (h : OwnLs us rs hp) : All2 (IsL iv 1) (us.map (lend1 hp)) rs := h.lentIn (fun p hp => hp) h.nodup
theorem All2.at {α β : Type} {p : α → β → Prop} {xs : List α} {ys : List β} (h : All2 p xs ys) : ∀ {i : Nat} (hx : i < xs.length) (hy : i < ys.length), p xs[i] ys[i] := by
  induction h with
  | nil => intro i hx; simp at hx
  | cons h1 _ ih =>
    intro i hx hy
    cases i with
    | zero => exact h1
    | succ i => exact ih (by simpa using hx) (by simpa using hy)
theorem OwnLs.isAt {us : List AV} {rs : List (List Int)} {hp : Heap} (h : OwnLs us rs hp) {i : Nat} (hu : i < us.length) (hr : i < rs.length) : IsL iv 1 (lend1 hp us[i]) rs[i] := by
  have := h.isLs.at (i := i) (by simpa using hu) hr
  simpa using this
theorem srt_of {id : Nat} {us ex : List AV} {rs : List (List Int)} {hi : Heap} (tl : Heap) (o : OwnLs us rs hi) (h48 : rs.length ≤ 48) (hs : sortS rs) (ht : ssTot rs ≤ 1048576) : Srt Try.prog id us ex 104 ((id, ⟨1, us ++ ex⟩) :: (hi ++ tl)) := by
  have hl := o.len
  refine ⟨by simp [hget], by omega, fun i h => o.cell _ (List.getElem_mem h), fun i j hi' hj hji => ?_⟩
  have h1 : i < rs.length := by omega
  have h2 : j < rs.length := by omega
  have hr := (fit_of_tot ht).2 _ (List.getElem_mem h1)
  refine ⟨cmpS rs[i] rs[j], ?_, ?_⟩
  · have := hs.lt hji h1
    have := cmpS_total rs[i] rs[j]
    omega
  · refine ACalls.reads hi (fun p hp => List.mem_cons_of_mem _ (List.mem_append_left _ hp)) ?_ rfl
    rw [lend_cons, lend_cons, lend_nil']
    exact ACalls.wk (.cons (o.isAt hi' h1).wk (.cons (o.isAt hj h2).wk .nil)) (cmpS_s rs[i] rs[j] [] hr)
theorem cmp_of {id : Nat} {us ex : List AV} {rs : List (List Int)} {hi : Heap} (tl : Heap) (o : OwnLs us rs hi) (hs : sortS rs) (ht : ssTot rs ≤ 1048576) : Cmp Try.prog id us ex 190 ((id, ⟨1, us ++ ex⟩) :: (hi ++ tl)) := by
  have hl := o.len
  have hf := fit_of_tot ht
  refine ⟨by simp [hget], by have := hf.1; omega, fun i h => o.cell _ (List.getElem_mem h), fun i h => ?_⟩
  have h1 : i + 1 < rs.length := by omega
  have h2 : i < rs.length := by omega
  have hr := hf.2 _ (List.getElem_mem h1)
  have hne : decide (rs[i + 1] = rs[i]) = false := by
    rw [decide_eq_false_iff_not]
    intro e
    have := hs i h1
    rw [e] at this
    have := (cmpS_zero rs[i] rs[i]).2 rfl
    omega
  have hu : i < us.length := by omega
  refine ACalls.reads hi (fun p hp => List.mem_cons_of_mem _ (List.mem_append_left _ hp)) ?_ rfl
  rw [lend_cons, lend_cons, lend_nil']
  have := equal_s rs[i + 1] rs[i] [] hr
  rw [hne] at this
  exact ACalls.wk (.cons (o.isAt h h1).wk (.cons (o.isAt hu h2).wk .nil)) this
theorem Grow.lentWk {sz : Nat} {w : AV} {l : List AV} {hp : Heap} (G : Grow sz w l hp) : Wk (lend1 hp w) (.snap sz l) := by
  cases G with
  | nil => exact Wk.nil sz
  | emp => exact Wk.emp sz
  | sl id l n hn =>
    subst hn
    have : lend1 [(id, (⟨sz, l⟩ : Blk))] (.sl id sz 0 l.length none) = .snap sz l := by simp [lend1, fz]
    rw [this]
    exact Wk.refl _
end Go.AG
