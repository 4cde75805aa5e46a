/- Rounds one edge after the other: what the program's and the reference's functions give. No statement is made here. -/
import Derived.Test.YtpndpligcphonaaCtA
import Derived.Test.YtpndpligcphonaaAGLists2
namespace Go.AG
open Go.Proofs Go.Proofs.Ytpndpligcphonaa
set_option linter.unusedSimpArgs false
set_option linter.unusedVariables false
set_option maxRecDepth 4000
theorem colds_T (l : List T) : colds (l.map T.av) = true := by
  induction l with
  | nil => rfl
  | cons a l ih => simp only [List.map_cons, colds, ih, T.cold]; rfl
/-- Slices that are only appended to, each in a block of its own. -/
inductive GrowLs : List AV → List (List Int) → Heap → Prop
  | nil : GrowLs [] [] []
  | cons {u : AV} {r : List Int} {h1 : Heap} {us : List AV} {rs : List (List Int)} {h2 : Heap} (g : Grow 1 u (r.map iv) h1) (os : GrowLs us rs h2) (d : ∀ i ∈ dom h1, i ∉ dom h2) : GrowLs (u :: us) (r :: rs) (h1 ++ h2)
theorem GrowLs.own {us : List AV} {rs : List (List Int)} {hp : Heap} (h : GrowLs us rs hp) : OwnLs us rs hp := by
  induction h with
  | nil => exact .nil
  | cons g os d ih => exact .cons g.own ih d
theorem GrowLs.append {us : List AV} {rs : List (List Int)} {hp : Heap} (h : GrowLs us rs hp) : ∀ {us' : List AV} {rs' : List (List Int)} {hp' : Heap}, GrowLs us' rs' hp' → (∀ i ∈ dom hp, i ∉ dom hp') → GrowLs (us ++ us') (rs ++ rs') (hp ++ hp') := by
  induction h with
  | nil => intro us' rs' hp' h' _; exact h'
  | cons o os d ih =>
    intro us' rs' hp' h' hd
    rw [List.append_assoc]
    rw [dom_append] at hd
    refine .cons o (ih h' fun i hi => hd i (List.mem_append_right _ hi)) fun i hi => ?_
    rw [dom_append]
    intro hm
    rcases List.mem_append.1 hm with hm | hm
    · exact d i hi hm
    · exact hd i (List.mem_append_left _ hi) hm
theorem GrowLs.split {us : List AV} {rs : List (List Int)} {hp : Heap} (h : GrowLs us rs hp) : ∀ {i : Nat} (hi : i < rs.length), ∃ (hu : i < us.length) (h1 g h2 : Heap), hp = h1 ++ (g ++ h2) ∧ GrowLs (us.take i) (rs.take i) h1 ∧ Grow 1 us[i] (rs[i].map iv) g ∧ GrowLs (us.drop (i + 1)) (rs.drop (i + 1)) h2 := by
  induction h with
  | nil => intro i hi; simp at hi
  | @cons u r h1 us rs h2 o os d ih =>
    intro i hi
    cases i with
    | zero => exact ⟨by simp, [], h1, h2, rfl, .nil, o, os⟩
    | succ i =>
      obtain ⟨hu, a, g, b, e, o1, o2, o3⟩ := ih (i := i) (by simpa using hi)
      subst e
      refine ⟨by simpa using hu, h1 ++ a, g, b, by simp, ?_, o2, o3⟩
      exact .cons o o1 fun j hj hm => d j hj (by rw [dom_append]; exact List.mem_append_left _ hm)
theorem GrowLs.put {us : List AV} {rs : List (List Int)} {i : Nat} (hu : i < us.length) (hi : i < rs.length) {h1 g' h2 : Heap} {u' : AV} {r' : List Int} (o1 : GrowLs (us.take i) (rs.take i) h1) (o2 : Grow 1 u' (r'.map iv) g') (o3 : GrowLs (us.drop (i + 1)) (rs.drop (i + 1)) h2) (d1 : ∀ j ∈ dom h1, j ∉ dom h2) (d2 : ∀ j ∈ dom g', j ∉ dom (h1 ++ h2)) : GrowLs (us.set i u') (rs.set i r') (h1 ++ (g' ++ h2)) := by
  rw [List.set_eq_take_append_cons_drop, if_pos hu, List.set_eq_take_append_cons_drop, if_pos hi]
  refine o1.append (.cons o2 o3 fun j hj hm => d2 j hj (by rw [dom_append]; exact List.mem_append_right _ hm)) fun j hj hm => ?_
  rw [dom_append] at hm
  rcases List.mem_append.1 hm with hm | hm
  · exact d2 j hm (by rw [dom_append]; exact List.mem_append_left _ hj)
  · exact d1 j hj hm
theorem OwnLL.of_grow' {w : AV} {us : List AV} {rs : List (List Int)} {hp hi : Heap} (g : Grow 1 w us hp) (o : OwnLs us rs hi) (d : ∀ i ∈ dom hp, i ∉ dom hi) : OwnLL w rs (hp ++ hi) := by
  cases g with
  | nil => cases o; exact .nil
  | emp => cases o; exact .emp
  | sl id us n hn =>
    subst hn
    have := OwnLL.sl id us.length none [] (by rw [o.len]) rfl o (d id (by simp [dom]))
    simpa using this
/-- The first place where q holds. -/
def idxL (q : List Int → Bool) (l : List (List Int)) : Int := match l.findIdx? q with
  | some i => i
  | none => -1
/-- An edge to the first round in which it can be. -/
def Gr.gStep (x : Gr) (rs : List (List Int)) (k : Int) : List (List Int) :=
  let at_ := rs.findIdx fun r => decide (x.free r k)
  if at_ < rs.length then rs.set at_ (rs.getD at_ [] ++ [k]) else rs ++ [[k]]
def Gr.greedy (x : Gr) : Nat → List (List Int)
  | 0 => []
  | n + 1 => x.gStep (x.greedy n) n
theorem sumL_set (rs : List (List Int)) (i : Nat) (hi : i < rs.length) (k : Int) : sumL (rs.set i (rs.getD i [] ++ [k])) = sumL rs + 1 := by
  have e : rs.getD i [] = rs[i] := by simp [hi]
  rw [e, List.set_eq_take_append_cons_drop, if_pos hi]
  conv => rhs; rw [← List.take_append_drop i rs, List.drop_eq_getElem_cons hi]
  unfold sumL
  simp only [List.map_append, List.sum_append, List.map_cons, List.sum_cons, List.length_append, List.length_cons, List.length_nil]
  omega
theorem Gr.greedy_inv (x : Gr) : ∀ n, (x.greedy n).length ≤ n ∧ sumL (x.greedy n) = n ∧ ∀ r ∈ x.greedy n, ∀ a ∈ r, 0 ≤ a ∧ a < n
  | 0 => ⟨Nat.le_refl _, rfl, by simp [Gr.greedy]⟩
  | n + 1 => by
    obtain ⟨h1, h2, h3⟩ := x.greedy_inv n
    unfold Gr.greedy Gr.gStep
    simp only
    split
    · rename_i hlt
      refine ⟨by simp; omega, by rw [sumL_set _ _ hlt, h2], fun r hr a ha => ?_⟩
      rcases List.mem_or_eq_of_mem_set hr with hr | rfl
      · have := h3 r hr a ha; omega
      · rw [List.mem_append, List.mem_singleton] at ha
        rcases ha with ha | rfl
        · have e : (x.greedy n).getD ((x.greedy n).findIdx fun r => decide (x.free r n)) [] = (x.greedy n)[(x.greedy n).findIdx fun r => decide (x.free r n)] := by simp [hlt]
          rw [e] at ha
          have := h3 _ (List.getElem_mem hlt) a ha; omega
        · omega
    · refine ⟨by simp; omega, by simp [sumL] at h2 ⊢; omega, fun r hr a ha => ?_⟩
      rw [List.mem_append, List.mem_singleton] at hr
      rcases hr with hr | rfl
      · have := h3 r hr a ha; omega
      · simp at ha; omega
theorem idxL_at (q : List Int → Bool) (l : List (List Int)) : (l.findIdx q < l.length ∧ idxL q l = l.findIdx q) ∨ (l.findIdx q = l.length ∧ idxL q l = -1) := by
  unfold idxL
  cases h : l.findIdx? q with
  | none =>
    right
    rw [List.findIdx?_eq_none_iff] at h
    exact ⟨List.findIdx_eq_length.2 fun a ha => by simpa using h a ha, rfl⟩
  | some i =>
    left
    obtain ⟨hi, hq, hb⟩ := List.findIdx?_eq_some_iff_getElem.1 h
    have : l.findIdx q = i := (List.findIdx_eq hi).2 ⟨hq, fun j hj => by simpa using hb j hj⟩
    exact ⟨by omega, by rw [this]⟩
noncomputable def Gr.gCode (x : Gr) : Int := if x.valid then 0 else 1
noncomputable def Gr.gL (x : Gr) : List (List Int) := if x.valid then x.greedy x.ts.length else []
theorem Gr.gL_tot (x : Gr) : ssTot x.gL ≤ 48 := by
  unfold Gr.gL
  split
  · rename_i h
    obtain ⟨h1, h2, _⟩ := x.greedy_inv x.ts.length
    have := h.2.2.2
    unfold ssTot; omega
  · simp [ssTot, sumL]
end Go.AG
