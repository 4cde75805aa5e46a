/- Bars sorted by the library's slices.SortFunc: what the kit's contract says, in the words of our own layer. No statement is made here. -/
import Derived.Test.YteheocdkjmfgdaaBrVal
import Derived.Test.YteheocdkjmfgdaaAGSort
import Derived.Shelf.SlSortCmp.NoneTotal
namespace Go.AG
open Go.RowKit Go.Sort Go.Shelf Go.Proofs
set_option linter.unusedVariables false
set_option linter.unusedSimpArgs false
def encT (t : T) : List Value := [.int .i64 t.f, .int .i64 t.t, .int .i64 t.s]
theorem HRel.bars {w : World} {h : Heap} (H : HRel w h) {b : Nat} {l : List T} (hb : hget h b = some ⟨3, l.map T.av⟩) : HoldsK encT 3 w b 0 l.toArray := by
  obtain ⟨c0, el, hg, hE⟩ := H.all _ (hget_mem hb)
  simp only at hg hE
  rw [Elems_iff] at hE
  intro j hj
  have hj' : j < l.length * 3 := by simpa using hj
  have hi : j / 3 < l.length := by omega
  have h1 := (hE (j / 3) (T.av l[j / 3]) (by simp [hi])).2
  have hcells : cellsOf (T.av l[j / 3]) = [.int .i64 l[j / 3].f, .int .i64 l[j / 3].t, .int .i64 l[j / 3].s] := rfl
  rw [hcells, Cells_iff] at h1
  refine ⟨?_, by simp [World.frozen?, hg]⟩
  rw [get_flatK _ _ _ _ (by simpa using hj')]
  have hget : l.toArray[j / 3]! = l[j / 3] := by simp [hi]
  rw [hget]
  rcases (show j % 3 = 0 ∨ j % 3 = 1 ∨ j % 3 = 2 by omega) with hc | hc | hc
  · obtain ⟨v, g1, g2, g3⟩ := h1 0 (.int .i64 l[j / 3].f) rfl
    have g3' : v = .int .i64 l[j / 3].f := g3
    rw [show 0 + j = 0 + j / 3 * 3 + 0 by omega, g1, g3', hc]; rfl
  · obtain ⟨v, g1, g2, g3⟩ := h1 1 (.int .i64 l[j / 3].t) rfl
    have g3' : v = .int .i64 l[j / 3].t := g3
    rw [show 0 + j = 0 + j / 3 * 3 + 1 by omega, g1, g3', hc]; rfl
  · obtain ⟨v, g1, g2, g3⟩ := h1 2 (.int .i64 l[j / 3].s) rfl
    have g3' : v = .int .i64 l[j / 3].s := g3
    rw [show 0 + j = 0 + j / 3 * 3 + 2 by omega, g1, g3', hc]; rfl
theorem HRel.putBars {w : World} {h : Heap} (H : HRel w h) {b : Nat} {l l' : List T} (hb : hget h b = some ⟨3, l.map T.av⟩) (hl : l'.length = l.length) :
    HRel (putRowK encT 3 w b 0 l'.toArray) (hset h b ⟨3, l'.map T.av⟩) ∧ Evolve w (dom h) (putRowK encT 3 w b 0 l'.toArray) (dom (hset h b ⟨3, l'.map T.av⟩)) := by
  have hH := H.bars hb
  have hH' := holdsK_putRowK encT 3 w b 0 l.toArray l'.toArray hH (by simp [hl])
  refine H.write (hget_dom hb) (putRow_size ..) (fun b' hne => putRow_block _ _ _ _ _ hne) (fun c' el' fz' hc => ⟨_, (putRow_row _ _ _ _ _ hc).1, (putRow_row _root_.id w b 0 (flatK encT 3 l'.toArray) hc).2⟩) (fun K => ?_) rfl rfl rfl
  rw [Elems_iff]
  intro i y hy
  have hi : i < l'.length := by
    have := (List.getElem?_eq_some_iff.1 hy).1
    simpa using this
  have hy' : y = T.av l'[i] := by simpa [hi] using hy.symm
  subst hy'
  refine ⟨rfl, ?_⟩
  have hcells : cellsOf (T.av l'[i]) = [.int .i64 l'[i].f, .int .i64 l'[i].t, .int .i64 l'[i].s] := rfl
  rw [hcells, Cells_iff]
  intro j x hx
  have hget : l'.toArray[i]! = l'[i] := by simp [hi]
  match j, hx with
  | 0, hx =>
    cases hx
    have := (hH'.cell (i := i) (c := 0) (by simpa using hi) (by omega)).1
    rw [hget] at this
    exact ⟨_, this, rfl, rfl⟩
  | 1, hx =>
    cases hx
    have := (hH'.cell (i := i) (c := 1) (by simpa using hi) (by omega)).1
    rw [hget] at this
    exact ⟨_, this, rfl, rfl⟩
  | 2, hx =>
    cases hx
    have := (hH'.cell (i := i) (c := 2) (by simpa using hi) (by omega)).1
    rw [hget] at this
    exact ⟨_, this, rfl, rfl⟩
  | j + 3, hx => simp at hx
theorem world_grow {W w' : World} (E : Evolve W [] w' []) : ∃ q os, w' = grow (W.drewN q) os := by
  have hd := E.drawn rfl
  have h1 : w'.heap = W.heap ++ w'.heap.extract W.heap.size w'.heap.size := by
    apply Array.ext_getElem?
    intro i
    have hs := E.keeps.size
    by_cases hi : i < W.heap.size
    · rw [E.keeps.block i hi (by simp), Array.getElem?_append_left hi]
    · rw [Array.getElem?_append_right (by omega), Array.getElem?_extract]
      by_cases h2 : i < w'.heap.size
      · rw [if_pos (by omega), show W.heap.size + (i - W.heap.size) = i by omega]
      · rw [if_neg (by omega), Array.getElem?_eq_none (by omega)]
  refine ⟨w'.drawn - W.drawn, w'.heap.extract W.heap.size w'.heap.size, ?_⟩
  have e1 := E.os
  have e2 := E.tape
  have e3 := E.output
  obtain ⟨a1, a2, a3, a4, a5⟩ := w'
  obtain ⟨b1, b2, b3, b4, b5⟩ := W
  simp only at e1 e2 e3 hd h1
  subst e1 e2 e3
  simp only [grow, World.drewN, World.mk.injEq, true_and, and_true]
  exact ⟨h1, by omega⟩
theorem ltB (x y : T) : ltOf cmpB x y = decide (x.lt y) := by unfold ltOf; simp only [cmpB_neg]
theorem swoB : SWO (ltOf cmpB) where
  irrefl x := by rw [ltB]; simp [T.lt]
  trans x y z h1 h2 := by
    rw [ltB, decide_eq_true_eq] at h1 h2 ⊢
    unfold T.lt at *
    omega
  ntrans x y z h1 h2 := by
    rw [ltB, decide_eq_false_iff_not] at h1 h2 ⊢
    unfold T.lt at *
    omega
theorem sortBars_of {P : Program} {g gc : FuncId} (hok : CallOk P g) (hC : ∀ x y : T, ACalls P gc [x.av, y.av] [] fun v h' => v = .int .i64 (cmpB x y) ∧ h' = []) (hz : laidV = [])
    (HC : ∀ (blk off cap : Nat) (d : Array T) (w : World), CmpLays P gc #[] encT 3 cmpB blk off d.size w → HoldsK encT 3 w blk off d → blk < w.heap.size → d.size < 4611686018427387904 →
      Calls P g #[.slice (some ⟨blk, off, none⟩) d.size cap, .func (.func gc) #[] #[]] w fun e w' => e = .returned (.tuple #[]) ∧ ∃ d' n os, PermIn 0 d.size d d' ∧ SortedIn (ltOf cmpB) 0 d.size d' ∧ w' = sortWorldK encT 3 w blk off n d' os)
    (HN : ∀ (p : Option Addr) (cap : Nat) (fv : Value) (w : World), Calls P g #[.slice p 0 cap, fv] w fun e w' => e = .returned (.tuple #[]) ∧ w' = w)
    {v : AV} {l : List T} {hp : Heap} (G : Grow 3 v (l.map T.av) hp) (h : Heap) (hl : l.length ≤ 1099511627776) :
    ACalls P g [v, .fn gc []] (hp ++ h) (fun r h' => r = .tup [] ∧ ∃ (l' : List T) (hp' : Heap), l'.Perm l ∧ l'.Pairwise (fun a b => ¬ b.lt a) ∧ Grow 3 v (l'.map T.av) hp' ∧ dom hp' = dom hp ∧ h' = hp' ++ h) := by
  have hcmp : ∀ blk off n w, CmpLays P gc #[] encT 3 cmpB blk off n w := fun blk off n w m os dk hdk x y => by
    have hr : Reps (sortWorldK encT 3 w blk off m dk os) [] [x.av, y.av] [.agg (encT x).toArray, .agg (encT y).toArray] :=
      ⟨_, _, rfl, ⟨_, rfl, _, _, rfl, rfl, _, _, rfl, rfl, _, _, rfl, rfl, rfl⟩, _, _, rfl, ⟨_, rfl, _, _, rfl, rfl, _, _, rfl, rfl, _, _, rfl, rfl, rfl⟩, rfl⟩
    refine ((hC x y).2 (sortWorldK encT 3 w blk off m dk os) [.agg (encT x).toArray, .agg (encT y).toArray] ⟨by simp [dom], by simp, fun p hp => by rw [hz] at hp; cases hp⟩ hr).mono fun e w' ⟨cv, u, h', e1, e2, e3, e4, e5, e6⟩ => ?_
    subst e5 e6
    have e2' : cv = .int .i64 (cmpB x y) := e2
    subst e2'
    exact ⟨e1, world_grow e4⟩
  generalize hm : l.map T.av = m at G
  cases G with
  | nil =>
    have hl0 : l = [] := by simpa using hm
    subst hl0
    refine ⟨hok, fun w vs H hv => ?_⟩
    obtain ⟨v, r, rfl, hv, u, r', rfl, hu, hr⟩ := hv
    cases hr
    have hv' : v = .slice none 0 0 := hv
    subst hv'
    refine (HN none 0 u w).mono fun e w' ⟨e1, e2⟩ => ?_
    subst e2
    exact ⟨_, .tup [], _, e1, ⟨[], rfl, rfl⟩, H, .refl _ _, rfl, [], [], .refl _, .nil, .nil, rfl, rfl⟩
  | emp =>
    have hl0 : l = [] := by simpa using hm
    subst hl0
    refine ⟨hok, fun w vs H hv => ?_⟩
    obtain ⟨v, r, rfl, hv, u, r', rfl, hu, hr⟩ := hv
    cases hr
    obtain ⟨A, rfl⟩ := hv
    refine (HN A 0 u w).mono fun e w' ⟨e1, e2⟩ => ?_
    subst e2
    exact ⟨_, .tup [], _, e1, ⟨[], rfl, rfl⟩, H, .refl _ _, rfl, [], [], .refl _, .nil, .emp, rfl, rfl⟩
  | sl b m n hn =>
    subst hm
    simp only [List.length_map] at hn
    subst hn
    refine ⟨hok, fun w vs H hv => ?_⟩
    obtain ⟨v, r, rfl, hv, u, r', rfl, hu, hr⟩ := hv
    cases hr
    obtain ⟨cs, rfl, hcs⟩ := hu
    have hcs' : cs = [] := hcs
    subst hcs'
    obtain ⟨A, c, rfl, h1, h2, h3⟩ := hv
    have hb : hget ([(b, (⟨3, l.map T.av⟩ : Blk))] ++ h) b = some ⟨3, l.map T.av⟩ := by simp [hget]
    by_cases h0 : l = []
    · subst h0
      refine (HN A c _ w).mono fun e w' ⟨e1, e2⟩ => ?_
      subst e2
      exact ⟨_, .tup [], _, e1, ⟨[], rfl, rfl⟩, H, .refl _ _, rfl, [], [(b, ⟨3, []⟩)], .refl _, .nil, .sl b _ _ rfl, rfl, rfl⟩
    · have hpos : 0 < l.length := List.length_pos_iff.2 h0
      obtain ⟨hA, _⟩ := h2 (by omega)
      simp only [Nat.zero_mul] at hA
      subst hA
      have hsz : (l.toArray).size = l.length := by simp
      have hc := HC b 0 c l.toArray w (hcmp _ _ _ _) (H.bars hb) (H.lt (hget_dom hb)) (by rw [hsz]; omega)
      rw [hsz] at hc
      refine hc.mono fun e w' ⟨e1, d', n, os, hp, hs, e2⟩ => ?_
      subst e2
      obtain ⟨hd1, hd2, hd3⟩ := hp
      have hdl : d'.toList.length = l.length := by simpa using hd1
      have hperm : d'.toList.Perm l := by
        have e1 : d'.extract 0 l.length = d' := by rw [← hdl]; simp
        have e2 : (l.toArray).extract 0 l.length = l.toArray := by simp
        rw [e1, e2] at hd3
        simpa using hd3
      have hsort : d'.toList.Pairwise (fun a b => ¬ b.lt a) := by
        rw [List.pairwise_iff_getElem]
        intro i j hi hj hij
        have := hs i j (Nat.zero_le _) hij (by omega)
        rw [ltB] at this
        have hi' : i < d'.size := by simpa using hi
        have hj' : j < d'.size := by simpa using hj
        simpa [hi', hj'] using this
      obtain ⟨H1, E1⟩ := H.ahead n
      obtain ⟨H2, E2⟩ := H1.putBars hb hdl
      obtain ⟨H3, E3⟩ := H2.grow os
      exact ⟨_, .tup [], _, e1, ⟨[], rfl, rfl⟩, H3, (E1.trans E2).trans E3, rfl, d'.toList, [(b, ⟨3, d'.toList.map T.av⟩)], hperm, hsort, by rw [← hdl]; exact .sl b _ _ (by simp), rfl, by simp [hset]⟩
end Go.AG
