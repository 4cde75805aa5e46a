/- Our own small layer: memory that nobody writes any more, and memory that is lent to a function that reads. No statement about the program is made here. -/
import Derived.Test.YtebkdegjiollbaaAGMain
namespace Go.AG
open Go.RowKit
set_option linter.unusedVariables false

mutual
/-- The block's own places, told as what nobody writes any more. -/
def fz (id : Nat) (b : Blk) : AV → AV
  | .sl i s off len cap => if i = id ∧ s = b.sz ∧ off + len ≤ b.l.length then .snap s ((b.l.drop off).take len) else .sl i s off len cap
  | .ptr i s j o => if i = id ∧ s = b.sz then match b.l[j]? with
    | some el => .ip ((cellsOf el).drop o)
    | none => .ptr i s j o else .ptr i s j o
  | .agg l => .agg (fzs id b l)
  | .fn f l => .fn f (fzs id b l)
  | .tup l => .tup (fzs id b l)
  | .snap s l => .snap s (fzs id b l)
  | .ip l => .ip (fzs id b l)
  | .int k n => .int k n
  | .bool c => .bool c
  | .str s => .str s
  | .nilsl => .nilsl
  | .emp => .emp
  | .nilp => .nilp
  | .nilfn => .nilfn
  | .nili => .nili
  | .ifc => .ifc
  | .undef => .undef
def fzs (id : Nat) (b : Blk) : List AV → List AV
  | [] => []
  | x :: xs => fz id b x :: fzs id b xs
end

theorem fzs_length (id : Nat) (b : Blk) : ∀ l, (fzs id b l).length = l.length
  | [] => by simp [fzs]
  | x :: xs => by simp [fzs, fzs_length id b xs]
theorem cells_fz (id : Nat) (b : Blk) (x : AV) : cellsOf (fz id b x) = fzs id b (cellsOf x) := by
  cases x with
  | sl i s off len cap =>
    simp only [fz, show cellsOf (.sl i s off len cap) = [.sl i s off len cap] from rfl, fzs]
    by_cases h : i = id ∧ s = b.sz ∧ off + len ≤ b.l.length
    · rw [if_pos h]; rfl
    · rw [if_neg h]; rfl
  | ptr i s j o =>
    simp only [fz, show cellsOf (.ptr i s j o) = [.ptr i s j o] from rfl, fzs]
    by_cases h : i = id ∧ s = b.sz
    · rw [if_pos h]; cases b.l[j]? <;> rfl
    · rw [if_neg h]; rfl
  | _ => simp only [fz, cellsOf, fzs]

/-- The block of this number holds these elements, and is none of D. -/
structure Held (w : World) (D : List Nat) (id : Nat) (b : Blk) : Prop where
  out : id ∉ D
  lt : id < w.heap.size
  el : Elems w D b.sz b.l id 0

mutual
theorem Rep.fz {w : World} {D : List Nat} {id : Nat} {b : Blk} (H : Held w D id b) : ∀ (x : AV) (v : Value), Rep w D x v → Rep w D (fz id b x) v
  | .int _ _, _, h => by simp only [AG.fz]; exact h
  | .bool _, _, h => by simp only [AG.fz]; exact h
  | .str _, _, h => by simp only [AG.fz]; exact h
  | .nilsl, _, h => by simp only [AG.fz]; exact h
  | .emp, _, h => by simp only [AG.fz]; exact h
  | .nilp, _, h => by simp only [AG.fz]; exact h
  | .nilfn, _, h => by simp only [AG.fz]; exact h
  | .nili, _, h => by simp only [AG.fz]; exact h
  | .ifc, _, h => by simp only [AG.fz]; exact h
  | .undef, _, h => by simp only [AG.fz]; exact h
  | .snap sz l, v, h => by
    simp only [AG.fz]
    obtain ⟨A, c, e, h1, h2, h3⟩ := h
    refine ⟨A, c, by rw [fzs_length]; exact e, by rw [fzs_length]; exact h1, fun ha => by rw [h2 ha]; simp [fzs], fun ad had => ?_⟩
    obtain ⟨g1, g2, g3⟩ := h3 ad had
    have hne : fzs id b l ≠ [] → l ≠ [] := fun hn hl => hn (by rw [hl]; simp [fzs])
    exact ⟨fun hn => g1 (hne hn), fun hn => g2 (hne hn), Elems.fz H sz l _ _ g3⟩
  | .sl i s off len cap, v, h => by
    simp only [AG.fz]
    split
    · rename_i hc
      obtain ⟨rfl, rfl, hle⟩ := hc
      obtain ⟨A, c, e, h1, h2, _⟩ := h
      have hlen : ((b.l.drop off).take len).length = len := by simp only [List.length_take, List.length_drop]; omega
      refine ⟨A, c, by rw [hlen]; exact e, by rw [hlen]; exact h1, fun ha => ?_, fun ad had => ?_⟩
      · apply List.eq_nil_of_length_eq_zero
        rw [hlen]
        rcases Nat.eq_zero_or_pos c with hc | hc
        · omega
        · have := (h2 hc).1; rw [ha] at this; cases this
      · rcases Nat.eq_zero_or_pos len with hz | hz
        · subst hz
          simp only [List.take_zero]
          exact ⟨fun h => absurd rfl h, fun h => absurd rfl h, trivial⟩
        · have := (h2 (by omega)).1
          rw [had] at this
          cases this
          refine ⟨fun _ => rfl, fun _ => ⟨H.out, H.lt⟩, ?_⟩
          have := Elems_take (Elems_drop H.el off) len
          simpa using this
    · exact h
  | .ptr i s j o, v, h => by
    simp only [AG.fz]
    split
    · rename_i hc
      obtain ⟨rfl, rfl⟩ := hc
      split
      · rename_i el hel
        refine ⟨i, j * b.sz + o, h, H.out, H.lt, ?_⟩
        obtain ⟨_, g2⟩ := Elems_iff.1 H.el j el hel
        rw [Cells_iff] at g2 ⊢
        intro m x hx
        rw [List.getElem?_drop] at hx
        have := g2 (o + m) x hx
        rw [Nat.zero_add] at this
        rw [show j * b.sz + o + m = j * b.sz + (o + m) by omega]
        exact this
      · exact h
    · exact h
  | .ip l, v, h => by
    simp only [AG.fz]
    obtain ⟨b', o, e, h1, h2, h3⟩ := h
    exact ⟨b', o, e, h1, h2, Cells.fz H l _ _ h3⟩
  | .agg l, v, h => by
    simp only [AG.fz]
    obtain ⟨vs, e, h⟩ := h
    exact ⟨vs, e, Reps.fz H l vs h⟩
  | .fn _ l, v, h => by
    simp only [AG.fz]
    obtain ⟨vs, e, h⟩ := h
    exact ⟨vs, e, Reps.fz H l vs h⟩
  | .tup l, v, h => by
    simp only [AG.fz]
    obtain ⟨vs, e, h⟩ := h
    exact ⟨vs, e, Reps.fz H l vs h⟩
theorem Reps.fz {w : World} {D : List Nat} {id : Nat} {b : Blk} (H : Held w D id b) : ∀ (xs : List AV) (vs : List Value), Reps w D xs vs → Reps w D (fzs id b xs) vs
  | [], _, h => by simp only [fzs]; exact h
  | x :: xs, _, ⟨v, r, e, h1, h2⟩ => by simp only [fzs]; exact ⟨v, r, e, Rep.fz H x v h1, Reps.fz H xs r h2⟩
theorem Cells.fz {w : World} {D : List Nat} {id : Nat} {b : Blk} (H : Held w D id b) : ∀ (xs : List AV) (b' o : Nat), Cells w D xs b' o → Cells w D (fzs id b xs) b' o
  | [], _, _, _ => by simp only [fzs]; trivial
  | x :: xs, b', o, ⟨⟨v, h1, h2, h3⟩, h4⟩ => by simp only [fzs]; exact ⟨⟨v, h1, h2, Rep.fz H x v h3⟩, Cells.fz H xs b' (o + 1) h4⟩
theorem Elems.fz {w : World} {D : List Nat} {id : Nat} {b : Blk} (H : Held w D id b) (sz : Nat) : ∀ (xs : List AV) (b' o : Nat), Elems w D sz xs b' o → Elems w D sz (fzs id b xs) b' o
  | [], _, _, _ => by simp only [fzs]; trivial
  | .agg l :: xs, b', o, ⟨h1, h2⟩ => by
    simp only [fzs, AG.fz]
    exact ⟨⟨by rw [fzs_length]; exact h1.1, Cells.fz H l b' o h1.2⟩, Elems.fz H sz xs b' (o + sz) h2⟩
  | .int _ _ :: xs, b', o, ⟨h1, h2⟩ => by simp only [fzs, AG.fz]; exact ⟨h1, Elems.fz H sz xs b' (o + sz) h2⟩
  | .bool _ :: xs, b', o, ⟨h1, h2⟩ => by simp only [fzs, AG.fz]; exact ⟨h1, Elems.fz H sz xs b' (o + sz) h2⟩
  | .str _ :: xs, b', o, ⟨h1, h2⟩ => by simp only [fzs, AG.fz]; exact ⟨h1, Elems.fz H sz xs b' (o + sz) h2⟩
  | .nilsl :: xs, b', o, ⟨h1, h2⟩ => by simp only [fzs, AG.fz]; exact ⟨h1, Elems.fz H sz xs b' (o + sz) h2⟩
  | .emp :: xs, b', o, ⟨h1, h2⟩ => by simp only [fzs, AG.fz]; exact ⟨h1, Elems.fz H sz xs b' (o + sz) h2⟩
  | .nilp :: xs, b', o, ⟨h1, h2⟩ => by simp only [fzs, AG.fz]; exact ⟨h1, Elems.fz H sz xs b' (o + sz) h2⟩
  | .nilfn :: xs, b', o, ⟨h1, h2⟩ => by simp only [fzs, AG.fz]; exact ⟨h1, Elems.fz H sz xs b' (o + sz) h2⟩
  | .nili :: xs, b', o, ⟨h1, h2⟩ => by simp only [fzs, AG.fz]; exact ⟨h1, Elems.fz H sz xs b' (o + sz) h2⟩
  | .ifc :: xs, b', o, ⟨h1, h2⟩ => by simp only [fzs, AG.fz]; exact ⟨h1, Elems.fz H sz xs b' (o + sz) h2⟩
  | .undef :: xs, b', o, ⟨h1, h2⟩ => by simp only [fzs, AG.fz]; exact ⟨h1, Elems.fz H sz xs b' (o + sz) h2⟩
  | .tup l :: xs, b', o, ⟨⟨h0, v, h1, h2, h3⟩, h4⟩ => by
    have := Rep.fz H (.tup l) v h3
    simp only [fzs, AG.fz] at this ⊢
    exact ⟨⟨h0, v, h1, h2, this⟩, Elems.fz H sz xs b' (o + sz) h4⟩
  | .fn f l :: xs, b', o, ⟨⟨h0, v, h1, h2, h3⟩, h4⟩ => by
    have := Rep.fz H (.fn f l) v h3
    simp only [fzs, AG.fz] at this ⊢
    exact ⟨⟨h0, v, h1, h2, this⟩, Elems.fz H sz xs b' (o + sz) h4⟩
  | .ip l :: xs, b', o, ⟨⟨h0, v, h1, h2, h3⟩, h4⟩ => by
    have := Rep.fz H (.ip l) v h3
    simp only [fzs, AG.fz] at this ⊢
    exact ⟨⟨h0, v, h1, h2, this⟩, Elems.fz H sz xs b' (o + sz) h4⟩
  | .snap s l :: xs, b', o, ⟨⟨h0, v, h1, h2, h3⟩, h4⟩ => by
    have := Rep.fz H (.snap s l) v h3
    simp only [fzs, AG.fz] at this ⊢
    exact ⟨⟨h0, v, h1, h2, this⟩, Elems.fz H sz xs b' (o + sz) h4⟩
  | .sl i s off len cap :: xs, b', o, ⟨⟨h0, v, h1, h2, h3⟩, h4⟩ => by
    have h5 := Rep.fz H (.sl i s off len cap) v h3
    have h6 := Elems.fz H sz xs b' (o + sz) h4
    simp only [fzs]
    rw [Elems_cons]
    refine ⟨?_, h6⟩
    rw [cells_fz]
    simp only [cellsOf, fzs]
    exact ⟨by simp [h0], ⟨v, h1, h2, h5⟩, trivial⟩
  | .ptr i s j q :: xs, b', o, ⟨⟨h0, v, h1, h2, h3⟩, h4⟩ => by
    have h5 := Rep.fz H (.ptr i s j q) v h3
    have h6 := Elems.fz H sz xs b' (o + sz) h4
    simp only [fzs]
    rw [Elems_cons]
    refine ⟨?_, h6⟩
    rw [cells_fz]
    simp only [cellsOf, fzs]
    exact ⟨by simp [h0], ⟨v, h1, h2, h5⟩, trivial⟩
end

theorem hdel_out : ∀ {h : Heap} {k : Nat}, (dom h).Nodup → k ∉ dom (hdel h k)
  | [], _, _, hm => by simp [hdel, dom] at hm
  | (i, b) :: h, k, nd, hm => by
    simp only [dom, List.map_cons, List.nodup_cons] at nd
    simp only [hdel] at hm
    split at hm
    · rename_i e; subst e; exact nd.1 hm
    · rename_i e
      simp only [dom, List.map_cons, List.mem_cons] at hm
      rcases hm with rfl | hm
      · exact e rfl
      · exact hdel_out nd.2 hm
theorem HRel.held {w : World} {h : Heap} (H : HRel w h) {id : Nat} {b : Blk} (hb : hget h id = some b) {D : List Nat} (hD : ∀ x ∈ D, x ∈ dom h) (ho : id ∉ D) : Held w D id b := by
  obtain ⟨c, el, e, hE⟩ := H.all _ (hget_mem hb)
  have K : Keeps w w (dom h) D := ⟨Nat.le_refl _, fun _ _ _ => rfl, fun b _ hb hm => hb (hD _ hm), fun _ c _ _ h => ⟨c, h, rfl⟩⟩
  exact ⟨ho, H.lt (hget_dom hb), Elems.mono K _ _ _ _ (fun _ => rfl) hE⟩

def fzE (id : Nat) (b : Blk) : Env → Env
  | [] => []
  | (t, v) :: e => (t, fz id b v) :: fzE id b e
def fzH (id : Nat) (b : Blk) : Heap → Heap
  | [] => []
  | (i, c) :: h => (i, ⟨c.sz, fzs id b c.l⟩) :: fzH id b h
theorem fzE_get (id : Nat) (b : Blk) : ∀ (e : Env) (t : Nat), eget (fzE id b e) t = fz id b (eget e t)
  | [], t => by simp [fzE, eget, fz]
  | (s, v) :: e, t => by
    simp only [fzE, eget]
    split
    · rfl
    · exact fzE_get id b e t
theorem dom_fzH (id : Nat) (b : Blk) : ∀ (h : Heap), dom (fzH id b h) = dom h
  | [] => rfl
  | (i, c) :: h => by simpa [fzH, dom] using dom_fzH id b h
theorem mem_fzH {id : Nat} {b : Blk} : ∀ {h : Heap} {p : Nat × Blk}, p ∈ fzH id b h → ∃ c, (p.1, c) ∈ h ∧ p.2 = ⟨c.sz, fzs id b c.l⟩
  | [], p, hp => by simp [fzH] at hp
  | (i, c) :: h, p, hp => by
    simp only [fzH, List.mem_cons] at hp
    rcases hp with rfl | hp
    · exact ⟨c, by simp, rfl⟩
    · obtain ⟨c', h1, h2⟩ := mem_fzH hp
      exact ⟨c', by simp [h1], h2⟩
theorem HRel.fzH {w : World} {h : Heap} (H : HRel w h) {id : Nat} {b : Blk} (hd : Held w (dom h) id b) : HRel w (fzH id b h) := by
  refine ⟨by rw [dom_fzH]; exact H.nd, fun p hp => ?_, by rw [dom_fzH]; exact H.fix⟩
  obtain ⟨c, h1, h2⟩ := mem_fzH hp
  obtain ⟨cs, el, e, hE⟩ := H.all _ h1
  refine ⟨cs, el, e, ?_⟩
  rw [h2, dom_fzH]
  exact Elems.fz hd _ _ _ _ hE

section
variable {C : Cx} {e : Env} {h : Heap} {w0 : World} {D0 : List Nat} {tmps : Array Value} {w : World} {R : AV → Heap → Prop} {cs : List Frame}
/-- From here on nobody writes this block any more. -/
theorem Run.freeze (id : Nat) {b : Blk} (hb : hget h id = some b) {sk : List SItem} (g : Run C sk (fzE id b e) (hdel h id) R) : Run C sk e h R := by
  intro k tmps w cs w0 D0 hk S
  obtain ⟨H', Ev⟩ := S.heap.del id
  have hd : Held w (dom (hdel h id)) id b := S.heap.held hb (fun _ => dom_hdel_sub) (hdel_out S.heap.nd)
  exact g k tmps w cs w0 D0 hk ⟨fun t => by rw [fzE_get]; exact Rep.fz hd _ _ (Rep.mono Ev.keeps _ _ (S.env t)), S.size, H', S.ev.trans Ev⟩
/-- The same, where other blocks hold places of this one. -/
theorem Run.freezeH (id : Nat) {b : Blk} (hb : hget h id = some b) {sk : List SItem} (g : Run C sk (fzE id b e) (fzH id b (hdel h id)) R) : Run C sk e h R := by
  intro k tmps w cs w0 D0 hk S
  obtain ⟨H', Ev⟩ := S.heap.del id
  have hd : Held w (dom (hdel h id)) id b := S.heap.held hb (fun _ => dom_hdel_sub) (hdel_out S.heap.nd)
  refine g k tmps w cs w0 D0 hk ⟨fun t => ?_, S.size, H'.fzH hd, ?_⟩
  · rw [fzE_get, dom_fzH]; exact Rep.fz hd _ _ (Rep.mono Ev.keeps _ _ (S.env t))
  · rw [dom_fzH]; exact S.ev.trans Ev

/-- What is told of a value may be told less exactly. -/
def Wk (x y : AV) : Prop := ∀ (w : World) (D : List Nat) (v : Value), Rep w D x v → Rep w D y v
def Wks (xs ys : List AV) : Prop := ∀ (w : World) (D : List Nat) (vs : List Value), Reps w D xs vs → Reps w D ys vs
theorem Wk.refl (x : AV) : Wk x x := fun _ _ _ h => h
theorem Wks.nil : Wks [] [] := fun _ _ _ h => h
theorem Wks.refl (xs : List AV) : Wks xs xs := fun _ _ _ h => h
theorem Wks.cons {x y : AV} {xs ys : List AV} (h : Wk x y) (hs : Wks xs ys) : Wks (x :: xs) (y :: ys) := fun w D _ ⟨v, r, e, h1, h2⟩ => ⟨v, r, e, h w D v h1, hs w D r h2⟩
theorem Wk.nil (sz : Nat) : Wk .nilsl (.snap sz []) := fun w D v h => ⟨none, 0, h, Nat.le_refl _, fun _ => rfl, fun ad h => by cases h⟩
theorem Wk.emp (sz : Nat) : Wk .emp (.snap sz []) := fun w D v ⟨A, h⟩ => ⟨A, 0, h, Nat.le_refl _, fun _ => rfl, fun ad _ => ⟨fun h => absurd rfl h, fun h => absurd rfl h, trivial⟩⟩
theorem Wk.tup {xs ys : List AV} (h : Wks xs ys) : Wk (.tup xs) (.tup ys) := fun w D _ ⟨vs, e, h1⟩ => ⟨vs, e, h w D vs h1⟩
theorem Wk.agg {xs ys : List AV} (h : Wks xs ys) : Wk (.agg xs) (.agg ys) := fun w D _ ⟨vs, e, h1⟩ => ⟨vs, e, h w D vs h1⟩
theorem ACalls.wk {P : Program} {g : FuncId} {args args' : List AV} {h : Heap} {R : AV → Heap → Prop} (k : Wks args args') (H : ACalls P g args' h R) : ACalls P g args h R :=
  ⟨H.1, fun w vs hw hv => H.2 w vs hw (k w _ vs hv)⟩
/-- What a contract may say of a result, when blocks are given up or are not written any more. -/
inductive Post (R : AV → Heap → Prop) : AV → Heap → Prop where
  | base {v h} : R v h → Post R v h
  | freeze {v h} (id : Nat) {b : Blk} : hget h id = some b → Post R (fz id b v) (hdel h id) → Post R v h
  | freezeH {v h} (id : Nat) {b : Blk} : hget h id = some b → Post R (fz id b v) (fzH id b (hdel h id)) → Post R v h
  | drop {v h} (id : Nat) : Post R v (hdel h id) → Post R v h
  | wk {v v' h} : Wk v v' → Post R v' h → Post R v h
theorem Post.spec {v : AV} (p : Post R v h) : ∀ {w0 : World} {D0 : List Nat} {w : World} {cv : Value}, Rep w (dom h) v cv → HRel w h → Evolve w0 D0 w (dom h) → ∃ v' h', Rep w (dom h') v' cv ∧ HRel w h' ∧ Evolve w0 D0 w (dom h') ∧ R v' h' := by
  induction p with
  | base hr => exact fun r H E => ⟨_, _, r, H, E, hr⟩
  | freeze id hb _ ih =>
    intro w0 D0 w cv r H E
    obtain ⟨H', Ev⟩ := H.del id
    have hd := H.held hb (fun _ => dom_hdel_sub) (hdel_out H.nd)
    exact ih (Rep.fz hd _ _ (Rep.mono Ev.keeps _ _ r)) H' (E.trans Ev)
  | freezeH id hb _ ih =>
    intro w0 D0 w cv r H E
    obtain ⟨H', Ev⟩ := H.del id
    have hd := H.held hb (fun _ => dom_hdel_sub) (hdel_out H.nd)
    exact ih (by rw [dom_fzH]; exact Rep.fz hd _ _ (Rep.mono Ev.keeps _ _ r)) (H'.fzH hd) (by rw [dom_fzH]; exact E.trans Ev)
  | drop id _ ih =>
    intro w0 D0 w cv r H E
    obtain ⟨H', Ev⟩ := H.del id
    exact ih (Rep.mono Ev.keeps _ _ r) H' (E.trans Ev)
  | wk k _ ih => exact fun r H E => ih (k _ _ _ r) H E
theorem ACalls.post {P : Program} {g : FuncId} {args : List AV} (H : ACalls P g args h (Post R)) : ACalls P g args h R :=
  ⟨H.1, fun w vs hw hv => (H.2 w vs hw hv).mono fun en w' ⟨cv, v, h', e1, e2, e3, e4, e5⟩ => by
    obtain ⟨v', h'', g1, g2, g3, g4⟩ := e5.spec e2 e3 e4
    exact ⟨cv, v', h'', e1, g1, g2, g3, g4⟩⟩

mutual
/-- Values without memory. -/
def scal : AV → Bool
  | .int .. | .bool _ | .str _ | .nilsl | .emp | .nilp | .nilfn | .nili | .ifc => true
  | .agg l => scals l
  | .tup l => scals l
  | _ => false
def scals : List AV → Bool
  | [] => true
  | x :: xs => scal x && scals xs
end
mutual
theorem Rep.scal {w w' : World} {D D' : List Nat} : ∀ (x : AV) (v : Value), scal x = true → Rep w D x v → Rep w' D' x v
  | .int _ _, _, _, h => h
  | .bool _, _, _, h => h
  | .str _, _, _, h => h
  | .nilsl, _, _, h => h
  | .emp, _, _, h => h
  | .nilp, _, _, h => h
  | .nilfn, _, _, h => h
  | .nili, _, _, h => h
  | .ifc, _, _, h => h
  | .agg l, _, hs, ⟨vs, e, h⟩ => ⟨vs, e, Reps.scal l vs (by simpa [AG.scal] using hs) h⟩
  | .tup l, _, hs, ⟨vs, e, h⟩ => ⟨vs, e, Reps.scal l vs (by simpa [AG.scal] using hs) h⟩
  | .snap .., _, hs, _ => by simp [AG.scal] at hs
  | .sl .., _, hs, _ => by simp [AG.scal] at hs
  | .ptr .., _, hs, _ => by simp [AG.scal] at hs
  | .ip .., _, hs, _ => by simp [AG.scal] at hs
  | .fn .., _, hs, _ => by simp [AG.scal] at hs
  | .undef, _, hs, _ => by simp [AG.scal] at hs
theorem Reps.scal {w w' : World} {D D' : List Nat} : ∀ (xs : List AV) (vs : List Value), scals xs = true → Reps w D xs vs → Reps w' D' xs vs
  | [], _, _, h => h
  | x :: xs, _, hs, ⟨v, r, e, h1, h2⟩ => by
    simp only [scals, Bool.and_eq_true] at hs
    exact ⟨v, r, e, Rep.scal x v hs.1 h1, Reps.scal xs r hs.2 h2⟩
end
/-- Blocks that may be written, told as read-only for the time of a call. -/
def lend : List (Nat × Blk) → List AV → List AV
  | [], xs => xs
  | (id, b) :: L, xs => lend L (fzs id b xs)
theorem lend_rep {w : World} {h : Heap} (H : HRel w h) : ∀ (L : List (Nat × Blk)), (∀ p ∈ L, hget h p.1 = some p.2) → ∀ (xs : List AV) (vs : List Value), Reps w [] xs vs → Reps w [] (lend L xs) vs
  | [], _, _, _, r => r
  | (id, b) :: L, hL, xs, vs, r => lend_rep H L (fun p hp => hL p (List.mem_cons_of_mem _ hp)) _ vs (Reps.fz (H.held (hL (id, b) (List.mem_cons_self ..)) (by simp) (by simp)) _ _ r)
theorem ACalls.lent {P : Program} {g : FuncId} {args : List AV} (L : List (Nat × Blk)) (hL : ∀ p ∈ L, hget h p.1 = some p.2) {S : AV → Prop} (H : ACalls P g (lend L args) [] (fun v h' => S v ∧ h' = [])) (hs : ∀ v, S v → scal v = true) :
    ACalls P g args h (fun v h' => S v ∧ h' = h) :=
  ⟨H.1, fun w vs hw hv => by
    have K0 : Keeps w w (dom h) [] := ⟨Nat.le_refl _, fun _ _ _ => rfl, fun b _ _ hm => by simp at hm, fun _ c _ _ h => ⟨c, h, rfl⟩⟩
    have r := lend_rep hw L hL args vs (Reps.mono K0 _ _ hv)
    refine (H.2 w vs ⟨by simp [dom], by simp, hw.fix.mono K0⟩ r).mono fun en w' ⟨cv, v, h', e1, e2, e3, e4, e5, e6⟩ => ?_
    subst e6
    have K : Keeps w w' (dom h) (dom h) := ⟨e4.keeps.size, fun b hb _ => e4.keeps.block b hb (by simp [dom]), fun _ _ hn => hn, e4.keeps.rows⟩
    refine ⟨cv, v, h, e1, Rep.scal _ _ (hs v e5) e2, ⟨hw.nd, fun p hp => ?_, hw.fix.mono K⟩, ⟨K, e4.os, e4.tape, e4.output, e4.drawn⟩, e5, rfl⟩
    obtain ⟨c, el, e, hE⟩ := hw.all p hp
    have hlt := hw.lt (List.mem_map.2 ⟨p, hp, rfl⟩)
    have hbk : w'.heap[p.1]? = w.heap[p.1]? := e4.keeps.block _ hlt (by simp [dom])
    exact ⟨c, el, hbk.trans e, Elems.mono K _ _ _ _ (fun o => cell_block hbk o) hE⟩⟩
end
end Go.AG
