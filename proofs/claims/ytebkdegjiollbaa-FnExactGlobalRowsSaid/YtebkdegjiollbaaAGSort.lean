/- A slice of whole numbers that is sorted in place: what the library's contract of the kit says, in the words of our own layer. No statement about the program is made here. -/
import Derived.Test.YtebkdegjiollbaaAGInts
import Derived.Sort.Grow
namespace Go.AG
open Go.RowKit Go.Sort
set_option linter.unusedVariables false
set_option linter.unusedSimpArgs false
theorem Keeps.grow (w : World) (os : Array Obj) (D : List Nat) : Keeps w (grow w os) D D :=
  ⟨by simp [Sort.grow], fun b hb _ => heap_grow_old w os hb, fun _ _ h => h, fun b c el fz h => ⟨c, (heap_grow_old w os (Array.getElem?_eq_some_iff.1 h).1).trans h, rfl⟩⟩
theorem HRel.grow {w : World} {h : Heap} (H : HRel w h) (os : Array Obj) : HRel (grow w os) h ∧ Evolve w (dom h) (grow w os) (dom h) := by
  refine ⟨⟨H.nd, fun p hp => ?_, H.fix.mono (.grow w os _)⟩, ⟨.grow w os _, rfl, rfl, rfl, fun _ => Nat.le_refl _⟩⟩
  obtain ⟨c, el, e, hE⟩ := H.all p hp
  have hlt := H.lt (List.mem_map.2 ⟨p, hp, rfl⟩)
  have hb := heap_grow_old w os hlt
  exact ⟨c, el, hb.trans e, Elems.mono (.grow w os _) _ _ _ _ (fun o => cell_block hb o) hE⟩
theorem Keeps.ahead (w : World) (n : Nat) (D : List Nat) : Keeps w (Sort.ahead w n) D D := ⟨Nat.le_refl _, fun _ _ _ => rfl, fun _ _ h => h, fun _ c _ _ h => ⟨c, h, rfl⟩⟩
theorem HRel.ahead {w : World} {h : Heap} (H : HRel w h) (n : Nat) : HRel (Sort.ahead w n) h ∧ Evolve w (dom h) (Sort.ahead w n) (dom h) :=
  ⟨⟨H.nd, fun p hp => (by
    obtain ⟨c, el, e, hE⟩ := H.all p hp
    exact ⟨c, el, e, Elems.mono (.ahead w n _) _ _ _ _ (fun _ => rfl) hE⟩), H.fix.mono (.ahead w n _)⟩, ⟨.ahead w n _, rfl, rfl, rfl, fun _ => Nat.le_add_right _ _⟩⟩
theorem putRow_size {α : Type} [Inhabited α] (enc : α → Value) (w : World) (blk off : Nat) (d : Array α) : (putRow enc w blk off d).heap.size = w.heap.size := by simp [putRow, mapBlock]
theorem putRow_block {α : Type} [Inhabited α] (enc : α → Value) (w : World) (blk off : Nat) (d : Array α) {b : Nat} (h : b ≠ blk) : (putRow enc w blk off d).heap[b]? = w.heap[b]? := by
  simp [putRow, mapBlock, Array.getElem?_modify, Ne.symm h]
theorem putRow_row {α : Type} [Inhabited α] (enc : α → Value) (w : World) (blk off : Nat) (d : Array α) {c : Array Value} {el : TypeId} {fz : Nat × Nat} (h : w.heap[blk]? = some (.cells c el fz)) :
    (putRow enc w blk off d).heap[blk]? = some (.cells (putCells enc off d c) el fz) ∧ (putCells enc off d c).size = c.size := by
  refine ⟨?_, by simp [putCells]⟩
  simp [putRow, mapBlock, Array.getElem?_modify, h, onCells]
theorem HRel.putInts {w : World} {h : Heap} (H : HRel w h) {id : Nat} {l l' : List Int} {ex : List AV} (hb : hget h id = some ⟨1, l.map iv ++ ex⟩) (hl : l'.length = l.length) :
    Holds (Value.int .i64) w id 0 l.toArray ∧ HRel (putRow (Value.int .i64) w id 0 l'.toArray) (hset h id ⟨1, l'.map iv ++ ex⟩) ∧ Evolve w (dom h) (putRow (Value.int .i64) w id 0 l'.toArray) (dom (hset h id ⟨1, l'.map iv ++ ex⟩)) := by
  obtain ⟨c, el, hg, hE⟩ := H.all _ (hget_mem hb)
  simp only at hg hE
  rw [Elems_iff] at hE
  have hH : Holds (Value.int .i64) w id 0 l.toArray := by
    intro j hj
    have hj' : j < l.length := by simpa using hj
    have h1 := (hE j (iv l[j]) (by rw [List.getElem?_append_left (by simpa using hj')]; simp [hj'])).2
    rw [Cells_iff] at h1
    obtain ⟨v, g1, g2, g3⟩ := h1 0 (iv l[j]) rfl
    have g3' : v = .int .i64 l[j] := g3
    refine ⟨?_, by simp [World.frozen?, hg]⟩
    have e : 0 + j * 1 + 0 = 0 + j := by omega
    rw [e] at g1
    rw [g1, g3']
    simp [hj']
  refine ⟨hH, H.write (hget_dom hb) (putRow_size ..) (fun b hne => putRow_block _ _ _ _ _ hne) (fun c' el' fz' hc => ⟨_, (putRow_row _ _ _ _ _ hc).1, (putRow_row (Value.int .i64) w id 0 l'.toArray hc).2⟩) (fun K => ?_) rfl rfl rfl⟩
  rw [Elems_iff]
  intro i y hy
  by_cases hi : i < l'.length
  · rw [List.getElem?_append_left (by simpa using hi)] at hy
    have hy' : y = iv l'[i] := by simpa [hi] using hy.symm
    subst hy'
    refine ⟨rfl, ?_⟩
    rw [Cells_iff]
    intro j x hx
    cases j with
    | zero =>
      cases hx
      have := cell?_putRow (Value.int .i64) w id 0 l.toArray l'.toArray hH (by simp [hl]) i (by simpa using hi)
      have e : 0 + i * 1 + 0 = 0 + i := by omega
      rw [e]
      exact ⟨_, this, rfl, by simp [hi, Rep]⟩
    | succ j => simp [cellsOf] at hx
  · have hy0 : (l.map iv ++ ex)[i]? = some y := by
      rw [List.getElem?_append_right (by simp; omega)] at hy ⊢
      simpa [hl] using hy
    obtain ⟨h1, h2⟩ := hE i y hy0
    refine ⟨h1, ?_⟩
    rw [Cells_iff] at h2 ⊢
    intro j x hx
    obtain ⟨v, g1, g2, g3⟩ := h2 j x hx
    refine ⟨v, ?_, g2, Rep.mono K _ _ g3⟩
    rw [cell?_putRow_other _ _ _ _ _ _ (.inr (.inr (by simp; omega)))]
    exact g1
/-- From the kit's contract of slices.Sort. -/
theorem sortInts_of {P : Program} {g : FuncId} (hok : CallOk P g)
    (HC : ∀ (blk off cap : Nat) (zs : List Int) (w : World), Holds (Value.int .i64) w blk off zs.toArray → blk < w.heap.size → zs.length < 4611686018427387904 → Calls P g #[.slice (some ⟨blk, off, none⟩) zs.length cap] w fun e w' =>
      e = .returned (.tuple #[]) ∧ ∃ n os, w' = grow (putRow (Value.int .i64) (Sort.ahead w n) blk off (zs.mergeSort fun x y => decide (x ≤ y)).toArray) os)
    (HN : ∀ (p : Option Addr) (cap : Nat) (w : World), Calls P g #[.slice p 0 cap] w fun e w' => e = .returned (.tuple #[]) ∧ w' = w)
    {id : Nat} {l : List Int} {ex : List AV} {cap : Option Nat} {h : Heap} (hb : hget h id = some ⟨1, l.map iv ++ ex⟩) (hl : l.length ≤ 1099511627776) :
    ACalls P g [.sl id 1 0 l.length cap] h (fun v h' => v = .tup [] ∧ h' = hset h id ⟨1, (l.mergeSort fun x y => decide (x ≤ y)).map iv ++ ex⟩) := by
  refine ⟨hok, fun w vs H hv => ?_⟩
  obtain ⟨v, r, rfl, hv, hr⟩ := hv
  cases hr
  obtain ⟨A, c, rfl, h1, h2, h3⟩ := hv
  have hlen : (l.mergeSort fun x y => decide (x ≤ y)).length = l.length := List.length_mergeSort _
  obtain ⟨hH, _, _⟩ := H.putInts hb (l' := l) rfl
  by_cases h0 : l = []
  · subst h0
    refine (HN A c w).mono fun e w' ⟨e1, e2⟩ => ?_
    subst e2
    obtain ⟨_, q1, q2⟩ := H.putInts hb (l' := []) rfl
    rw [putRow_self _ _ _ _ _ hH] at q1 q2
    exact ⟨_, .tup [], _, e1, ⟨[], rfl, rfl⟩, q1, q2, rfl, by simp⟩
  · have hpos : 0 < l.length := List.length_pos_iff.2 h0
    obtain ⟨hA, _⟩ := h2 (by omega)
    simp only [Nat.zero_mul] at hA
    subst hA
    refine (HC id 0 c l w hH (H.lt (hget_dom hb)) (by omega)).mono fun e w' ⟨e1, n, os, e2⟩ => ?_
    subst e2
    obtain ⟨H1, E1⟩ := H.ahead n
    obtain ⟨_, H2, E2⟩ := H1.putInts hb hlen
    obtain ⟨H3, E3⟩ := H2.grow os
    exact ⟨_, .tup [], _, e1, ⟨[], rfl, rfl⟩, H3, (E1.trans E2).trans E3, rfl, rfl⟩
theorem sortNil_of {P : Program} {g : FuncId} (hok : CallOk P g)
    (HN : ∀ (p : Option Addr) (cap : Nat) (w : World), Calls P g #[.slice p 0 cap] w fun e w' => e = .returned (.tuple #[]) ∧ w' = w)
    {u : AV} (hu : u = .nilsl ∨ u = .emp) (h : Heap) : ACalls P g [u] h (fun v h' => v = .tup [] ∧ h' = h) := by
  refine ⟨hok, fun w vs H hv => ?_⟩
  obtain ⟨v, r, rfl, hv, hr⟩ := hv
  cases hr
  obtain ⟨A, rfl⟩ : ∃ A, v = .slice A 0 0 := by
    rcases hu with rfl | rfl
    · exact ⟨none, hv⟩
    · exact hv
  exact (HN A 0 w).mono fun e w' ⟨e1, e2⟩ => by
    subst e2
    exact ⟨_, .tup [], _, e1, ⟨[], rfl, rfl⟩, H, .refl _ _, rfl, rfl⟩
def sorted (l : List Int) : List Int := l.mergeSort fun x y => decide (x ≤ y)
/-- A slice that is only appended to, sorted. -/
theorem sortGrow_of {P : Program} {g : FuncId} (hok : CallOk P g)
    (HC : ∀ (blk off cap : Nat) (zs : List Int) (w : World), Holds (Value.int .i64) w blk off zs.toArray → blk < w.heap.size → zs.length < 4611686018427387904 → Calls P g #[.slice (some ⟨blk, off, none⟩) zs.length cap] w fun e w' =>
      e = .returned (.tuple #[]) ∧ ∃ n os, w' = grow (putRow (Value.int .i64) (Sort.ahead w n) blk off (zs.mergeSort fun x y => decide (x ≤ y)).toArray) os)
    (HN : ∀ (p : Option Addr) (cap : Nat) (w : World), Calls P g #[.slice p 0 cap] w fun e w' => e = .returned (.tuple #[]) ∧ w' = w)
    {v : AV} {l : List Int} {hp : Heap} (G : Grow 1 v (l.map iv) hp) (h : Heap) (hl : l.length ≤ 1099511627776) :
    ACalls P g [v] (hp ++ h) (fun r h' => r = .tup [] ∧ ∃ hp', Grow 1 v ((sorted l).map iv) hp' ∧ dom hp' = dom hp ∧ h' = hp' ++ h) := by
  generalize hm : l.map iv = m at G
  cases G with
  | nil =>
    rw [List.map_eq_nil_iff] at hm
    subst hm
    exact (sortNil_of hok HN (.inl rfl) _).mono fun r h' ⟨e1, e2⟩ => ⟨e1, [], by simpa [sorted] using Grow.nil, rfl, e2⟩
  | emp =>
    rw [List.map_eq_nil_iff] at hm
    subst hm
    exact (sortNil_of hok HN (.inr rfl) _).mono fun r h' ⟨e1, e2⟩ => ⟨e1, [], by simpa [sorted] using Grow.emp, rfl, e2⟩
  | sl id m n hn =>
    subst hm
    simp only [List.length_map] at hn
    subst hn
    have := sortInts_of hok HC HN (id := id) (l := l) (ex := []) (cap := none) (h := [(id, ⟨1, l.map iv⟩)] ++ h) (by simp [hget]) hl
    refine this.mono fun r h' ⟨e1, e2⟩ => ⟨e1, [(id, ⟨1, (sorted l).map iv⟩)], .sl id _ _ (by simp [sorted]), rfl, ?_⟩
    rw [e2]
    simp [hset, sorted]
end Go.AG
