/- The abstract values and states of our own small layer, and how they stand to the machine's world. No statement about the program is made here. -/
import Derived.WalkKit
namespace Go.AG
open Go.RowKit

/-- Abstract values. 'snap': a slice whose cells nobody writes any more (elements of sz cells each); 'emp': an empty slice without capacity; 'sl': a slice of a block that may be written; 'ip': the address of cells that nobody writes any more; 'ptr': the address of cell o of element i of a block that may be written. -/
inductive AV where
  | int (k : IntKind) (n : Int)
  | bool (b : Bool)
  | str (s : List UInt8)
  | nilsl
  | emp
  | snap (sz : Nat) (l : List AV)
  | sl (id sz off len : Nat) (cap : Option Nat)
  | ptr (id sz i o : Nat)
  | ip (l : List AV)
  | agg (l : List AV)
  | fn (f : FuncId) (caps : List AV)
  | tup (l : List AV)
  | nilp
  | nilfn
  | nili
  | ifc
  | undef
  deriving Inhabited

mutual
def Rep (w : World) (D : List Nat) : AV → Value → Prop
  | .int k n, v => v = .int k n
  | .bool b, v => v = .bool b
  | .str s, v => v = .string ⟨s.toArray⟩
  | .nilsl, v => v = .slice none 0 0
  | .snap sz l, v => ∃ A c, v = .slice A l.length c ∧ l.length ≤ c ∧ (A = none → l = []) ∧ ∀ ad, A = some ad → (l ≠ [] → ad.spot = none) ∧ (l ≠ [] → ad.block ∉ D ∧ ad.block < w.heap.size) ∧ Elems w D sz l ad.block ad.off
  | .sl id sz off len cap, v => ∃ A c, v = .slice A len c ∧ len ≤ c ∧ (0 < c → A = some ⟨id, off * sz, none⟩ ∧ ∃ cs el fz, w.heap[id]? = some (.cells cs el fz) ∧ (off + c) * sz ≤ cs.size) ∧ ∀ k, cap = some k → c = k
  | .emp, v => ∃ A, v = .slice A 0 0
  | .ptr id sz i o, v => v = .pointer (some ⟨id, i * sz + o, none⟩)
  | .ip l, v => ∃ b o, v = .pointer (some ⟨b, o, none⟩) ∧ b ∉ D ∧ b < w.heap.size ∧ Cells w D l b o
  | .agg l, v => ∃ vs, v = .agg ⟨vs⟩ ∧ Reps w D l vs
  | .fn f caps, v => ∃ vs, v = .func (.func f) #[] ⟨vs⟩ ∧ Reps w D caps vs
  | .tup l, v => ∃ vs, v = .tuple ⟨vs⟩ ∧ Reps w D l vs
  | .nilp, v => v = .pointer none
  | .nilfn, v => v = .nilFunc
  | .nili, v => v = .nilIface
  | .ifc, v => ∃ t p, v = .iface t p
  | .undef, _ => True
def Reps (w : World) (D : List Nat) : List AV → List Value → Prop
  | [], vs => vs = []
  | x :: xs, vs => ∃ v r, vs = v :: r ∧ Rep w D x v ∧ Reps w D xs r
def Cells (w : World) (D : List Nat) : List AV → Nat → Nat → Prop
  | [], _, _ => True
  | x :: xs, b, o => (∃ v, w.cell? ⟨b, o, none⟩ = some v ∧ Value.oneCell' v = true ∧ Rep w D x v) ∧ Cells w D xs b (o + 1)
def Elems (w : World) (D : List Nat) (sz : Nat) : List AV → Nat → Nat → Prop
  | [], _, _ => True
  | .agg l :: es, b, o => (l.length = sz ∧ Cells w D l b o) ∧ Elems w D sz es b (o + sz)
  | x :: es, b, o => (sz = 1 ∧ ∃ v, w.cell? ⟨b, o, none⟩ = some v ∧ Value.oneCell' v = true ∧ Rep w D x v) ∧ Elems w D sz es b (o + sz)
end

def cellsOf : AV → List AV
  | .agg l => l
  | x => [x]

theorem Reps_nil {w : World} {D : List Nat} {vs : List Value} : Reps w D [] vs ↔ vs = [] := Iff.rfl
theorem Reps_cons {w : World} {D : List Nat} {x : AV} {xs : List AV} {v : Value} {vs : List Value} : Reps w D (x :: xs) (v :: vs) ↔ Rep w D x v ∧ Reps w D xs vs := by
  constructor
  · rintro ⟨v', r, e, h1, h2⟩
    obtain ⟨rfl, rfl⟩ := List.cons.inj e
    exact ⟨h1, h2⟩
  · rintro ⟨h1, h2⟩
    exact ⟨v, vs, rfl, h1, h2⟩
theorem Reps_length {w : World} {D : List Nat} : ∀ {xs : List AV} {vs : List Value}, Reps w D xs vs → vs.length = xs.length
  | [], _, h => by cases h; rfl
  | x :: xs, _, h => by
    obtain ⟨v, r, rfl, _, h2⟩ := h
    simp [Reps_length h2]
theorem Reps_get {w : World} {D : List Nat} : ∀ {xs : List AV} {vs : List Value}, Reps w D xs vs → ∀ (i : Nat) (x : AV), xs[i]? = some x → ∃ v, vs[i]? = some v ∧ Rep w D x v
  | [], _, _ => by simp
  | x :: xs, _, h => by
    obtain ⟨v, r, rfl, h1, h2⟩ := h
    intro i y hy
    cases i with
    | zero => simp at hy; subst hy; exact ⟨v, rfl, h1⟩
    | succ i => simpa using Reps_get h2 i y (by simpa using hy)
theorem Reps_append {w : World} {D : List Nat} : ∀ {xs ys : List AV} {vs us : List Value}, Reps w D xs vs → Reps w D ys us → Reps w D (xs ++ ys) (vs ++ us)
  | [], _, _, _, h, k => by cases h; exact k
  | x :: xs, _, _, _, h, k => by
    obtain ⟨v, r, rfl, h1, h2⟩ := h
    exact Reps_cons.2 ⟨h1, Reps_append h2 k⟩

theorem Elems_cons {w : World} {D : List Nat} {sz : Nat} {e : AV} {es : List AV} {b o : Nat} :
    Elems w D sz (e :: es) b o ↔ ((cellsOf e).length = sz ∧ Cells w D (cellsOf e) b o) ∧ Elems w D sz es b (o + sz) := by
  cases e <;> simp only [Elems, cellsOf, Cells, List.length_singleton, and_true] <;> first | rfl | (constructor <;> rintro ⟨⟨h1, h2⟩, h3⟩ <;> exact ⟨⟨h1.symm, h2⟩, h3⟩)

/-- What must hold of two worlds, so that what nobody writes reads as before. -/
structure Keeps (w w' : World) (D D' : List Nat) : Prop where
  size : w.heap.size ≤ w'.heap.size
  block : ∀ b, b < w.heap.size → b ∉ D → w'.heap[b]? = w.heap[b]?
  dom : ∀ b, b < w.heap.size → b ∉ D → b ∉ D'
  rows : ∀ (b : Nat) (c : Array Value) (el : TypeId) (fz : Nat × Nat), w.heap[b]? = some (.cells c el fz) → ∃ c', w'.heap[b]? = some (.cells c' el fz) ∧ c'.size = c.size

theorem cell_block {w w' : World} {b : Nat} (h : w'.heap[b]? = w.heap[b]?) (o : Nat) : w'.cell? ⟨b, o, none⟩ = w.cell? ⟨b, o, none⟩ := by
  simp only [World.cell?, h]

mutual
theorem Rep.mono {w w' : World} {D D' : List Nat} (K : Keeps w w' D D') : ∀ (x : AV) (v : Value), Rep w D x v → Rep w' D' x v
  | .int _ _, _, h => h
  | .bool _, _, h => h
  | .str _, _, h => h
  | .nilsl, _, h => h
  | .emp, _, h => h
  | .snap sz l, _, ⟨A, c, e, h1, h2, h3⟩ => ⟨A, c, e, h1, h2, fun ad had => by
      obtain ⟨g1, g2, g3⟩ := h3 ad had
      refine ⟨g1, fun hl => ⟨K.dom _ (g2 hl).2 (g2 hl).1, Nat.lt_of_lt_of_le (g2 hl).2 K.size⟩, ?_⟩
      by_cases hl : l = []
      · subst hl; trivial
      · exact Elems.mono K sz l _ _ (fun o => cell_block (K.block _ (g2 hl).2 (g2 hl).1) o) g3⟩
  | .sl _ _ _ _ _, _, ⟨A, c, e, h1, h2, h3⟩ => ⟨A, c, e, h1, fun hc => by
      obtain ⟨g1, cs, el, fz, g2, g3⟩ := h2 hc
      obtain ⟨cs', k1, k2⟩ := K.rows _ _ _ _ g2
      exact ⟨g1, cs', el, fz, k1, by omega⟩, h3⟩
  | .ptr _ _ _ _, _, h => h
  | .ip l, _, ⟨b, o, e, h1, h2, h3⟩ => ⟨b, o, e, K.dom _ h2 h1, Nat.lt_of_lt_of_le h2 K.size, Cells.mono K l _ _ (fun o => cell_block (K.block _ h2 h1) o) h3⟩
  | .agg l, _, ⟨vs, e, h⟩ => ⟨vs, e, Reps.mono K l vs h⟩
  | .fn _ l, _, ⟨vs, e, h⟩ => ⟨vs, e, Reps.mono K l vs h⟩
  | .tup l, _, ⟨vs, e, h⟩ => ⟨vs, e, Reps.mono K l vs h⟩
  | .nilp, _, h => h
  | .nilfn, _, h => h
  | .nili, _, h => h
  | .ifc, _, h => h
  | .undef, _, h => h
theorem Reps.mono {w w' : World} {D D' : List Nat} (K : Keeps w w' D D') : ∀ (xs : List AV) (vs : List Value), Reps w D xs vs → Reps w' D' xs vs
  | [], _, h => h
  | x :: xs, _, ⟨v, r, e, h1, h2⟩ => ⟨v, r, e, Rep.mono K x v h1, Reps.mono K xs r h2⟩
theorem Cells.mono {w w' : World} {D D' : List Nat} (K : Keeps w w' D D') : ∀ (xs : List AV) (b o : Nat), (∀ o, w'.cell? ⟨b, o, none⟩ = w.cell? ⟨b, o, none⟩) → Cells w D xs b o → Cells w' D' xs b o
  | [], _, _, _, _ => trivial
  | x :: xs, b, o, hb, ⟨⟨v, h1, h2, h3⟩, h4⟩ => ⟨⟨v, (hb o).trans h1, h2, Rep.mono K x v h3⟩, Cells.mono K xs b (o + 1) hb h4⟩
theorem Elems.mono {w w' : World} {D D' : List Nat} (K : Keeps w w' D D') (sz : Nat) : ∀ (xs : List AV) (b o : Nat), (∀ o, w'.cell? ⟨b, o, none⟩ = w.cell? ⟨b, o, none⟩) → Elems w D sz xs b o → Elems w' D' sz xs b o
  | [], _, _, _, _ => trivial
  | x :: xs, b, o, hb, h => by
    obtain ⟨h1, h2⟩ := Elems_cons.1 h
    refine Elems_cons.2 ⟨⟨h1.1, ?_⟩, Elems.mono K sz xs b (o + sz) hb h2⟩
    cases x with
    | agg l => exact Cells.mono K l b o hb h1.2
    | _ => exact ⟨⟨_, (hb o).trans h1.2.1.choose_spec.1, h1.2.1.choose_spec.2.1, Rep.mono K _ _ h1.2.1.choose_spec.2.2⟩, trivial⟩
end

theorem Cells_iff {w : World} {D : List Nat} : ∀ {xs : List AV} {b o : Nat}, Cells w D xs b o ↔ ∀ (j : Nat) (x : AV), xs[j]? = some x → ∃ v, w.cell? ⟨b, o + j, none⟩ = some v ∧ Value.oneCell' v = true ∧ Rep w D x v
  | [], _, _ => by simp [Cells]
  | x :: xs, b, o => by
    unfold Cells
    rw [Cells_iff (xs := xs)]
    constructor
    · rintro ⟨h1, h2⟩ j y hy
      cases j with
      | zero => simp at hy; subst hy; exact h1
      | succ j => have := h2 j y (by simpa using hy); rwa [show o + 1 + j = o + (j + 1) by omega] at this
    · intro h
      refine ⟨h 0 x rfl, fun j y hy => ?_⟩
      have := h (j + 1) y (by simpa using hy)
      rwa [show o + (j + 1) = o + 1 + j by omega] at this
theorem Elems_iff {w : World} {D : List Nat} {sz : Nat} : ∀ {xs : List AV} {b o : Nat}, Elems w D sz xs b o ↔ ∀ (i : Nat) (x : AV), xs[i]? = some x → (cellsOf x).length = sz ∧ Cells w D (cellsOf x) b (o + i * sz)
  | [], _, _ => by simp [Elems]
  | x :: xs, b, o => by
    rw [Elems_cons, Elems_iff (xs := xs)]
    constructor
    · rintro ⟨h1, h2⟩ i y hy
      cases i with
      | zero => simp at hy; subst hy; simpa using h1
      | succ i =>
        have := h2 i y (by simpa using hy)
        rwa [show o + sz + i * sz = o + (i + 1) * sz by rw [Nat.succ_mul]; omega] at this
    · intro h
      refine ⟨by simpa using h 0 x rfl, fun i y hy => ?_⟩
      have := h (i + 1) y (by simpa using hy)
      rwa [show o + (i + 1) * sz = o + sz + i * sz by rw [Nat.succ_mul]; omega] at this

/-- What stands in one cell. -/
def isCell : AV → Bool
  | .agg _ | .tup _ | .undef => false
  | _ => true

theorem Rep.oneCell {w : World} {D : List Nat} {x : AV} {v : Value} (h : Rep w D x v) (hx : isCell x = true) : Value.oneCell' v = true := by
  cases x <;> simp [isCell] at hx
  case int => cases h; rfl
  case bool => cases h; rfl
  case str => cases h; rfl
  case nilsl => cases h; rfl
  case snap => obtain ⟨A, c, rfl, _⟩ := h; rfl
  case emp => obtain ⟨A, rfl⟩ := h; rfl
  case sl => obtain ⟨A, c, rfl, _⟩ := h; rfl
  case ptr => cases h; rfl
  case ip => obtain ⟨b, o, rfl, _⟩ := h; rfl
  case fn => obtain ⟨vs, rfl, _⟩ := h; rfl
  case nilp => cases h; rfl
  case nilfn => cases h; rfl
  case nili => cases h; rfl
  case ifc => obtain ⟨t, p, rfl⟩ := h; rfl

/-- A value that may stand in a variable: one cell, or a struct of such. -/
def storable (v : AV) : Bool := (cellsOf v).all isCell

theorem Reps.all_oneCell {w : World} {D : List Nat} : ∀ {xs : List AV} {vs : List Value}, Reps w D xs vs → xs.all isCell = true → ∀ v ∈ vs, Value.oneCell' v = true
  | [], _, h, _ => by cases h; simp
  | x :: xs, _, h, hx => by
    obtain ⟨v, r, rfl, h1, h2⟩ := h
    simp only [List.all_cons, Bool.and_eq_true] at hx
    intro u hu
    rcases List.mem_cons.1 hu with rfl | hu
    · exact h1.oneCell hx.1
    · exact Reps.all_oneCell h2 hx.2 u hu

/-- The cells of a storable value's machine form. -/
theorem Rep.cells {w : World} {D : List Nat} {x : AV} {v : Value} (h : Rep w D x v) (hx : storable x = true) : Reps w D (cellsOf x) v.cells.toList ∧ (∀ u ∈ v.cells.toList, Value.oneCell' u = true) := by
  cases x
  case agg l =>
    obtain ⟨vs, rfl, hr⟩ := h
    exact ⟨hr, Reps.all_oneCell hr hx⟩
  all_goals
    first
    | (simp [storable, cellsOf, isCell] at hx; done)
    | (have hc := h.oneCell (by simpa [storable, cellsOf] using hx)
       have e : v.cells = #[v] := by cases v <;> first | rfl | simp [Value.oneCell'] at hc
       rw [e]
       exact ⟨Reps_cons.2 ⟨h, rfl⟩, by simpa using hc⟩)

/-! ## The abstract memory: blocks that may be written -/
structure Blk where
  sz : Nat
  l : List AV
  deriving Inhabited
abbrev Heap := List (Nat × Blk)
def dom (h : Heap) : List Nat := h.map (·.1)
def hget : Heap → Nat → Option Blk
  | [], _ => none
  | (i, b) :: h, k => if i = k then some b else hget h k
def hset : Heap → Nat → Blk → Heap
  | [], _, _ => []
  | (i, b) :: h, k, c => if i = k then (i, c) :: h else (i, b) :: hset h k c
def hdel : Heap → Nat → Heap
  | [], _ => []
  | (i, b) :: h, k => if i = k then h else (i, b) :: hdel h k
theorem hget_mem : ∀ {h : Heap} {k : Nat} {b : Blk}, hget h k = some b → (k, b) ∈ h
  | [], _, _, e => by simp [hget] at e
  | (i, c) :: h, k, b, e => by
    simp only [hget] at e
    split at e
    · cases e; simp_all
    · exact List.mem_cons_of_mem _ (hget_mem e)
theorem hget_dom {h : Heap} {k : Nat} {b : Blk} (e : hget h k = some b) : k ∈ dom h := List.mem_map.2 ⟨_, hget_mem e, rfl⟩
@[simp] theorem dom_hset : ∀ (h : Heap) (k : Nat) (c : Blk), dom (hset h k c) = dom h
  | [], _, _ => rfl
  | (i, b) :: h, k, c => by
    simp only [hset]
    split
    · rfl
    · simp only [dom, List.map_cons]; exact congrArg _ (dom_hset h k c)
theorem mem_hset : ∀ {h : Heap} {k : Nat} {c : Blk} {p : Nat × Blk}, (dom h).Nodup → p ∈ hset h k c → (p.1 ≠ k ∧ p ∈ h) ∨ p = (k, c)
  | [], _, _, _, _, hp => by simp [hset] at hp
  | (i, b) :: h, k, c, p, nd, hp => by
    simp only [dom, List.map_cons, List.nodup_cons] at nd
    simp only [hset] at hp
    split at hp
    · rename_i hik
      rcases List.mem_cons.1 hp with rfl | hp
      · exact .inr (by rw [hik])
      · refine .inl ⟨fun e => nd.1 ?_, List.mem_cons_of_mem _ hp⟩
        show i ∈ _
        rw [hik, ← e]
        exact List.mem_map.2 ⟨p, hp, rfl⟩
    · rename_i hik
      rcases List.mem_cons.1 hp with rfl | hp
      · exact .inl ⟨hik, List.mem_cons_self ..⟩
      · rcases mem_hset nd.2 hp with ⟨h1, h2⟩ | h1
        · exact .inl ⟨h1, List.mem_cons_of_mem _ h2⟩
        · exact .inr h1
theorem mem_hdel : ∀ {h : Heap} {k : Nat} {p : Nat × Blk}, (dom h).Nodup → p ∈ hdel h k → p.1 ≠ k ∧ p ∈ h
  | [], _, _, _, hp => by simp [hdel] at hp
  | (i, b) :: h, k, p, nd, hp => by
    simp only [dom, List.map_cons, List.nodup_cons] at nd
    simp only [hdel] at hp
    split at hp
    · rename_i hik
      refine ⟨fun e => nd.1 ?_, List.mem_cons_of_mem _ hp⟩
      show i ∈ _
      rw [hik, ← e]
      exact List.mem_map.2 ⟨p, hp, rfl⟩
    · rename_i hik
      rcases List.mem_cons.1 hp with rfl | hp
      · exact ⟨hik, List.mem_cons_self ..⟩
      · exact ⟨(mem_hdel nd.2 hp).1, List.mem_cons_of_mem _ (mem_hdel nd.2 hp).2⟩
theorem dom_hdel_sub : ∀ {h : Heap} {k : Nat} {x : Nat}, x ∈ dom (hdel h k) → x ∈ dom h
  | [], _, _, hp => by simp [hdel, dom] at hp
  | (i, b) :: h, k, x, hp => by
    simp only [hdel] at hp
    split at hp
    · exact List.mem_cons_of_mem _ hp
    · rcases List.mem_cons.1 hp with rfl | hp
      · exact List.mem_cons_self ..
      · exact List.mem_cons_of_mem _ (dom_hdel_sub hp)
theorem nodup_hdel : ∀ {h : Heap} {k : Nat}, (dom h).Nodup → (dom (hdel h k)).Nodup
  | [], _, nd => nd
  | (i, b) :: h, k, nd => by
    simp only [dom, List.map_cons, List.nodup_cons] at nd
    simp only [hdel]
    split
    · exact nd.2
    · simp only [dom, List.map_cons, List.nodup_cons]
      exact ⟨fun hm => nd.1 (dom_hdel_sub hm), nodup_hdel nd.2⟩

/-- Is it told that draws are only added (not where contracts of the library are used that do not tell it)? -/
def drawF : Bool := true
/-- Package-level variables that are told whole (none, but where a seat needs them). -/
def laidV : List (Nat × Array Value) := []
/-- Package-level variables of one cell of which only the kind is told: true: an int; false: an interface. -/
def laidS : List (Nat × Bool) := []
def okS (b : Bool) (v : Value) : Prop := if b then ∃ m, v = .int .i64 m else v = .nilIface ∨ ∃ t p, v = .iface t p
def Fix (w : World) (D : List Nat) : Prop := (∀ p ∈ laidV, p.1 ∉ D ∧ ∃ el fz, w.heap[p.1]? = some (.cells p.2 el fz)) ∧ ∀ p ∈ laidS, p.1 ∉ D ∧ ∃ v, w.cell? ⟨p.1, 0, none⟩ = some v ∧ okS p.2 v
theorem Fix.mono {w w' : World} {D D' : List Nat} (F : Fix w D) (K : Keeps w w' D D') : Fix w' D' := by
  refine ⟨fun p hp => ?_, fun p hp => ?_⟩
  · obtain ⟨h1, el, fz, e⟩ := F.1 p hp
    have hlt := (Array.getElem?_eq_some_iff.1 e).1
    exact ⟨K.dom _ hlt h1, el, fz, (K.block _ hlt h1).trans e⟩
  · obtain ⟨h1, v, e, ho⟩ := F.2 p hp
    have hlt : p.1 < w.heap.size := World.block_lt_of_cell? _ _ e
    have hb := K.block _ hlt h1
    exact ⟨K.dom _ hlt h1, v, (by simp only [World.cell?] at e ⊢; rw [hb]; exact e), ho⟩
/-- The world holds the blocks of the abstract memory. -/
structure HRel (w : World) (h : Heap) : Prop where
  nd : (dom h).Nodup
  all : ∀ p ∈ h, ∃ c el, w.heap[p.1]? = some (.cells c el (0, 0)) ∧ Elems w (dom h) p.2.sz p.2.l p.1 0
  fix : Fix w (dom h)

theorem HRel.lt {w : World} {h : Heap} (H : HRel w h) {k : Nat} (hk : k ∈ dom h) : k < w.heap.size := by
  obtain ⟨p, hp, rfl⟩ := List.mem_map.1 hk
  obtain ⟨c, el, e, _⟩ := H.all p hp
  exact (Array.getElem?_eq_some_iff.1 e).1

/-- What a piece of the run does to the world: what is not of the blocks that may be written stands. -/
structure Evolve (w : World) (D : List Nat) (w' : World) (D' : List Nat) : Prop where
  keeps : Keeps w w' D D'
  os : w'.os = w.os
  tape : w'.tape = w.tape
  output : w'.output = w.output
  drawn : drawF = true → w.drawn ≤ w'.drawn

theorem Keeps.refl (w : World) (D : List Nat) : Keeps w w D D := ⟨Nat.le_refl _, fun _ _ _ => rfl, fun _ _ h => h, fun _ c _ _ h => ⟨c, h, rfl⟩⟩
theorem Keeps.trans {a b c : World} {D E F : List Nat} (h : Keeps a b D E) (k : Keeps b c E F) : Keeps a c D F :=
  ⟨Nat.le_trans h.size k.size, fun i hi hd => (k.block i (Nat.lt_of_lt_of_le hi h.size) (h.dom i hi hd)).trans (h.block i hi hd),
    fun i hi hd => k.dom i (Nat.lt_of_lt_of_le hi h.size) (h.dom i hi hd), fun i c el fz hc => by
      obtain ⟨c1, g1, g2⟩ := h.rows i c el fz hc
      obtain ⟨c2, g3, g4⟩ := k.rows i c1 el fz g1
      exact ⟨c2, g3, g4.trans g2⟩⟩
theorem Evolve.refl (w : World) (D : List Nat) : Evolve w D w D := ⟨.refl w D, rfl, rfl, rfl, fun _ => Nat.le_refl _⟩
theorem Evolve.trans {a b c : World} {D E F : List Nat} (h : Evolve a D b E) (k : Evolve b E c F) : Evolve a D c F :=
  ⟨h.keeps.trans k.keeps, k.os.trans h.os, k.tape.trans h.tape, k.output.trans h.output, fun hd => Nat.le_trans (h.drawn hd) (k.drawn hd)⟩

theorem Keeps.drew (w : World) (D : List Nat) : Keeps w { w with drawn := w.drawn + 1 } D D := ⟨Nat.le_refl _, fun _ _ _ => rfl, fun _ _ h => h, fun _ c _ _ h => ⟨c, h, rfl⟩⟩
theorem Evolve.drew (w : World) (D : List Nat) : Evolve w D { w with drawn := w.drawn + 1 } D := ⟨.drew w D, rfl, rfl, rfl, fun _ => Nat.le_succ _⟩
theorem HRel.drew {w : World} {h : Heap} (H : HRel w h) : HRel { w with drawn := w.drawn + 1 } h :=
  ⟨H.nd, fun p hp => (by
    obtain ⟨c, el, e, hE⟩ := H.all p hp
    exact ⟨c, el, e, Elems.mono (.drew w _) _ _ _ _ (fun _ => rfl) hE⟩), H.fix.mono (.drew w _)⟩

/-- Fewer blocks may be written from here on. -/
theorem HRel.del {w : World} {h : Heap} (H : HRel w h) (k : Nat) : HRel w (hdel h k) ∧ Evolve w (dom h) w (dom (hdel h k)) := by
  have K : Keeps w w (dom h) (dom (hdel h k)) := ⟨Nat.le_refl _, fun _ _ _ => rfl, fun b _ hb hm => hb (dom_hdel_sub hm), fun _ c _ _ h => ⟨c, h, rfl⟩⟩
  refine ⟨⟨nodup_hdel H.nd, fun p hp => ?_, H.fix.mono K⟩, ⟨K, rfl, rfl, rfl, fun _ => Nat.le_refl _⟩⟩
  obtain ⟨c, el, e, hE⟩ := H.all p (mem_hdel H.nd hp).2
  exact ⟨c, el, e, Elems.mono K _ _ _ _ (fun _ => rfl) hE⟩

theorem alloc_rows (w : World) (o : Obj) (b : Nat) (c : Array Value) (el : TypeId) (fz : Nat × Nat) (h : w.heap[b]? = some (.cells c el fz)) : ∃ c', (w.alloc o).heap[b]? = some (.cells c' el fz) ∧ c'.size = c.size :=
  ⟨c, (Below.heap_alloc w o b (Array.getElem?_eq_some_iff.1 h).1).trans h, rfl⟩
/-- A new block that may be written. -/
theorem HRel.alloc {w : World} {h : Heap} (H : HRel w h) (c : Array Value) (el : TypeId) (blk : Blk)
    (hE : Elems (w.alloc (.cells c el)) (w.heap.size :: dom h) blk.sz blk.l w.heap.size 0) :
    HRel (w.alloc (.cells c el)) ((w.heap.size, blk) :: h) ∧ Evolve w (dom h) (w.alloc (.cells c el)) (w.heap.size :: dom h) := by
  have K : Keeps w (w.alloc (.cells c el)) (dom h) (w.heap.size :: dom h) := by
    refine ⟨by simp, fun b hb _ => Below.heap_alloc _ _ _ hb, fun b hb hd hm => ?_, alloc_rows w _⟩
    rcases List.mem_cons.1 hm with rfl | hm
    · omega
    · exact hd hm
  refine ⟨⟨?_, fun p hp => ?_, H.fix.mono K⟩, ⟨K, rfl, rfl, rfl, fun _ => Nat.le_refl _⟩⟩
  · simp only [dom, List.map_cons, List.nodup_cons]
    exact ⟨fun hm => Nat.lt_irrefl _ (H.lt hm), H.nd⟩
  · rcases List.mem_cons.1 hp with rfl | hp
    · exact ⟨c, el, by show (w.heap.push _)[w.heap.size]? = _; simp, hE⟩
    · obtain ⟨c', el', e, hE'⟩ := H.all p hp
      have hlt := H.lt (List.mem_map.2 ⟨p, hp, rfl⟩)
      have hb := Below.heap_alloc w (.cells c el) p.1 hlt
      exact ⟨c', el', hb.trans e, Elems.mono K _ _ _ _ (fun o => cell_block hb o) hE'⟩
/-- A new block that nobody will write. -/
theorem HRel.alloc_fixed {w : World} {h : Heap} (H : HRel w h) (c : Array Value) (el : TypeId) :
    HRel (w.alloc (.cells c el)) h ∧ Evolve w (dom h) (w.alloc (.cells c el)) (dom h) := by
  have K : Keeps w (w.alloc (.cells c el)) (dom h) (dom h) := ⟨by simp, fun b hb _ => Below.heap_alloc _ _ _ hb, fun _ _ hd => hd, alloc_rows w _⟩
  refine ⟨⟨H.nd, fun p hp => ?_, H.fix.mono K⟩, ⟨K, rfl, rfl, rfl, fun _ => Nat.le_refl _⟩⟩
  obtain ⟨c', el', e, hE'⟩ := H.all p hp
  have hlt := H.lt (List.mem_map.2 ⟨p, hp, rfl⟩)
  have hb := Below.heap_alloc w (.cells c el) p.1 hlt
  exact ⟨c', el', hb.trans e, Elems.mono K _ _ _ _ (fun o => cell_block hb o) hE'⟩
/-- Writes into one block: the world behind them has another row of cells there. -/
theorem HRel.write {w w' : World} {h : Heap} (H : HRel w h) {k : Nat} {blk' : Blk} (hk : k ∈ dom h)
    (hsz : w'.heap.size = w.heap.size) (hoth : ∀ b, b ≠ k → w'.heap[b]? = w.heap[b]?)
    (hc : ∀ (c : Array Value) (el : TypeId) (fz : Nat × Nat), w.heap[k]? = some (.cells c el fz) → ∃ c', w'.heap[k]? = some (.cells c' el fz) ∧ c'.size = c.size) (hE : Keeps w w' (dom h) (dom h) → Elems w' (dom h) blk'.sz blk'.l k 0)
    (hos : w'.os = w.os) (htape : w'.tape = w.tape) (hout : w'.output = w.output) (hdr : w.drawn ≤ w'.drawn := by first | exact Nat.le_refl _ | simp) :
    HRel w' (hset h k blk') ∧ Evolve w (dom h) w' (dom (hset h k blk')) := by
  have K : Keeps w w' (dom h) (dom h) := ⟨by omega, fun b _ hd => hoth b (fun e => hd (e ▸ hk)), fun _ _ hd => hd, fun b c el fz h => by
    by_cases hb : b = k
    · subst hb; exact hc c el fz h
    · exact ⟨c, (hoth b hb).trans h, rfl⟩⟩
  refine ⟨⟨by rw [dom_hset]; exact H.nd, fun p hp => ?_, by rw [dom_hset]; exact H.fix.mono K⟩, ⟨by rw [dom_hset]; exact K, hos, htape, hout, fun _ => hdr⟩⟩
  rw [dom_hset]
  rcases mem_hset H.nd hp with ⟨hne, hp⟩ | rfl
  · obtain ⟨c', el', e, hE'⟩ := H.all p hp
    exact ⟨c', el', (hoth _ hne).trans e, Elems.mono K _ _ _ _ (fun o => cell_block (hoth _ hne) o) hE'⟩
  · obtain ⟨q, hq, hqk⟩ := List.mem_map.1 hk
    obtain ⟨c0, el, e0, _⟩ := H.all q hq
    rw [hqk] at e0
    obtain ⟨c, e, _⟩ := hc c0 el (0, 0) e0
    exact ⟨c, el, e, hE K⟩
end Go.AG
