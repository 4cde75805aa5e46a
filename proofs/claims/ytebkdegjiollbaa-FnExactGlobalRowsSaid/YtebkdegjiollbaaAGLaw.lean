/- Our own small layer: a law's arguments as abstract values, and a law that is true as the given statement wants it. No statement about the program is made here. -/
import Derived.Test.YtebkdegjiollbaaAGXS
import GoSem.Claim
import GoSem.ClaimJoined
import GoSem.ClaimMapViews
import Derived.JoinedTies
import Derived.KernelRfl
import Derived.ProofKit
namespace Go.AG
open Go.RowKit Go.ChangeShapes Go.WideShapes Go.ChangeAt

/-- Shapes of a law's parameters; a struct's fields in a row. -/
inductive Ty where
  | int (k : IntKind)
  | bool
  | str
  | slice (e : Ty)
  | nil
  | cons (t r : Ty)
  | struct (f : Ty)
def Ty.n : Ty → Nat
  | .nil => 0
  | .cons t r => t.n + r.n
  | .struct f => f.n
  | _ => 1
def Ty.isS : Ty → Bool
  | .struct _ => true
  | _ => false
mutual
def tyOk (P : Program) : Ty → TypeId → Bool
  | .int k, t => match P.underlying t with
    | some (.int k') => decide (k' = k)
    | _ => false
  | .bool, t => match P.underlying t with
    | some .bool => true
    | _ => false
  | .str, t => match P.underlying t with
    | some .string => true
    | _ => false
  | .slice e, t => match P.underlying t with
    | some (.slice u) => tyOk P e u && P.cellsOf u == e.n && decide (0 < e.n)
    | _ => false
  | .struct f, t => match P.underlying t with
    | some (.struct fs) => P.cellsOf t == f.n && fsOk P f 0 fs.toList
    | _ => false
  | .nil, _ => false
  | .cons .., _ => false
def fsOk (P : Program) : Ty → Nat → List Field → Bool
  | .nil, _, [] => true
  | .cons t r, off, f :: fs => f.offset == off && P.cellsOf f.type == t.n && tyOk P t f.type && fsOk P r (off + t.n) fs
  | _, _, _ => false
end
def isAgg : AV → Bool
  | .agg _ => true
  | _ => false
/-- Cells of a shape. -/
def shC : Ty → List AV → Prop
  | .int k, l => ∃ n, l = [.int k n] ∧ k.min ≤ n ∧ n ≤ k.max
  | .bool, l => ∃ b, l = [.bool b]
  | .str, l => ∃ s, l = [.str s] ∧ s.length ≤ maxLen
  | .slice e, l => ∃ xs, l = [.snap e.n xs] ∧ xs.length ≤ maxLen ∧ ∀ x ∈ xs, isAgg x = e.isS ∧ shC e (cellsOf x)
  | .nil, l => l = []
  | .cons t r, l => ∃ a b, l = a ++ b ∧ shC t a ∧ shC r b
  | .struct f, l => shC f l
def shV (t : Ty) (v : AV) : Prop := isAgg v = t.isS ∧ shC t (cellsOf v)

theorem shC_cell : ∀ (t : Ty) (l : List AV), shC t l → l.all isCell = true
  | .int _, _, ⟨_, e, _⟩ => by subst e; rfl
  | .bool, _, ⟨_, e⟩ => by subst e; rfl
  | .str, _, ⟨_, e, _⟩ => by subst e; rfl
  | .slice _, _, ⟨_, e, _⟩ => by subst e; rfl
  | .nil, _, e => by have : _ = [] := e; subst this; rfl
  | .cons t r, _, ⟨a, b, e, h1, h2⟩ => by subst e; rw [List.all_append, shC_cell t a h1, shC_cell r b h2]; rfl
  | .struct f, l, h => shC_cell f l h
theorem shC_len : ∀ (t : Ty) (l : List AV), shC t l → l.length = t.n
  | .int _, _, ⟨_, e, _⟩ => by subst e; rfl
  | .bool, _, ⟨_, e⟩ => by subst e; rfl
  | .str, _, ⟨_, e, _⟩ => by subst e; rfl
  | .slice _, _, ⟨_, e, _⟩ => by subst e; rfl
  | .nil, _, e => by have : _ = [] := e; subst this; rfl
  | .cons t r, _, ⟨a, b, e, h1, h2⟩ => by subst e; rw [List.length_append, shC_len t a h1, shC_len r b h2]; rfl
  | .struct f, l, h => shC_len f l h
/-- The value that these cells make. -/
def valOf (t : Ty) (l : List AV) : AV := if t.isS then .agg l else l.headD .undef
theorem valOf_sh {P : Program} {t : Ty} {u : TypeId} (hok : tyOk P t u = true) {l : List AV} (h : shC t l) : isAgg (valOf t l) = t.isS ∧ cellsOf (valOf t l) = l := by
  cases t with
  | int k => obtain ⟨n, rfl, _⟩ := h; exact ⟨rfl, rfl⟩
  | bool => obtain ⟨n, rfl⟩ := h; exact ⟨rfl, rfl⟩
  | str => obtain ⟨n, rfl, _⟩ := h; exact ⟨rfl, rfl⟩
  | slice e => obtain ⟨n, rfl, _⟩ := h; exact ⟨rfl, rfl⟩
  | nil => simp [tyOk] at hok
  | cons t r => simp [tyOk] at hok
  | struct f => exact ⟨rfl, rfl⟩

theorem Reps_cells {w : World} {D : List Nat} : ∀ {l : List AV} {cs : List Value} {b o : Nat}, Reps w D l cs → l.all isCell = true → (∀ j v, cs[j]? = some v → w.cell? ⟨b, o + j, none⟩ = some v) → Cells w D l b o := by
  intro l cs b o r hc hv
  rw [Cells_iff]
  intro j x hx
  obtain ⟨v, h1, h2⟩ := Reps_get r j x hx
  have hxc : isCell x = true := List.all_eq_true.1 hc x (List.mem_of_getElem? hx)
  exact ⟨v, hv j v h1, h2.oneCell hxc, h2⟩
theorem cells?_get {w : World} {base : Nat} {a : Addr} {n : Nat} {cs : List Value} (h : w.cells? base a n = some cs) : cs.length = n ∧ ∀ j v, cs[j]? = some v → w.cell? (a.add j) = some v := by
  unfold World.cells? at h
  split at h
  · have hl := mapM_some_length h
    simp only [List.length_range] at hl
    refine ⟨hl, fun j v hj => ?_⟩
    have hjn : j < n := by have := (List.getElem?_eq_some_iff.1 hj).1; omega
    have := mapM_some_get h j j (by simp [hjn])
    rw [this]; exact hj
  · cases h
theorem cell_spot {w : World} {a : Addr} {v : Value} (h : w.cell? a = some v) : a.spot = none ∧ a.block < w.heap.size := by
  unfold World.cell? at h
  split at h
  · rename_i c _ _ hb
    split at h
    · cases h
    · rename_i hs
      exact ⟨by simpa using hs, (Array.getElem?_eq_some_iff.1 hb).1⟩
  · cases h

section
variable {H : Type} {enc : TypeId × Value → H} {P : Program} {W : World}
theorem list_choice {α : Type} {p : Nat → α → Prop} : ∀ (n : Nat), (∀ i, i < n → ∃ x, p i x) → ∃ xs : List α, xs.length = n ∧ ∀ i x, xs[i]? = some x → p i x
  | 0, _ => ⟨[], rfl, by simp⟩
  | n + 1, h => by
    obtain ⟨xs, h1, h2⟩ := list_choice n fun i hi => h i (by omega)
    obtain ⟨x, hx⟩ := h n (by omega)
    refine ⟨xs ++ [x], by simp [h1], fun i y hy => ?_⟩
    rcases Nat.lt_or_ge i n with hlt | hge
    · rw [List.getElem?_append_left (by omega)] at hy; exact h2 i y hy
    · rw [List.getElem?_append_right (by omega)] at hy
      have : i = n := by have := (List.getElem?_eq_some_iff.1 hy).1; simp at this; omega
      subst this
      simp [h1] at hy
      subst hy; exact hx
mutual
theorem open_ty : ∀ (ty : Ty) (t : TypeId) (fuel : Nat) (cs : List Value) (x : DataW H × List MemPlace), tyOk P ty t = true → DataW.trod enc P W 0 (fun _ => true) true fuel t cs = some x → ∃ l, shC ty l ∧ Reps W [] l cs
  | .int k, t, fuel, cs, x, hok, h => by
    simp only [tyOk] at hok
    split at hok <;> first | (cases hok; done) | skip
    rename_i k' hu
    have hk : k' = k := by simpa using hok
    subst hk
    obtain ⟨m, rfl, _, hw⟩ := DataW.trod_int hu h
    simp only [Lit.wf, Bool.and_eq_true, decide_eq_true_eq] at hw
    exact ⟨[.int k' m], ⟨m, rfl, hw.1, hw.2⟩, _, [], rfl, rfl, rfl⟩
  | .bool, t, fuel, cs, x, hok, h => by
    simp only [tyOk] at hok
    split at hok <;> first | (cases hok; done) | skip
    rename_i hu
    obtain ⟨b, rfl, _⟩ := DataW.trod_bool hu h
    exact ⟨[.bool b], ⟨b, rfl⟩, _, [], rfl, rfl, rfl⟩
  | .str, t, fuel, cs, x, hok, h => by
    simp only [tyOk] at hok
    split at hok <;> first | (cases hok; done) | skip
    rename_i hu
    obtain ⟨s, rfl, _, hs⟩ := DataW.trod_string hu h
    exact ⟨[.str s.data.toList], ⟨s.data.toList, rfl, by simpa using hs⟩, .string s, [], rfl, rfl, rfl⟩
  | .slice e, t, fuel, cs, x, hok, h => by
    simp only [tyOk] at hok
    split at hok <;> first | (cases hok; done) | skip
    rename_i u hu
    simp only [Bool.and_eq_true, beq_iff_eq, decide_eq_true_eq] at hok
    obtain ⟨⟨hok, hce⟩, hpos⟩ := hok
    rcases DataW.trod_slice hu h with ⟨rfl, _⟩ | ⟨a, len, cap, elems, rest, n, _, rfl, _, _, hl, hm, hlen, hel, _, _⟩
    · exact ⟨[.snap e.n []], ⟨[], rfl, Nat.zero_le _, by simp⟩, _, [], rfl, ⟨none, 0, rfl, Nat.le_refl _, fun _ => rfl, by simp⟩, rfl⟩
    · have hz : 0 < len → a.spot = none ∧ a.block < W.heap.size := by
        intro h0
        have h1 := hel 0 h0
        obtain ⟨y, hy⟩ : ∃ y, elems[0]? = some y := ⟨elems[0], List.getElem?_eq_getElem (by omega)⟩
        rw [hy, Option.bind_eq_some_iff] at h1
        obtain ⟨cs, g1, g2⟩ := h1
        obtain ⟨c1, c2⟩ := cells?_get g1
        have hcs : 0 < cs.length := by omega
        have hc0 := c2 0 cs[0] (List.getElem?_eq_getElem hcs)
        rw [Nat.zero_mul, Addr.add_zero', Addr.add_zero'] at hc0
        exact cell_spot hc0
      have each : ∀ i, i < len → ∃ y, (isAgg y = e.isS ∧ shC e (cellsOf y)) ∧ ((cellsOf y).length = e.n ∧ Cells W [] (cellsOf y) a.block (a.off + i * e.n)) ∧ a.spot = none ∧ a.block < W.heap.size := by
        intro i hi
        have h1 := hel i hi
        have : ∃ y, elems[i]? = some y := ⟨elems[i], List.getElem?_eq_getElem (by omega)⟩
        obtain ⟨y, hy⟩ := this
        rw [hy, Option.bind_eq_some_iff] at h1
        obtain ⟨cs, g1, g2⟩ := h1
        obtain ⟨l, s1, s2⟩ := open_ty e u n cs y hok g2
        obtain ⟨v1, v2⟩ := valOf_sh hok s1
        obtain ⟨c1, c2⟩ := cells?_get g1
        have hl1 := shC_len e l s1
        have hl2 := Reps_length s2
        obtain ⟨hsp', hbk⟩ := hz (by omega)
        refine ⟨valOf e l, ⟨v1, by rw [v2]; exact s1⟩, ⟨by rw [v2]; exact hl1, ?_⟩, hsp', hbk⟩
        rw [v2]
        refine Reps_cells s2 (shC_cell e l s1) fun j v hj => ?_
        have := c2 j v hj
        obtain ⟨ab, ao, as⟩ := a
        simp only at hsp'
        subst hsp'
        rw [Addr.add_lit, Addr.add_lit] at this
        rw [← hce]
        exact this
      obtain ⟨xs, x1, x2⟩ := list_choice len each
      refine ⟨[.snap e.n xs], ⟨xs, rfl, by omega, fun y hy => ?_⟩, _, [], rfl, ⟨some a, cap, by rw [x1], by omega, fun h => by simp at h, fun ad had => ?_⟩, rfl⟩
      · obtain ⟨i, hi, rfl⟩ := List.mem_iff_getElem.1 hy
        exact (x2 i _ (List.getElem?_eq_getElem hi)).1
      · cases had
        refine ⟨fun hne => ?_, fun hne => ?_, ?_⟩
        · have : 0 < xs.length := List.length_pos_iff.2 hne
          exact (x2 0 _ (List.getElem?_eq_getElem this)).2.2.1
        · have : 0 < xs.length := List.length_pos_iff.2 hne
          exact ⟨by simp, (x2 0 _ (List.getElem?_eq_getElem this)).2.2.2⟩
        · rw [Elems_iff]
          exact fun i y hy => (x2 i y hy).2.1
  | .struct f, t, fuel, cs, x, hok, h => by
    simp only [tyOk] at hok
    split at hok <;> first | (cases hok; done) | skip
    rename_i fs hu
    simp only [Bool.and_eq_true, beq_iff_eq] at hok
    obtain ⟨xs, n, _, _, hl, hlen, hf⟩ := DataW.trod_struct hu h
    obtain ⟨l, h1, h2⟩ := open_fs f 0 fs.toList cs hok.2 (fun fd hfd => by
      obtain ⟨i, hi, rfl⟩ := List.mem_iff_getElem.1 hfd
      have hi' : i < fs.size := by simpa using hi
      have := hf i fs[i] (Array.getElem?_eq_getElem hi')
      have hx : ∃ y, xs[i]? = some y := ⟨xs[i], List.getElem?_eq_getElem (by omega)⟩
      obtain ⟨y, hy⟩ := hx
      rw [hy] at this
      exact ⟨n, y, by simpa using this⟩) (by rw [hl, hok.1]; omega)
    exact ⟨l, h1, by simpa using h2⟩
  | .nil, _, _, _, _, hok, _ => by simp [tyOk] at hok
  | .cons _ _, _, _, _, _, hok, _ => by simp [tyOk] at hok
theorem open_fs : ∀ (ty : Ty) (off : Nat) (fs : List Field) (cs : List Value), fsOk P ty off fs = true →
    (∀ f ∈ fs, ∃ (n : Nat) (y : DataW H × List MemPlace), DataW.trod enc P W 0 (fun _ => true) true n f.type ((cs.drop f.offset).take (P.cellsOf f.type)) = some y) → cs.length = off + ty.n → ∃ l, shC ty l ∧ Reps W [] l (cs.drop off)
  | .nil, off, [], cs, _, _, hl => ⟨[], rfl, by
      have : cs.drop off = [] := List.drop_eq_nil_of_le (by simp only [Ty.n] at hl; omega)
      rw [this]; rfl⟩
  | .cons t r, off, f :: fs, cs, hok, hall, hl => by
    simp only [fsOk, Bool.and_eq_true, beq_iff_eq] at hok
    obtain ⟨⟨⟨h1, h2⟩, h3⟩, h4⟩ := hok
    obtain ⟨n, y, hy⟩ := hall f (List.mem_cons_self ..)
    obtain ⟨a, a1, a2⟩ := open_ty t f.type n _ y h3 hy
    simp only [Ty.n] at hl
    obtain ⟨b, b1, b2⟩ := open_fs r (off + t.n) fs cs h4 (fun g hg => hall g (List.mem_cons_of_mem _ hg)) (by omega)
    refine ⟨a ++ b, ⟨a, b, rfl, a1, b1⟩, ?_⟩
    have := Reps_append a2 b2
    rw [h1, h2] at this
    have e : (cs.drop off).take t.n ++ cs.drop (off + t.n) = cs.drop off := by
      rw [← List.drop_drop, List.take_append_drop]
    rw [e] at this
    exact this
  | .nil, _, _ :: _, _, hok, _, _ => by simp [fsOk] at hok
  | .cons _ _, _, [], _, hok, _, _ => by simp [fsOk] at hok
  | .int _, _, _, _, hok, _, _ => by simp [fsOk] at hok
  | .bool, _, _, _, hok, _, _ => by simp [fsOk] at hok
  | .str, _, _, _, hok, _, _ => by simp [fsOk] at hok
  | .slice _, _, _, _, hok, _, _ => by simp [fsOk] at hok
  | .struct _, _, _, _, hok, _, _ => by simp [fsOk] at hok
end
theorem open_val {ty : Ty} {t : TypeId} {v : Value} {d : DataW H} {ps : List MemPlace} {r : Reach} {b0 : Nat} (hok : tyOk P ty t = true) (hval : Value.okWide P W r b0 t v) (hd : DataW.Trod enc P W 0 (fun _ => true) true t v d ps) : ∃ x, shV ty x ∧ Rep W [] x v := by
  obtain ⟨fuel, hf⟩ := hd
  obtain ⟨l, h1, h2⟩ := open_ty ty t fuel _ _ hok hf
  have one : (∀ cs, v ≠ .agg cs) → ty.isS = false → ∃ x, shV ty x ∧ Rep W [] x v := by
    intro hn hs
    have hc : v.cells.toList = [v] := by cases v <;> first | rfl | exact absurd rfl (hn _)
    rw [hc] at h2
    obtain ⟨v1, v2⟩ := valOf_sh hok h1
    refine ⟨valOf ty l, ⟨v1, by rw [v2]; exact h1⟩, ?_⟩
    cases l with
    | nil => cases h2
    | cons x l =>
      obtain ⟨u, r, e, g1, g2⟩ := h2
      cases e
      simp only [valOf, hs, Bool.false_eq_true, if_false, List.headD_cons]
      exact g1
  cases ty with
  | int k =>
    refine one (fun cs hv => ?_) rfl
    subst hv
    simp only [tyOk] at hok
    split at hok <;> first | (cases hok; done) | skip
    rename_i hu
    simp [Value.okWide, Cell.okWide, Cell.ok, hu] at hval
  | bool =>
    refine one (fun cs hv => ?_) rfl
    subst hv
    simp only [tyOk] at hok
    split at hok <;> first | (cases hok; done) | skip
    rename_i hu
    simp [Value.okWide, Cell.okWide, Cell.ok, hu] at hval
  | str =>
    refine one (fun cs hv => ?_) rfl
    subst hv
    simp only [tyOk] at hok
    split at hok <;> first | (cases hok; done) | skip
    rename_i hu
    simp [Value.okWide, Cell.okWide, Cell.ok, hu] at hval
  | slice e =>
    refine one (fun cs hv => ?_) rfl
    subst hv
    simp only [tyOk] at hok
    split at hok <;> first | (cases hok; done) | skip
    rename_i hu
    simp [Value.okWide, Cell.okWide, Cell.ok, hu] at hval
  | struct f =>
    simp only [tyOk] at hok
    split at hok <;> first | (cases hok; done) | skip
    rename_i hu
    simp only [Value.okWide, hu] at hval
    obtain ⟨cs, rfl, _⟩ := hval
    exact ⟨.agg l, ⟨rfl, h1⟩, cs.toList, by simp, h2⟩
  | nil => simp [tyOk] at hok
  | cons t r => simp [tyOk] at hok
def tysOk (P : Program) : List Ty → List TypeId → Bool
  | [], [] => true
  | ty :: tys, t :: ts => tyOk P ty t && tysOk P tys ts
  | _, _ => false
def shVs : List Ty → List AV → Prop
  | [], xs => xs = []
  | ty :: tys, xs => ∃ x r, xs = x :: r ∧ shV ty x ∧ shVs tys r
theorem open_vals {r : Reach} {b0 : Nat} : ∀ {tys : List Ty} {ts : List TypeId} {vs : List Value} {ds : List (DataW H)} {ps : List MemPlace}, tysOk P tys ts = true → (∀ (j : Nat) t v, ts[j]? = some t → vs[j]? = some v → Value.okWide P W r b0 t v) →
    DataW.TrodAll enc P W 0 (fun _ => true) true ts vs ds ps → ∃ xs, shVs tys xs ∧ Reps W [] xs vs
  | [], [], [], [], _, _, _, _ => ⟨[], rfl, rfl⟩
  | ty :: tys, t :: ts, v :: vs, d :: ds, _, hok, hval, ⟨p, q, h1, h2, _⟩ => by
    simp only [tysOk, Bool.and_eq_true] at hok
    obtain ⟨x, g1, g2⟩ := open_val hok.1 (hval 0 t v rfl rfl) h1
    obtain ⟨xs, g3, g4⟩ := open_vals hok.2 (fun j t v h h' => hval (j + 1) t v (by simpa using h) (by simpa using h')) h2
    exact ⟨x :: xs, ⟨x, xs, rfl, g1, g3⟩, v, vs, rfl, g2, g4⟩
  | [], t :: ts, _, _, _, hok, _, _ => by simp [tysOk] at hok
  | ty :: tys, [], _, _, _, hok, _, _ => by simp [tysOk] at hok
  | [], [], [], _ :: _, _, _, _, h => h.elim
  | [], [], _ :: _, _, _, _, _, h => h.elim
  | _ :: _, _ :: _, [], _, _, _, _, h => h.elim
  | _ :: _, _ :: _, _ :: _, [], _, _, _, h => h.elim

theorem Evolve.below {W' : World} (h : Evolve W [] W' []) : Below W.heap.size W W' := ⟨h.os, h.tape, h.output, h.keeps.size, fun k hk => h.keeps.block k hk (by simp)⟩
theorem trod_all_below (hl : laidOutB P = true) {W' : World} (hb : Below W.heap.size W W') : ∀ {ts : List TypeId} {vs : List Value} {ds : List (DataW H)} {ps : List MemPlace}, (ts.all fun t => P.readableRec t && decide (t < P.types.size)) = true → (∀ x ∈ ps, x.block < W.heap.size) →
    DataW.TrodAll enc P W 0 (fun _ => true) true ts vs ds ps → DataW.TrodAll enc P W' 0 (fun b => decide (b < W.heap.size)) true ts vs ds ps
  | [], [], [], _, _, _, h => h
  | t :: ts, v :: vs, d :: ds, _, hr, hlt, ⟨p, q, h1, h2, e⟩ => by
    subst e
    simp only [List.all_cons, Bool.and_eq_true, decide_eq_true_eq] at hr
    exact ⟨p, q, Below.trod hl hr.1.1 hr.1.2 h1 hb (fun x hx => hlt x (List.mem_append_left _ hx)), trod_all_below hl hb hr.2 (fun x hx => hlt x (List.mem_append_right _ hx)) h2, rfl⟩
  | [], [], _ :: _, _, _, _, h => h.elim
  | [], _ :: _, [], _, _, _, h => h.elim
  | [], _ :: _, _ :: _, _, _, _, h => h.elim
  | _ :: _, [], [], _, _, _, h => h.elim
  | _ :: _, [], _ :: _, _, _, _, h => h.elim
  | _ :: _, _ :: _, [], _, _, _, h => h.elim
theorem trodAll_len {base : Nat} {sp : Nat → Bool} {hd : Bool} : ∀ {tys : List Ty} {ts : List TypeId} {vs : List Value} {ds : List (DataW H)} {ps : List MemPlace}, tysOk P tys ts = true → DataW.TrodAll enc P W base sp hd ts vs ds ps → ds.length = tys.length
  | [], [], [], [], _, _, _ => rfl
  | ty :: tys, t :: ts, v :: vs, d :: ds, _, hok, ⟨p, q, _, h2, _⟩ => by
    simp only [tysOk, Bool.and_eq_true] at hok
    simp only [List.length_cons, trodAll_len hok.2 h2]
  | [], t :: ts, _, _, _, hok, _ => by simp [tysOk] at hok
  | ty :: tys, [], _, _, _, hok, _ => by simp [tysOk] at hok
  | [], [], [], _ :: _, _, _, h => h.elim
  | [], [], _ :: _, _, _, _, h => h.elim
  | _ :: _, _ :: _, [], _, _, _, h => h.elim
  | _ :: _, _ :: _, _ :: _, [], _, _, h => h.elim
/-- A law that returns true and writes nothing that was there: as the given row wants it. -/
theorem law_post {f : Func} {s : ChangeSpec} {n : FuncId} {W : World} {base : Nat} {args : Array Value} {ds gs : List (DataW H)} {before : List MemPlace} {tys : List Ty} {tb : TypeId}
    (hl : laidOutB P = true) (hv : s.vars = []) (hrt : f.resultTypes = #[tb]) (htb : P.underlying tb = some .bool) (hr : (f.params.toList.all fun t => P.readableRec t && decide (t < P.types.size)) = true) (hok : tysOk P tys f.params.toList = true)
    (hval : ∀ (j : Nat) t v, f.params[j]? = some t → args[j]? = some v → Value.okWide P W .any base t v) (hW : DataW.Whole enc P f.params.toList s.vars false W args.toList ds gs before)
    (hfn0 : ∀ ds : List (DataW H), ds.length = tys.length → s.fn H ds = { results := [.lit (.bool true)], args := ds })
    (C : ∀ xs, shVs tys xs → ACalls P n xs [] fun v h' => v = .bool true ∧ h' = []) (hfix : Fix W []) :
    Calls P n args W fun e W' => ∃ v, e = .returned v ∧ s.post enc P f false true false false W args v W' := by
  have hW' := hW
  obtain ⟨p, q, hA, hV, rfl, hfz, hnd⟩ := hW
  have hgs : gs = [] ∧ q = [] := by
    rw [hv] at hV
    cases gs with
    | nil => exact ⟨rfl, hV⟩
    | cons g gs => exact hV.elim
  obtain ⟨rfl, rfl⟩ := hgs
  have hfn := hfn0 ds (trodAll_len hok hA)
  obtain ⟨xs, g1, g2⟩ := open_vals hok (fun j t v h h' => hval j t v (by simpa using h) (by simpa using h')) hA
  have HC := (C xs g1).2 W args.toList ⟨by simp [dom], by simp, hfix⟩ g2
  refine HC.mono fun e W' ⟨cv, v, h', e1, e2, e3, e4, e5, e6⟩ => ?_
  subst e5; subst e6
  have e2' : cv = .bool true := e2
  subst e2'
  have hb := Evolve.below e4
  refine ⟨_, e1, ds, [], p ++ [], [], p, [], hW', ?_, ?_, ?_, hb.frame _, fun h => nomatch h⟩
  · rw [List.append_nil, hfn, hrt]
    exact trodAll_mk1 ⟨1, by simp [DataW.trod, Value.cells, htb]⟩
  · rw [List.append_nil, hfn]
    exact trod_all_below hl hb hr (fun x hx => hW'.lt x (List.mem_append_left _ hx)) hA
  · rw [List.append_nil, hfn, hv]; rfl
end
end Go.AG
