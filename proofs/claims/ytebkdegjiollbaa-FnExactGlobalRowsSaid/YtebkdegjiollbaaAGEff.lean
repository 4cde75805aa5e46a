/- The operations of our own small layer that make or write memory are right. No statement about the program is made here. -/
import Derived.Test.YtebkdegjiollbaaAGCalm3
namespace Go.AG
open Go.RowKit
section
variable {P : Program} {M : List Nat} {w : World} {h : Heap} {e : Env} {tmps : Array Value} {ds : List Deferred}

theorem binK_det {op : BinOp} {x y : AV} {k : AV → Prop} (hk : binK op x y k) : ∃ v, binK op x y (· = v) ∧ k v := by
  unfold binK at hk ⊢
  split at hk
  · cases op <;> simp only at hk ⊢
    case shl => exact ⟨_, ⟨hk.1, rfl⟩, hk.2⟩
    case shr => exact ⟨_, ⟨hk.1, rfl⟩, hk.2⟩
    case quo => exact ⟨_, ⟨hk.1, hk.2.1, rfl⟩, hk.2.2⟩
    case rem => exact ⟨_, ⟨hk.1, hk.2.1, rfl⟩, hk.2.2⟩
    all_goals exact ⟨_, ⟨hk.1, rfl⟩, hk.2⟩
  · cases op <;> simp only at hk ⊢
    case add => exact ⟨_, ⟨hk.1, rfl⟩, hk.2⟩
    all_goals first | exact hk.elim | exact ⟨_, rfl, hk⟩
  · exact hk.elim
theorem sliceK_det {x : AV} {lo hi mx : Option Int} {k : AV → Prop} (hk : sliceK x lo hi mx k) : ∃ v, sliceK x lo hi mx (· = v) ∧ k v := by
  unfold sliceK at hk ⊢
  split at hk
  · exact ⟨_, ⟨hk.1, rfl⟩, hk.2⟩
  · exact ⟨_, ⟨hk.1, rfl⟩, hk.2⟩
  · obtain ⟨h1, h2⟩ := hk
    cases mx with
    | none => exact ⟨_, ⟨h1, rfl⟩, h2⟩
    | some m => exact ⟨_, ⟨h1, h2.1, rfl⟩, h2.2⟩
  · exact ⟨_, ⟨hk.1, rfl⟩, hk.2⟩
  · exact hk.elim
theorem opVC_det {op : SOp} {k : AV → Prop} (hk : opVC h e op k) : ∃ v, opVC h e op (· = v) ∧ k v := by
  cases op <;> simp only [opVC] at hk ⊢ <;> first | (exact hk.elim) | skip
  case mv => exact ⟨_, rfl, hk⟩
  case pick =>
    split at hk <;> first | (exact hk.elim) | skip
    rename_i t ht
    cases t
    · exact ⟨_, ⟨(fun h => by cases h), fun _ => rfl⟩, hk.2 rfl⟩
    · exact ⟨_, ⟨fun _ => rfl, (fun h => by cases h)⟩, hk.1 rfl⟩
  case bin => exact binK_det hk
  case beq => split at hk <;> first | (exact hk.elim) | exact ⟨_, rfl, hk⟩
  case eqs => split at hk <;> first | (exact hk.elim) | (obtain ⟨b, h1, h2⟩ := hk; exact ⟨_, ⟨b, h1, rfl⟩, h2⟩)
  case eqn => obtain ⟨b, h1, h2⟩ := hk; exact ⟨_, ⟨b, h1, rfl⟩, h2⟩
  case un => split at hk <;> first | (exact hk.elim) | exact ⟨_, rfl, hk⟩
  case conv => split at hk <;> first | (exact hk.elim) | exact ⟨_, rfl, hk⟩
  case fieldA => split at hk <;> first | (exact hk.elim) | exact ⟨_, rfl, hk⟩
  case field =>
    split at hk <;> first | (exact hk.elim) | skip
    split at hk
    · rename_i hag; simp only [hag, if_true]; exact ⟨_, rfl, hk⟩
    · rename_i hag
      obtain ⟨y, h1, h2⟩ := hk
      exact ⟨y, by rw [if_neg hag]; exact ⟨y, h1, rfl⟩, h2⟩
  case idxA =>
    split at hk <;> first | (exact hk.elim) | skip
    · obtain ⟨h1, h2, h3, h4⟩ := hk; exact ⟨_, ⟨h1, h2, h3, rfl⟩, h4⟩
    · obtain ⟨h1, h2, h3, h4⟩ := hk; exact ⟨_, ⟨h1, h2, h3, rfl⟩, h4⟩
  case idx => split at hk <;> first | (exact hk.elim) | (obtain ⟨h1, h2, h3⟩ := hk; exact ⟨_, ⟨h1, h2, rfl⟩, h3⟩)
  case load =>
    obtain ⟨cs, h1, h2⟩ := hk
    unfold loadK at h2
    split at h2
    · rename_i hag; exact ⟨_, ⟨cs, h1, by unfold loadK; rw [if_pos hag]; exact ⟨h2.1, rfl⟩⟩, h2.2⟩
    · rename_i hag
      split at h2 <;> first | (exact h2.elim) | skip
      rename_i x r
      exact ⟨x, ⟨_, h1, by unfold loadK; rw [if_neg hag]⟩, h2⟩
  case nilchk => split at hk <;> first | (exact hk.elim) | exact ⟨_, rfl, hk⟩
  case slice =>
    obtain ⟨hs, l, b1, h', b2, m, b3, hk⟩ := hk
    obtain ⟨v, h1, h2⟩ := sliceK_det hk
    exact ⟨v, ⟨hs, l, b1, h', b2, m, b3, h1⟩, h2⟩
  case sslice =>
    obtain ⟨l, b1, h', b2, hk⟩ := hk
    split at hk <;> first | (exact hk.elim) | skip
    obtain ⟨h1, h2, h3, h4⟩ := hk
    exact ⟨_, ⟨l, b1, h', b2, by first | exact ⟨h1, h2, h3, rfl⟩ | (simp only; exact ⟨h1, h2, h3, rfl⟩)⟩, h4⟩
  case mkfn => exact ⟨_, rfl, hk⟩
  case extract => split at hk <;> first | (exact hk.elim) | (obtain ⟨y, h1, h2⟩ := hk; exact ⟨y, ⟨y, h1, rfl⟩, h2⟩)
  case len => split at hk <;> first | (exact hk.elim) | exact ⟨_, rfl, hk⟩
  case capk => split at hk <;> first | (exact hk.elim) | exact ⟨_, rfl, hk⟩
  case slen => split at hk <;> first | (exact hk.elim) | exact ⟨_, rfl, hk⟩
  case bstr => split at hk <;> first | (exact hk.elim) | exact ⟨_, rfl, hk⟩ | (obtain ⟨y, h1, h2⟩ := hk; exact ⟨_, ⟨y, h1, rfl⟩, h2⟩)
  case mx => split at hk <;> first | (exact hk.elim) | (obtain ⟨y, h1, h2⟩ := hk; exact ⟨y, ⟨y, h1, rfl⟩, h2⟩)
  case box => exact ⟨_, ⟨hk.1, hk.2.1, hk.2.2.1, rfl⟩, hk.2.2.2⟩
  case alloc => exact ⟨_, ⟨hk.1, hk.2.1, hk.2.2.1, rfl⟩, hk.2.2.2⟩
  case build => obtain ⟨l, h1, h2⟩ := hk; exact ⟨_, ⟨l, h1, rfl⟩, h2⟩
  case bsl => exact ⟨_, ⟨hk.1, hk.2.1, rfl⟩, hk.2.2⟩

/-! ## Writes -/
def patched (c : Array Value) (o : Nat) (vs : List Value) : Array Value := (c.toList.take o ++ vs ++ c.toList.drop (o + vs.length)).toArray
theorem setRow_cell {g o : Nat} {c : Array Value} {t : TypeId} {vs : List Value} (hg : w.heap[g]? = some (.cells c t (0, 0))) (hle : o + vs.length ≤ c.size) (j : Nat) :
    (w.setRow g (patched c o vs)).cell? ⟨g, j, none⟩ = if j < o then w.cell? ⟨g, j, none⟩ else if j < o + vs.length then vs[j - o]? else w.cell? ⟨g, j, none⟩ := by
  have hold : w.cell? ⟨g, j, none⟩ = c[j]? := by simp [World.cell?, hg]
  rw [cell_setRow_same w g j c (patched c o vs) t (0, 0) hg, hold]
  have e0 : (patched c o vs)[j]? = (c.toList.take o ++ vs ++ c.toList.drop (o + vs.length))[j]? := by simp [patched]
  have l1 : (c.toList.take o).length = o := by simp; omega
  rw [e0]
  by_cases h1 : j < o
  · rw [if_pos h1, List.append_assoc, List.getElem?_append_left (by omega), List.getElem?_take, if_pos h1]; simp
  · rw [if_neg h1]
    by_cases h2 : j < o + vs.length
    · rw [if_pos h2, List.getElem?_append_left (by simp; omega), List.getElem?_append_right (by omega), l1]
    · rw [if_neg h2, List.getElem?_append_right (by simp; omega), List.getElem?_drop]
      have : o + vs.length + (j - (c.toList.take o ++ vs).length) = j := by rw [List.length_append, l1]; omega
      rw [this]; simp
theorem storeCells_run {g o : Nat} {c : Array Value} {t : TypeId} {vs : List Value} (hg : w.heap[g]? = some (.cells c t (0, 0))) (hle : o + vs.length ≤ c.size) (h1 : ∀ v ∈ vs, Value.oneCell' v = true) :
    (storeCells ⟨g, o, none⟩ vs).run P w = .ok () (w.setRow g (patched c o vs)) := by
  have := run_storeCells_at (P := P) g o t vs 0 c w hg (by omega) h1
  simpa [patched] using this

/-- A block whose cells from one place on are written. -/
theorem HRel.patch (H : HRel w h) {id : Nat} {blk blk' : Blk} (hb : hget h id = some blk) {c : Array Value} {t : TypeId} (hg : w.heap[id]? = some (.cells c t (0, 0))) {o : Nat} {vs : List Value} (hle : o + vs.length ≤ c.size)
    (hE : ∀ w', (∀ j, w'.cell? ⟨id, j, none⟩ = if j < o then w.cell? ⟨id, j, none⟩ else if j < o + vs.length then vs[j - o]? else w.cell? ⟨id, j, none⟩) → Keeps w w' (dom h) (dom h) → Elems w' (dom h) blk'.sz blk'.l id 0) :
    HRel (w.setRow id (patched c o vs)) (hset h id blk') ∧ Evolve w (dom h) (w.setRow id (patched c o vs)) (dom (hset h id blk')) :=
  H.write (hget_dom hb) (by simp) (fun b hne => setRow_other w id b _ hne) (fun c0 el fz h0 => by
    rw [hg] at h0
    cases h0
    exact ⟨_, setRow_heap w id c _ t (0, 0) hg, by simp [patched]; omega⟩) (fun K => hE _ (fun j => setRow_cell hg hle j) K) rfl rfl rfl

theorem cells_fit {D : List Nat} {xs : List AV} {b o : Nat} {c : Array Value} {t : TypeId} {f : Nat × Nat} (hg : w.heap[b]? = some (.cells c t f)) (hC : Cells w D xs b o) : xs = [] ∨ o + xs.length ≤ c.size := by
  by_cases hx : xs = []
  · exact .inl hx
  · refine .inr ?_
    have hpos : 0 < xs.length := by cases xs <;> simp_all
    obtain ⟨v, h1, _⟩ := Cells_iff.1 hC (xs.length - 1) (xs[xs.length - 1]'(by omega)) (List.getElem?_eq_getElem _)
    simp only [World.cell?, hg] at h1
    have := (Array.getElem?_eq_some_iff.1 h1).1
    omega

theorem store_sound (H : HRel w h) {id i o : Nat} {blk : Blk} (hb : hget h id = some blk) (hi : i < blk.l.length) {x el' : AV} {vs : List Value} (hr : Reps w (dom h) (cellsOf x) vs) (h1 : ∀ v ∈ vs, Value.oneCell' v = true)
    (hon : o + (cellsOf x).length ≤ blk.sz) (hn0 : cellsOf x ≠ []) (hel : cellsOf el' = splice (cellsOf blk.l[i]) o (cellsOf x)) :
    ∃ w', (storeCells ⟨id, i * blk.sz + o, none⟩ vs).run P w = .ok () w' ∧ HRel w' (hset h id ⟨blk.sz, blk.l.set i el'⟩) ∧ Evolve w (dom h) w' (dom (hset h id ⟨blk.sz, blk.l.set i el'⟩)) := by
  obtain ⟨c, t, hg, hE⟩ := H.all _ (hget_mem hb)
  simp only at hg hE
  have hlen := Reps_length hr
  obtain ⟨e1, e2⟩ := Elems_iff.1 hE i _ (List.getElem?_eq_getElem hi)
  rw [Nat.zero_add] at e2
  have hsz0 : 0 < (cellsOf x).length := by cases hh : cellsOf x <;> simp_all
  have hfit : i * blk.sz + o + vs.length ≤ c.size := by
    rcases cells_fit hg e2 with h0 | h0
    · rw [h0] at e1; simp at e1; omega
    · omega
  refine ⟨_, storeCells_run hg hfit h1, H.patch hb hg hfit (fun w' hw K => ?_)⟩
  rw [Elems_iff]
  intro i' y hy
  simp only [Nat.zero_add]
  by_cases hii : i' = i
  · subst hii
    rw [List.getElem?_set_self hi] at hy
    cases hy
    rw [hel]
    refine ⟨by simp [splice, e1]; omega, ?_⟩
    rw [Cells_iff]
    intro j z hz
    unfold splice at hz
    have lt : (List.take o (cellsOf blk.l[i'])).length = o := by simp; omega
    rw [List.append_assoc] at hz
    by_cases hj : j < o
    · rw [List.getElem?_append_left (by omega), List.getElem?_take, if_pos hj] at hz
      obtain ⟨v, g1, g2, g3⟩ := Cells_iff.1 e2 j z hz
      exact ⟨v, by rw [hw, if_pos (by omega)]; exact g1, g2, Rep.mono K _ _ g3⟩
    · rw [List.getElem?_append_right (by omega), lt] at hz
      by_cases hj2 : j < o + (cellsOf x).length
      · rw [List.getElem?_append_left (by omega)] at hz
        obtain ⟨v, g1, g2⟩ := Reps_get hr _ _ hz
        refine ⟨v, ?_, h1 v (List.mem_of_getElem? g1), Rep.mono K _ _ g2⟩
        rw [hw, if_neg (by omega), if_pos (by omega)]
        rw [show i' * blk.sz + j - (i' * blk.sz + o) = j - o by omega]
        exact g1
      · rw [List.getElem?_append_right (by omega), List.getElem?_drop] at hz
        rw [show o + (cellsOf x).length + (j - o - (cellsOf x).length) = j by omega] at hz
        obtain ⟨v, g1, g2, g3⟩ := Cells_iff.1 e2 j z hz
        exact ⟨v, by rw [hw, if_neg (by omega), if_neg (by omega)]; exact g1, g2, Rep.mono K _ _ g3⟩
  · rw [List.getElem?_set_ne (by omega)] at hy
    obtain ⟨f1, f2⟩ := Elems_iff.1 hE i' y hy
    rw [Nat.zero_add] at f2
    refine ⟨f1, ?_⟩
    rw [Cells_iff] at f2 ⊢
    intro j z hz
    obtain ⟨v, g1, g2, g3⟩ := f2 j z hz
    refine ⟨v, ?_, g2, Rep.mono K _ _ g3⟩
    have hjs : j < blk.sz := by have := (List.getElem?_eq_some_iff.1 hz).1; omega
    rw [hw, ← g1]
    rcases Nat.lt_or_gt_of_ne hii with hlt | hgt
    · have : (i' + 1) * blk.sz ≤ i * blk.sz := Nat.mul_le_mul_right _ hlt
      rw [Nat.succ_mul] at this
      rw [if_pos (by omega)]
    · have : (i + 1) * blk.sz ≤ i' * blk.sz := Nat.mul_le_mul_right _ hgt
      rw [Nat.succ_mul] at this
      rw [if_neg (by omega), if_neg (by omega)]

theorem flatV_oneCell {D : List Nat} : ∀ {xs : List AV} {vs : List Value}, Reps w D xs vs → (∀ x ∈ xs, storable x = true) → ∀ v ∈ flatV vs, Value.oneCell' v = true
  | [], _, hr, _, v, hv => by cases hr; simp [flatV] at hv
  | x :: xs, _, hr, hs, v, hv => by
    obtain ⟨u, r, rfl, hu, hr⟩ := hr
    have hf : flatV (u :: r) = u.cells.toList ++ flatV r := by simp [flatV]
    rw [hf] at hv
    rcases List.mem_append.1 hv with hv | hv
    · exact (hu.cells (hs x (List.mem_cons_self ..))).2 v hv
    · exact flatV_oneCell hr (fun y hy => hs y (List.mem_cons_of_mem _ hy)) v hv
/-- Cells one behind the other that hold elements. -/
structure FlatRep (w : World) (D : List Nat) (sz : Nat) (new : List AV) (fl : List Value) : Prop where
  len : fl.length = new.length * sz
  one : ∀ v ∈ fl, Value.oneCell' v = true
  rep : ∀ (i : Nat) (y : AV), new[i]? = some y → (cellsOf y).length = sz ∧ Reps w D (cellsOf y) ((fl.drop (i * sz)).take sz)
theorem FlatRep.of_reps {D : List Nat} {sz : Nat} : ∀ {xs : List AV} {vs : List Value}, Reps w D xs vs → (∀ x ∈ xs, storable x = true ∧ (cellsOf x).length = sz) → FlatRep w D sz xs (flatV vs)
  | [], _, hr, _ => by cases hr; exact ⟨by simp [flatV], by simp [flatV], by simp⟩
  | x :: xs, _, hr, hs => by
    have hlen := flatV_length hr hs
    have hone := flatV_oneCell hr (fun y hy => (hs y hy).1)
    obtain ⟨u, r, rfl, hu, hr⟩ := hr
    obtain ⟨g1, g2⟩ := hs x (List.mem_cons_self ..)
    obtain ⟨q1, q2⟩ := hu.cells g1
    have q3 := Reps_length q1
    have ih := FlatRep.of_reps hr (fun y hy => hs y (List.mem_cons_of_mem _ hy))
    have hf : flatV (u :: r) = u.cells.toList ++ flatV r := by simp [flatV]
    refine ⟨hlen, hone, fun i y hy => ?_⟩
    rw [hf]
    cases i with
    | zero =>
      simp at hy; subst hy
      refine ⟨g2, ?_⟩
      rw [Nat.zero_mul, List.drop_zero, List.take_left' (by omega)]
      exact q1
    | succ i =>
      obtain ⟨k1, k2⟩ := ih.rep i y (by simpa using hy)
      refine ⟨k1, ?_⟩
      rw [Nat.succ_mul, Nat.add_comm, ← List.drop_drop, List.drop_left' (by omega)]
      exact k2
theorem FlatRep.mono {w' : World} {D D' : List Nat} {sz : Nat} {new : List AV} {fl : List Value} (F : FlatRep w D sz new fl) (K : Keeps w w' D D') : FlatRep w' D' sz new fl :=
  ⟨F.len, F.one, fun i y hy => ⟨(F.rep i y hy).1, Reps.mono K _ _ (F.rep i y hy).2⟩⟩
theorem FlatRep.append {D : List Nat} {sz : Nat} {xs ys : List AV} {f g : List Value} (F : FlatRep w D sz xs f) (G : FlatRep w D sz ys g) : FlatRep w D sz (xs ++ ys) (f ++ g) := by
  refine ⟨by simp [F.len, G.len, Nat.add_mul], fun v hv => ?_, fun i y hy => ?_⟩
  · rcases List.mem_append.1 hv with h | h
    · exact F.one v h
    · exact G.one v h
  · by_cases hi : i < xs.length
    · rw [List.getElem?_append_left hi] at hy
      obtain ⟨k1, k2⟩ := F.rep i y hy
      refine ⟨k1, ?_⟩
      have : (i + 1) * sz ≤ xs.length * sz := Nat.mul_le_mul_right _ hi
      rw [Nat.succ_mul] at this
      rw [List.drop_append_of_le_length (by rw [F.len]; omega), List.take_append_of_le_length (by rw [List.length_drop, F.len]; omega)]
      exact k2
    · rw [List.getElem?_append_right (by omega)] at hy
      obtain ⟨k1, k2⟩ := G.rep _ y hy
      refine ⟨k1, ?_⟩
      have hle : xs.length * sz ≤ i * sz := Nat.mul_le_mul_right _ (by omega)
      have e : i * sz = f.length + (i - xs.length) * sz := by rw [F.len, ← Nat.add_mul]; congr 1; omega
      rw [e, ← List.drop_drop, List.drop_left' rfl]
      exact k2
theorem FlatRep.elems {D : List Nat} {sz : Nat} {new : List AV} {fl : List Value} (F : FlatRep w D sz new fl) {b o : Nat} (hc : ∀ (j : Nat) (v : Value), fl[j]? = some v → w.cell? ⟨b, o + j, none⟩ = some v) : Elems w D sz new b o := by
  rw [Elems_iff]
  intro i y hy
  obtain ⟨k1, k2⟩ := F.rep i y hy
  refine ⟨k1, Cells_of_vals k2 (fun j v hv => ?_) (fun v hv => F.one v (List.mem_of_mem_drop (List.mem_of_mem_take hv)))⟩
  rw [List.getElem?_take] at hv
  split at hv <;> first | (cases hv; done) | skip
  rw [List.getElem?_drop] at hv
  rw [Nat.add_assoc]
  exact hc _ v hv
/-- Whole elements are written. -/
theorem elems_write (H : HRel w h) {id p : Nat} {blk : Blk} (hb : hget h id = some blk) {new : List AV} {fl : List Value} (F : FlatRep w (dom h) blk.sz new fl)
    {c : Array Value} {t : TypeId} (hg : w.heap[id]? = some (.cells c t (0, 0))) (hfit : (p + new.length) * blk.sz ≤ c.size) {L : List AV}
    (hL : ∀ (i : Nat) (y : AV), L[i]? = some y → if p ≤ i ∧ i < p + new.length then new[i - p]? = some y else blk.l[i]? = some y) :
    ∃ w', (storeCells ⟨id, p * blk.sz, none⟩ fl).run P w = .ok () w' ∧ HRel w' (hset h id ⟨blk.sz, L⟩) ∧ Evolve w (dom h) w' (dom (hset h id ⟨blk.sz, L⟩)) := by
  have hfl := F.len
  have hle : p * blk.sz + fl.length ≤ c.size := by rw [hfl, ← Nat.add_mul]; exact hfit
  obtain ⟨c', t', hg', hE⟩ := H.all _ (hget_mem hb)
  refine ⟨_, storeCells_run hg hle F.one, H.patch hb hg hle (fun w' hw K => ?_)⟩
  have hnew : Elems w' (dom h) blk.sz new id (p * blk.sz) := (F.mono K).elems (fun j v hv => by
    have hlt := (List.getElem?_eq_some_iff.1 hv).1
    rw [hw, if_neg (by omega), if_pos (by omega), Nat.add_sub_cancel_left]; exact hv)
  rw [Elems_iff]
  intro i y hy
  simp only [Nat.zero_add]
  have hLi := hL i y hy
  split at hLi
  · rename_i hin
    obtain ⟨g1, g2⟩ := Elems_iff.1 hnew _ _ hLi
    refine ⟨g1, ?_⟩
    rwa [← Nat.add_mul, show p + (i - p) = i by omega] at g2
  · rename_i hout
    obtain ⟨g1, g2⟩ := Elems_iff.1 hE i y hLi
    have g1' : (cellsOf y).length = blk.sz := g1
    rw [Nat.zero_add] at g2
    refine ⟨g1, ?_⟩
    rw [Cells_iff] at g2 ⊢
    intro j z hz
    obtain ⟨v, q1, q2, q3⟩ := g2 j z hz
    refine ⟨v, ?_, q2, Rep.mono K _ _ q3⟩
    have hjs : j < blk.sz := by have := (List.getElem?_eq_some_iff.1 hz).1; omega
    rw [hw, ← q1]
    by_cases hip : i < p
    · have : (i + 1) * blk.sz ≤ p * blk.sz := Nat.mul_le_mul_right _ hip
      rw [Nat.succ_mul] at this
      rw [if_pos (by omega)]
    · have : (p + new.length) * blk.sz ≤ i * blk.sz := Nat.mul_le_mul_right _ (by omega)
      rw [Nat.add_mul] at this
      rw [if_neg (by omega), if_neg (by omega)]

/-! ## Zeros -/
theorem zeros_elems {D : List Nat} {z : AV} {zv : Value} (hz : Rep w D z zv) (hs : storable z = true) {sz : Nat} (hl : (cellsOf z).length = sz) {b : Nat} (n : Nat)
    (hc : ∀ j, j < n * sz → w.cell? ⟨b, j, none⟩ = zv.cells[j % zv.cells.size]?) : Elems w D sz (List.replicate n z) b 0 := by
  obtain ⟨q1, q2⟩ := hz.cells hs
  have q3 := Reps_length q1
  have hsz : zv.cells.size = sz := by rw [← hl, ← q3]; simp
  rw [Elems_iff]
  intro i y hy
  rw [List.getElem?_replicate] at hy
  split at hy <;> first | (cases hy; done) | skip
  rename_i hin
  cases hy
  refine ⟨hl, Cells_of_vals q1 (fun j v hv => ?_) q2⟩
  have hj : j < sz := by have := (List.getElem?_eq_some_iff.1 hv).1; rw [Array.length_toList, hsz] at this; exact this
  have hlt : i * sz + j < n * sz := by
    have : (i + 1) * sz ≤ n * sz := Nat.mul_le_mul_right _ hin
    rw [Nat.succ_mul] at this
    omega
  rw [Nat.zero_add, hc _ hlt, hsz]
  have : (i * sz + j) % sz = j := by rw [Nat.mul_comm, Nat.mul_add_mod]; exact Nat.mod_eq_of_lt hj
  rw [this]
  simpa using hv

theorem FlatRep.zeros {D : List Nat} {z : AV} {zv : Value} (hz : Rep w D z zv) (hs : storable z = true) {sz : Nat} (hl : (cellsOf z).length = sz) (n : Nat) : FlatRep w D sz (List.replicate n z) (Builtin.zeroCells zv.cells n).toList := by
  obtain ⟨q1, q2⟩ := hz.cells hs
  have q3 := Reps_length q1
  have hsz : zv.cells.size = sz := by rw [← hl, ← q3]; simp
  have hlen : (Builtin.zeroCells zv.cells n).toList.length = n * sz := by simp [Builtin.zeroCells, hsz]
  have hget : ∀ j, j < n * sz → (Builtin.zeroCells zv.cells n).toList[j]? = zv.cells.toList[j % sz]? := by
    intro j hj
    have hp : 0 < sz := by
      rcases Nat.eq_zero_or_pos sz with h | h
      · rw [h] at hj; simp at hj
      · exact h
    have hm := Nat.mod_lt j hp
    simp [Builtin.zeroCells, hsz, hj, getElem!_pos, hm]
  refine ⟨by simp [hlen], fun v hv => ?_, fun i y hy => ?_⟩
  · obtain ⟨j, hj, rfl⟩ := List.mem_iff_getElem.1 hv
    have h := hget j (hlen ▸ hj)
    rw [List.getElem?_eq_getElem hj] at h
    exact q2 _ (List.mem_of_getElem? h.symm)
  · rw [List.getElem?_replicate] at hy
    split at hy <;> first | (cases hy; done) | skip
    rename_i hin
    cases hy
    refine ⟨hl, ?_⟩
    have e : ((Builtin.zeroCells zv.cells n).toList.drop (i * sz)).take sz = zv.cells.toList := by
      apply List.ext_getElem?
      intro j
      rw [List.getElem?_take]
      split
      · rename_i hj
        have hlt : i * sz + j < n * sz := by
          have : (i + 1) * sz ≤ n * sz := Nat.mul_le_mul_right _ hin
          rw [Nat.succ_mul] at this
          omega
        rw [List.getElem?_drop, hget _ hlt]
        have : (i * sz + j) % sz = j := by rw [Nat.mul_comm, Nat.mul_add_mod]; exact Nat.mod_eq_of_lt hj
        rw [this]
      · rw [List.getElem?_eq_none (by simp [hsz]; omega)]
    rw [e]; exact q1

theorem firstCells_run (H : HRel w h) {sz : Nat} {x : AV} {l : List AV} (hx : elemsOf h sz x = some l) {v : Value} (hv : Rep w (dom h) x v) :
    ∃ us A c, v = .slice A l.length c ∧ (∀ w1 : World, w1.heap = w.heap → (Builtin.firstCells sz l.length v).run P w1 = .ok ⟨us⟩ w1) ∧ FlatRep w (dom h) sz l us := by
  obtain ⟨A, c, rfl, h1, h2⟩ := elems_of_slice H hx hv
  by_cases hl : l = []
  · subst hl
    refine ⟨[], A, c, rfl, fun w1 _ => ?_, ⟨by simp, by simp, by simp⟩⟩
    cases A with
    | none => rfl
    | some a =>
      simp only [Builtin.firstCells, List.length_nil, Nat.zero_mul, loadCells, loadCellsFrom]
      rfl
  · obtain ⟨b, o, rfl, hE⟩ := h2 hl
    have hcells : ∀ j, j < l.length * sz → ∃ v, w.cell? ⟨b, o + j, none⟩ = some v ∧ Value.oneCell' v = true := by
      intro j hj
      have hsz : 0 < sz := by rcases Nat.eq_zero_or_pos sz with h | h
                              · subst h; simp at hj
                              · exact h
      have hi : j / sz < l.length := (Nat.div_lt_iff_lt_mul hsz).2 hj
      obtain ⟨g1, g2⟩ := Elems_iff.1 hE (j / sz) _ (List.getElem?_eq_getElem hi)
      have hm : j % sz < sz := Nat.mod_lt _ hsz
      obtain ⟨v, q1, q2, _⟩ := Cells_iff.1 g2 (j % sz) _ (List.getElem?_eq_getElem (by omega))
      refine ⟨v, ?_, q2⟩
      rw [← q1]
      have : o + j / sz * sz + j % sz = o + j := by rw [Nat.add_assoc, Nat.mul_comm, Nat.div_add_mod]
      rw [this]
    let us : List Value := (List.range (l.length * sz)).map fun j => (w.cell? ⟨b, o + j, none⟩).getD undef
    have husl : us.length = l.length * sz := by simp [us]
    have husg : ∀ (j : Nat) (v : Value), us[j]? = some v → w.cell? ⟨b, o + j, none⟩ = some v := by
      intro j v hv
      simp only [us, List.getElem?_map, Option.map_eq_some_iff] at hv
      obtain ⟨j', hj', rfl⟩ := hv
      have hlt := (List.getElem?_eq_some_iff.1 hj').1
      rw [List.getElem?_range (by simpa using hlt)] at hj'
      cases hj'
      obtain ⟨u, hu, _⟩ := hcells j (by simpa using hlt)
      rw [hu]; rfl
    refine ⟨us, _, c, rfl, ?_, ⟨husl, ?_, ?_⟩⟩
    · intro w1 hw1
      have := run_loadCells_list (P := P) (w := w1) ⟨b, o, none⟩ us (fun j v hv => by rw [Addr.add_lit, ← husg j v hv]; simp only [World.cell?, hw1])
      rw [husl] at this
      simpa [Builtin.firstCells] using this
    · intro u hu
      obtain ⟨j, hj⟩ := List.mem_iff_getElem?.1 hu
      have hlt := (List.getElem?_eq_some_iff.1 hj).1
      obtain ⟨u', g1, g2⟩ := hcells j (by omega)
      have := husg j u hj
      rw [g1] at this
      cases this
      exact g2
    · intro i y hy
      obtain ⟨g1, g2⟩ := Elems_iff.1 hE i y hy
      refine ⟨g1, ?_⟩
      obtain ⟨vs, q1, q2, q3⟩ := Cells_vals g2
      have hvl := Reps_length q1
      have hil := (List.getElem?_eq_some_iff.1 hy).1
      have : (us.drop (i * sz)).take sz = vs := by
        apply List.ext_getElem?
        intro j
        rw [List.getElem?_take]
        split
        · rename_i hj
          rw [List.getElem?_drop]
          have hlt : i * sz + j < l.length * sz := by
            have : (i + 1) * sz ≤ l.length * sz := Nat.mul_le_mul_right _ hil
            rw [Nat.succ_mul] at this
            omega
          have hvj : j < vs.length := by omega
          rw [List.getElem?_eq_getElem hvj]
          have e1 := q2 j _ (List.getElem?_eq_getElem hvj)
          have e2 := husg (i * sz + j) _ (List.getElem?_eq_getElem (by omega))
          rw [← Nat.add_assoc, e1] at e2
          rw [List.getElem?_eq_getElem (by omega)]
          exact e2.symm
        · rename_i hj
          rw [List.getElem?_eq_none (by omega)]
      rw [this]; exact q1
end
end Go.AG
