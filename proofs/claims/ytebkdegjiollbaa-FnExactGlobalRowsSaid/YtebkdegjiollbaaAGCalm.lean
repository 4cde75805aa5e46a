/- The operations of our own small layer that write nothing are right. No statement about the program is made here. -/
import Derived.Test.YtebkdegjiollbaaAGSound
namespace Go.AG
open Go.RowKit
section
variable {P : Program} {M : List Nat} {w : World} {h : Heap} {e : Env} {tmps : Array Value} {ds : List Deferred}

/-- What the machine does at an operation, for an abstract value. -/
def Gives (P : Program) (o : Oper) (a : Act) (w : World) (h : Heap) (v : AV) : Prop :=
  ∃ cv w', (execOp a.eval o).run P w = .ok (.value cv) w' ∧ Rep w' (dom h) v cv ∧ HRel w' h ∧ Evolve w (dom h) w' (dom h)
theorem gives_same {o : Oper} {a : Act} (H : HRel w h) {v : AV} {cv : Value} (hr : (execOp a.eval o).run P w = .ok (.value cv) w) (hv : Rep w (dom h) v cv) : Gives P o a w h v :=
  ⟨cv, w, hr, hv, H, .refl _ _⟩

theorem bits_eq (op : BinOp) (k : IntKind) (x y : Int) (ho : op = .and ∨ op = .or ∨ op = .xor ∨ op = .andNot) : Op.intBits op k x y = pure (.int k (bits op k x y)) := by
  rcases ho with rfl | rfl | rfl | rfl <;> rfl

theorem binK_run {op : BinOp} {t : TypeId} {x y : AV} {X Y : Operand} {u v : Value} {D : List Nat} (hx : Rep w D x u) (hy : Rep w D y v) {r : AV} (hk : binK op x y (· = r)) :
    ∃ cv, ((do eqGuard op t X Y u v; binOp op t u v) : Sem Value).run P w = .ok cv w ∧ Rep w D r cv := by
  unfold binK at hk
  split at hk
  · rename_i kd a kd' b
    cases hx; cases hy
    rw [eqGuard_at_int]
    cases op <;> simp only at hk
    case shl =>
      obtain ⟨h0, rfl⟩ := hk
      exact ⟨_, by simp [binOp_shl, Op.shift, Int.not_lt.2 h0], rfl⟩
    case shr =>
      obtain ⟨h0, rfl⟩ := hk
      exact ⟨_, by simp [binOp_shr, Op.shift, Int.not_lt.2 h0], rfl⟩
    case quo =>
      obtain ⟨rfl, h0, rfl⟩ := hk
      exact ⟨_, by simp [binOp_quo, Op.intDiv, h0], rfl⟩
    case rem =>
      obtain ⟨rfl, h0, rfl⟩ := hk
      exact ⟨_, by simp [binOp_rem, Op.intDiv, h0], rfl⟩
    case gtr => obtain ⟨rfl, rfl⟩ := hk; exact ⟨_, by simp [binOp_gtr], rfl⟩
    case geq => obtain ⟨rfl, rfl⟩ := hk; exact ⟨_, by simp [binOp_geq], rfl⟩
    all_goals
      obtain ⟨rfl, rfl⟩ := hk
      exact ⟨_, by simp [binOp_add, binOp_sub, binOp_mul, binOp_and, binOp_or, binOp_xor, binOp_andNot, binOp_eql, binOp_neq, binOp_lss, binOp_leq, Op.intArith, bits_eq], rfl⟩
  · rename_i a b
    cases hx; cases hy
    rw [eqGuard_at_string]
    have e1 : (⟨a.toArray⟩ : ByteArray).toList = a := by simp [ByteArray.toList_eq]
    have e2 : (⟨b.toArray⟩ : ByteArray).toList = b := by simp [ByteArray.toList_eq]
    have s1 : (⟨a.toArray⟩ : ByteArray).size = a.length := by simp [ByteArray.size]
    have s2 : (⟨b.toArray⟩ : ByteArray).size = b.length := by simp [ByteArray.size]
    have hb : ∀ op, binOp op t (.string ⟨a.toArray⟩) (.string ⟨b.toArray⟩) = Op.stringOp op ⟨a.toArray⟩ ⟨b.toArray⟩ := fun op => by cases op <;> rfl
    have eap : (⟨a.toArray⟩ : ByteArray) ++ ⟨b.toArray⟩ = ⟨(a ++ b).toArray⟩ := by
      apply ByteArray.ext; simp
    cases op <;> simp only at hk
    case add =>
      obtain ⟨h0, rfl⟩ := hk
      refine ⟨_, ?_, rfl⟩
      simp only [Sem.run_bind, Sem.run_pure, Result.andThen_ok, hb, Op.stringOp, s1, s2]
      rw [if_neg (by rw [IntKind.max_i64]; omega), Sem.run_pure, eap]
    all_goals first
      | (exact hk.elim)
      | (subst hk; exact ⟨_, by simp only [Sem.run_bind, Sem.run_pure, Result.andThen_ok, hb, Op.stringOp, e1, e2], rfl⟩)
  · exact hk.elim

theorem v_run {x : Sem Value} {cv : Value} (hx : x.run P w = .ok cv w) : ((do pure (.value (← x))) : Sem Next).run P w = .ok (.value cv) w := by
  simp [hx]
theorem mmAV_run {D : List Nat} (isMax : Bool) : ∀ (xs : List AV) (x : AV) (v : Value) (vs : List Value) (y : AV), Rep w D x v → Reps w D xs vs → mmAV isMax x xs = some y →
    ∃ cv, (vs.foldlM (if isMax then Builtin.max2 else Builtin.min2) v).run P w = .ok cv w ∧ Rep w D y cv
  | [], x, v, vs, y, hx, hxs, hy => by
    cases hxs
    cases x <;> simp [mmAV] at hy
    subst hy
    exact ⟨v, by simp, hx⟩
  | z :: zs, x, v, vs, y, hx, hxs, hy => by
    obtain ⟨u, r, rfl, hz, hzs⟩ := hxs
    cases x <;> cases z <;> simp only [mmAV] at hy <;> first | (cases hy; done) | skip
    rename_i k a k' b
    cases hx; cases hz
    obtain ⟨cv, h1, h2⟩ := mmAV_run isMax zs (.int k (if isMax then max a b else min a b)) (.int k (if isMax then max a b else min a b)) r y rfl hzs hy
    refine ⟨cv, ?_, h2⟩
    rw [List.foldlM_cons, Sem.run_bind]
    have : ((if isMax then Builtin.max2 else Builtin.min2) (.int k a) (.int k' b)).run P w = .ok (.int k (if isMax then max a b else min a b)) w := by
      cases isMax
      · simp only [Bool.false_eq_true, if_false, Builtin.min2, Sem.run_pure]
        congr 2
        by_cases hab : b < a
        · rw [if_pos hab]; omega
        · rw [if_neg hab]; omega
      · simp only [if_true, Builtin.max2, Sem.run_pure]
        congr 2
        by_cases hab : a < b
        · rw [if_pos hab]; omega
        · rw [if_neg hab]; omega
    rw [this]
    exact h1

theorem elems_of_slice (H : HRel w h) {sz : Nat} {x : AV} {l : List AV} (hx : elemsOf h sz x = some l) {v : Value} (hv : Rep w (dom h) x v) :
    ∃ A c, v = .slice A l.length c ∧ l.length ≤ c ∧ (l ≠ [] → ∃ b o, A = some ⟨b, o, none⟩ ∧ Elems w (dom h) sz l b o) := by
  unfold elemsOf at hx
  split at hx
  · cases hx; exact ⟨none, 0, hv, Nat.le_refl _, fun h => absurd rfl h⟩
  · cases hx; obtain ⟨A, rfl⟩ := hv; exact ⟨A, 0, rfl, Nat.le_refl _, fun h => absurd rfl h⟩
  · split at hx
    · rename_i hs
      cases hx
      obtain ⟨A, c, rfl, h1, h2, h3⟩ := hv
      refine ⟨A, c, rfl, h1, fun hl => ?_⟩
      cases A with
      | none => exact absurd (h2 rfl) hl
      | some ad =>
        obtain ⟨g1, _, g3⟩ := h3 ad rfl
        obtain ⟨b, o, s⟩ := ad
        simp only at g1
        obtain rfl := g1 hl
        rw [hs] at g3
        exact ⟨b, o, rfl, g3⟩
    · cases hx
  · rename_i id s off len cap
    obtain ⟨A, c, rfl, h1, h2, h3⟩ := hv
    split at hx
    · rename_i h0
      cases hx
      subst h0
      exact ⟨A, c, rfl, Nat.zero_le _, fun h => absurd rfl h⟩
    · rename_i h0
      split at hx
      · rename_i blk hb
        split at hx
        · rename_i hs
          obtain ⟨hs1, hs2, hs3⟩ := hs
          cases hx
          have hlen : ((blk.l.drop off).take len).length = len := by simp; omega
          rw [hlen]
          refine ⟨A, c, rfl, h1, fun _ => ⟨id, off * s, (h2 (by omega)).1, ?_⟩⟩
          obtain ⟨cc, t, _, hE⟩ := H.all _ (hget_mem hb)
          have := Elems_take (Elems_drop hE off) len
          subst hs1
          rw [hs2, Nat.zero_add] at this
          exact this
        · cases hx
      · cases hx
  · cases hx

theorem splice_fold (off : Nat) : ∀ (us : List Value) (j : Nat) (cs : List Value), off + j + us.length ≤ cs.length →
    (us.zipIdx j).foldl (fun (cs : Array Value) (p : Value × Nat) => cs.setIfInBounds (off + p.2) p.1) ⟨cs⟩ = ⟨cs.take (off + j) ++ us ++ cs.drop (off + j + us.length)⟩
  | [], j, cs, _ => by simp
  | u :: us, j, cs, hl => by
    simp only [List.length_cons] at hl
    have hlt : off + j < cs.length := by omega
    simp only [List.zipIdx_cons, List.foldl_cons]
    have e : (⟨cs⟩ : Array Value).setIfInBounds (off + j) u = ⟨cs.set (off + j) u⟩ := by simp
    rw [e, splice_fold off us (j + 1) (cs.set (off + j) u) (by simp; omega)]
    congr 1
    rw [← Nat.add_assoc, List.take_succ_eq_append_getElem (by simp; omega), List.take_set_of_le (Nat.le_refl _), List.getElem_set_self, List.drop_set_of_lt (by omega)]
    simp only [List.append_assoc, List.cons_append, List.nil_append, List.length_cons]
    congr 4
    omega
theorem Reps_take {D : List Nat} {xs : List AV} {vs : List Value} (hr : Reps w D xs vs) (n : Nat) : Reps w D (xs.take n) (vs.take n) := by
  induction xs generalizing vs n with
  | nil => cases hr; simp [Reps]
  | cons x xs ih =>
    obtain ⟨v, r, rfl, h1, h2⟩ := hr
    cases n with
    | zero => rfl
    | succ n => exact Reps_cons.2 ⟨h1, ih h2 n⟩
theorem Reps_drop {D : List Nat} {xs : List AV} {vs : List Value} (hr : Reps w D xs vs) (n : Nat) : Reps w D (xs.drop n) (vs.drop n) := by
  induction xs generalizing vs n with
  | nil => cases hr; simp [Reps]
  | cons x xs ih =>
    obtain ⟨v, r, rfl, h1, h2⟩ := hr
    cases n with
    | zero => exact Reps_cons.2 ⟨h1, h2⟩
    | succ n => exact ih h2 n
theorem fill_run {D : List Nat} (E : EnvRel w D e tmps) {fs : Array Field} {places : Array (Nat × Nat)} (hp : ∀ (i : Nat) (f : Field), fs[i]? = some f → places[i]? = some (f.offset, P.cellsOf f.type)) :
    ∀ (parts : List (Nat × Operand)) (ps : List (Nat × Nat × Opd)) (z l : List AV) (cs : List Value), cParts P fs parts = some ps → fillAV e z ps = some l → Reps w D z cs →
    ∃ cs', Instr.fill (places[·]?) ⟨cs⟩ (parts.map fun (i, x) => (i, (⟨tmps, ds⟩ : Act).eval x)) = some ⟨cs'⟩ ∧ Reps w D l cs'
  | [], ps, z, l, cs, hc, hf, hz => by
    simp [cParts] at hc; subst hc
    simp [fillAV] at hf; subst hf
    exact ⟨cs, rfl, hz⟩
  | (i, x) :: r, ps, z, l, cs, hc, hf, hz => by
    simp only [cParts] at hc
    split at hc
    · rename_i f y ys h1 h2 h3
      split at hc
      · rename_i hk
        cases hc
        simp only [fillAV] at hf
        split at hf
        · rename_i hst
          obtain ⟨g1, g2, g3⟩ := hst
          have hr := opd_rep (ds := ds) E h2
          obtain ⟨q1, q2⟩ := hr.cells g1
          have q3 := Reps_length q1
          have q4 := Reps_length hz
          simp only [List.map_cons, Instr.fill, hp i f h1]
          generalize (⟨tmps, ds⟩ : Act).eval x = v at *
          have hsz : v.cells.size = P.cellsOf f.type := by rw [← g2, ← q3]; simp
          rw [if_neg (by simp [hsz]; omega)]
          have hfold := splice_fold f.offset v.cells.toList 0 cs (by omega)
          have e : Array.foldl (fun (cs : Array Value) (p : Value × Nat) => cs.setIfInBounds (f.offset + p.2) p.1) ⟨cs⟩ v.cells.zipIdx = ⟨cs.take f.offset ++ v.cells.toList ++ cs.drop (f.offset + v.cells.toList.length)⟩ := by
            rw [← Array.foldl_toList, Array.toList_zipIdx]
            simpa using hfold
          have e' : Array.foldl (fun (cs : Array Value) (x : Value × Nat) => match x with | (c, j) => cs.setIfInBounds (f.offset + j) c) ⟨cs⟩ v.cells.zipIdx = ⟨cs.take f.offset ++ v.cells.toList ++ cs.drop (f.offset + v.cells.toList.length)⟩ := e
          rw [e']
          refine fill_run E hp r ys _ l _ h3 hf ?_
          unfold splice
          rw [← q3]
          exact Reps_append (Reps_append (Reps_take hz _) q1) (Reps_drop hz _)
        · cases hf
      · cases hc
    · cases hc
end
end Go.AG
