/- The operations of our own small layer that write nothing are right: the theorem. No statement about the program is made here. -/
import Derived.Test.YtebkdegjiollbaaAGCalm
namespace Go.AG
open Go.RowKit
section
variable {P : Program} {M : List Nat} {w : World} {h : Heap} {e : Env} {tmps : Array Value} {ds : List Deferred}

theorem Cells_of_vals {D : List Nat} : ∀ {xs : List AV} {vs : List Value} {b o : Nat}, Reps w D xs vs → (∀ (j : Nat) (v : Value), vs[j]? = some v → w.cell? ⟨b, o + j, none⟩ = some v) → (∀ v ∈ vs, Value.oneCell' v = true) → Cells w D xs b o
  | [], _, _, _, _, _, _ => trivial
  | x :: xs, _, b, o, hr, hc, h1 => by
    obtain ⟨v, r, rfl, hv, hr⟩ := hr
    refine ⟨⟨v, hc 0 v rfl, h1 v (List.mem_cons_self ..), hv⟩, Cells_of_vals hr (fun j u hu => ?_) (fun u hu => h1 u (List.mem_cons_of_mem _ hu))⟩
    have := hc (j + 1) u (by simpa using hu)
    rwa [show o + (j + 1) = o + 1 + j by omega] at this
/-- Values one behind the other, each with its cells. -/
def flatV (vs : List Value) : List Value := vs.flatMap fun v => v.cells.toList
theorem Elems_of_flat {D : List Nat} {sz : Nat} : ∀ {xs : List AV} {vs : List Value} {b o : Nat}, Reps w D xs vs → (∀ x ∈ xs, storable x = true ∧ (cellsOf x).length = sz) →
    (∀ (j : Nat) (v : Value), (flatV vs)[j]? = some v → w.cell? ⟨b, o + j, none⟩ = some v) → Elems w D sz xs b o
  | [], _, _, _, _, _, _ => trivial
  | x :: xs, _, b, o, hr, hs, hc => by
    obtain ⟨v, r, rfl, hv, hr⟩ := hr
    obtain ⟨g1, g2⟩ := hs x (List.mem_cons_self ..)
    obtain ⟨q1, q2⟩ := hv.cells g1
    have q3 := Reps_length q1
    have hf : flatV (v :: r) = v.cells.toList ++ flatV r := by simp [flatV]
    refine Elems_cons.2 ⟨⟨g2, Cells_of_vals q1 (fun j u hu => hc j u ?_) q2⟩, Elems_of_flat hr (fun y hy => hs y (List.mem_cons_of_mem _ hy)) (fun j u hu => ?_)⟩
    · rw [hf]
      have hlt := (List.getElem?_eq_some_iff.1 hu).1
      rw [List.getElem?_append_left hlt]; exact hu
    · have := hc (sz + j) u (by rw [hf, List.getElem?_append_right (by omega)]; rw [q3, g2, Nat.add_sub_cancel_left]; exact hu)
      rwa [← Nat.add_assoc] at this
theorem flatV_length {D : List Nat} {sz : Nat} : ∀ {xs : List AV} {vs : List Value}, Reps w D xs vs → (∀ x ∈ xs, storable x = true ∧ (cellsOf x).length = sz) → (flatV vs).length = xs.length * sz
  | [], _, hr, _ => by cases hr; simp [flatV]
  | x :: xs, _, hr, hs => by
    obtain ⟨v, r, rfl, hv, hr⟩ := hr
    obtain ⟨g1, g2⟩ := hs x (List.mem_cons_self ..)
    have q3 := Reps_length (hv.cells g1).1
    have := flatV_length hr (fun y hy => hs y (List.mem_cons_of_mem _ hy))
    have hf : flatV (v :: r) = v.cells.toList ++ flatV r := by simp [flatV]
    rw [hf, List.length_append, this, q3, g2, List.length_cons, Nat.succ_mul, Nat.add_comm]
theorem fill_seq {sz : Nat} : ∀ (parts : List (Nat × Value)) (k : Nat) (cs : List Value), (∀ (j : Nat) (p : Nat × Value), parts[j]? = some p → p.1 = k + j ∧ p.2.cells.size = sz) → cs.length = (k + parts.length) * sz →
    Instr.fill (fun i => some (i * sz, sz)) ⟨cs⟩ parts = some ⟨cs.take (k * sz) ++ flatV (parts.map (·.2))⟩
  | [], k, cs, _, hl => by
    simp only [List.length_nil, Nat.add_zero] at hl
    simp [Instr.fill, flatV, List.take_of_length_le (Nat.le_of_eq hl)]
  | (i, v) :: r, k, cs, hp, hl => by
    obtain ⟨h1, h2⟩ := hp 0 (i, v) rfl
    simp only [Nat.add_zero] at h1 h2
    subst h1
    simp only [List.length_cons] at hl
    have hle : i * sz + sz ≤ cs.length := by rw [hl, ← Nat.succ_mul]; exact Nat.mul_le_mul_right _ (by omega)
    simp only [Instr.fill]
    rw [if_neg (by simp [h2]; omega)]
    have hfold := splice_fold (i * sz) v.cells.toList 0 cs (by simp [h2]; omega)
    have e' : Array.foldl (fun (cs : Array Value) (x : Value × Nat) => match x with | (c, j) => cs.setIfInBounds (i * sz + j) c) ⟨cs⟩ v.cells.zipIdx = ⟨cs.take (i * sz) ++ v.cells.toList ++ cs.drop (i * sz + v.cells.toList.length)⟩ := by
      rw [← Array.foldl_toList, Array.toList_zipIdx]
      simpa using hfold
    have hlen : (cs.take (i * sz) ++ v.cells.toList ++ cs.drop (i * sz + v.cells.toList.length)).length = (i + 1 + r.length) * sz := by
      simp only [List.length_append, List.length_take, List.length_drop, Array.length_toList, h2]
      have : (i + 1 + r.length) * sz = cs.length := by rw [hl]; congr 1; omega
      omega
    have ih := fill_seq r (i + 1) _ (fun j p hj => by
      have := hp (j + 1) p (by simpa using hj)
      exact ⟨by omega, this.2⟩) hlen
    rw [e', ih]
    have ht : (cs.take (i * sz) ++ v.cells.toList ++ cs.drop (i * sz + v.cells.toList.length)).take ((i + 1) * sz) = cs.take (i * sz) ++ v.cells.toList := by
      have : (i + 1) * sz = (cs.take (i * sz) ++ v.cells.toList).length := by
        simp only [List.length_append, List.length_take, Array.length_toList, h2, Nat.succ_mul]
        omega
      rw [this, List.take_left']
      rfl
    rw [ht]
    simp [flatV]
theorem cSeq_spec {D : List Nat} (E : EnvRel w D e tmps) : ∀ (k : Nat) (parts : List (Nat × Operand)) (ps : List Opd), cSeq k parts = some ps →
    Reps w D (ps.map (ev e)) ((parts.map fun (i, x) => (i, (⟨tmps, ds⟩ : Act).eval x)).map (·.2)) ∧ parts.length = ps.length ∧ ∀ (j : Nat) (p : Nat × Value), (parts.map fun (i, x) => (i, (⟨tmps, ds⟩ : Act).eval x))[j]? = some p → p.1 = k + j
  | k, [], ps, hc => by simp [cSeq] at hc; subst hc; exact ⟨rfl, rfl, by simp⟩
  | k, (i, x) :: r, ps, hc => by
    simp only [cSeq] at hc
    split at hc
    · rename_i hik
      split at hc
      · rename_i y ys h1 h2
        cases hc
        obtain ⟨g1, g2, g3⟩ := cSeq_spec E (k + 1) r ys h2
        refine ⟨Reps_cons.2 ⟨opd_rep E h1, g1⟩, by simp [g2], fun j p hj => ?_⟩
        cases j with
        | zero => simp at hj; subst hj; exact hik
        | succ j => have := g3 j p (by simpa using hj); omega
      · cases hc
    · cases hc
theorem cell_alloc (w : World) (vs : List Value) (t : TypeId) (j : Nat) (v : Value) (hv : vs[j]? = some v) : (w.alloc (.cells ⟨vs⟩ t)).cell? ⟨w.heap.size, 0 + j, none⟩ = some v := by
  rw [Nat.zero_add, World.cell?_alloc_new]; simpa using hv

theorem bounds_run (isSlice : Bool) (len cap : Nat) {lo hi mx : Option Value} {l h' m : Option Int}
    (hl : (lo = none ∧ l = none) ∨ ∃ k n, lo = some (.int k n) ∧ l = some n) (hh : (hi = none ∧ h' = none) ∨ ∃ k n, hi = some (.int k n) ∧ h' = some n) (hm : (mx = none ∧ m = none) ∨ ∃ k n, mx = some (.int k n) ∧ m = some n)
    (h1 : 0 ≤ l.getD 0) (h2 : l.getD 0 ≤ h'.getD len) (h3 : m = none → h' ≠ none → h'.getD len ≤ cap) (h4 : m ≠ none → h' ≠ none ∧ h'.getD len ≤ m.getD 0 ∧ m.getD 0 ≤ cap) :
    (Instr.sliceBounds isSlice len cap lo hi mx).run P w = .ok ((l.getD 0).toNat, (h'.getD len).toNat, (m.getD cap).toNat) w := by
  rcases hm with ⟨rfl, rfl⟩ | ⟨km, nm, rfl, rfl⟩
  · rcases hh with ⟨rfl, rfl⟩ | ⟨kh, nh, rfl, rfl⟩
    · rcases hl with ⟨rfl, rfl⟩ | ⟨kl, nl, rfl, rfl⟩
      · simp [Instr.sliceBounds]
      · simp only [Option.getD_some, Option.getD_none] at h1 h2
        simp [Instr.sliceBounds, run_sliceBound_if, h1, h2]
    · have g3 := h3 rfl (by simp)
      simp only [Option.getD_some] at g3 h2
      rcases hl with ⟨rfl, rfl⟩ | ⟨kl, nl, rfl, rfl⟩
      · simp only [Option.getD_none] at h2
        simp [Instr.sliceBounds, run_sliceBound_if, h2, g3]
      · simp only [Option.getD_some] at h1 h2
        have h0 : 0 ≤ nh := by omega
        have e : ((nh.toNat : Nat) : Int) = nh := by omega
        simp [Instr.sliceBounds, run_sliceBound_if, h0, g3, h1, h2, e]
  · obtain ⟨g1, g2, g3⟩ := h4 (by simp)
    rcases hh with ⟨rfl, rfl⟩ | ⟨kh, nh, rfl, rfl⟩
    · exact absurd rfl g1
    · simp only [Option.getD_some] at g2 g3 h2
      rcases hl with ⟨rfl, rfl⟩ | ⟨kl, nl, rfl, rfl⟩
      · simp only [Option.getD_none] at h2
        have h0 : 0 ≤ nm := by omega
        have e : ((nm.toNat : Nat) : Int) = nm := by omega
        simp [Instr.sliceBounds, run_sliceBound_if, h2, g3, g2, h0, e]
      · simp only [Option.getD_some] at h1 h2
        have h0 : 0 ≤ nh := by omega
        have h0' : 0 ≤ nm := by omega
        have e : ((nh.toNat : Nat) : Int) = nh := by omega
        have e' : ((nm.toNat : Nat) : Int) = nm := by omega
        simp [Instr.sliceBounds, run_sliceBound_if, h0, h0', g2, g3, h1, h2, e, e']

theorem slice_run {t el : TypeId} {x : AV} {v : Value} {lo hi mx : Option Value} {l h' m : Option Int} {D : List Nat} (hu : P.underlying t = some (.slice el)) (hk : knownT P el = true)
    (hx : Rep w D x v)
    (hl : (lo = none ∧ l = none) ∨ ∃ k n, lo = some (.int k n) ∧ l = some n) (hh : (hi = none ∧ h' = none) ∨ ∃ k n, hi = some (.int k n) ∧ h' = some n) (hm : (mx = none ∧ m = none) ∨ ∃ k n, mx = some (.int k n) ∧ m = some n)
    {r : AV} (hsz : szOk (P.cellsOf el) x) (hs : sliceK x l h' m (· = r)) :
    ∃ cv, (Instr.sliceAt t v lo hi mx).run P w = .ok cv w ∧ Rep w D r cv := by
  have key : ∀ (A : Option Addr) (len capk cap : Nat), v = .slice A len cap → sliceC l h' m len capk → len ≤ cap → capk ≤ cap →
      (Instr.sliceAt t v lo hi mx).run P w = .ok (.slice (if (m.getD cap).toNat = (l.getD 0).toNat then A else A.map (·.add ((l.getD 0).toNat * P.cellsOf el))) ((h'.getD len).toNat - (l.getD 0).toNat) ((m.getD cap).toNat - (l.getD 0).toNat)) w := by
    intro A len capk cap hv hc hlc hcc
    subst hv
    obtain ⟨c1, c2, c3, c4, c5⟩ := hc
    have hb := bounds_run (P := P) (w := w) true len cap hl hh hm c1 c2 (fun e _ => by subst e; simp only [Option.getD_none] at c5; omega)
      (fun e => by
        refine ⟨c3 e, ?_⟩
        cases m with
        | none => exact absurd rfl e
        | some n => simp only [Option.getD_some] at c4 c5 ⊢; omega)
    simp [Instr.sliceAt, Instr.slice, run_underlying hu, hb, run_sizeOf_k hk]
  cases x <;> simp only [sliceK] at hs <;> first | (exact hs.elim) | skip
  case nilsl =>
    obtain ⟨hc, rfl⟩ := hs
    have := key none 0 0 0 hx hc (Nat.le_refl _) (Nat.le_refl _)
    obtain ⟨c1, c2, c3, c4, c5⟩ := hc
    refine ⟨_, this, ?_⟩
    have e1 : (l.getD 0).toNat = 0 := by cases m <;> simp_all <;> omega
    have e2 : (h'.getD ((0 : Nat) : Int)).toNat = 0 := by cases m <;> simp_all <;> omega
    have e3 : (m.getD ((0 : Nat) : Int)).toNat = 0 := by cases m <;> simp_all <;> omega
    rw [e1, e2, e3]; rfl
  case emp =>
    obtain ⟨hc, rfl⟩ := hs
    obtain ⟨A, hx⟩ := hx
    have := key A 0 0 0 hx hc (Nat.le_refl _) (Nat.le_refl _)
    obtain ⟨c1, c2, c3, c4, c5⟩ := hc
    refine ⟨_, this, ?_⟩
    have e1 : (l.getD 0).toNat = 0 := by cases m <;> simp_all <;> omega
    have e2 : (h'.getD ((0 : Nat) : Int)).toNat = 0 := by cases m <;> simp_all <;> omega
    have e3 : (m.getD ((0 : Nat) : Int)).toNat = 0 := by cases m <;> simp_all <;> omega
    rw [e1, e2, e3]; exact ⟨_, rfl⟩
  case snap s xs =>
    obtain ⟨A, c, hv, h1, h2, h3⟩ := hx
    obtain ⟨hc, hs⟩ := hs
    have := key A xs.length xs.length c hv hc h1 h1
    obtain ⟨c1, c2, c3, c4, c5⟩ := hc
    refine ⟨_, this, ?_⟩
    simp only [szOk] at hsz
    cases m with
    | some n =>
      simp only at hs
      obtain ⟨rfl, rfl⟩ := hs
      simp only [Option.getD_some] at *
      refine ⟨A, ?_⟩
      simp only [if_true, Nat.sub_self]
      congr 1
      omega
    | none =>
      simp only at hs
      subst hs
      simp only [Option.getD_none] at *
      have hlen : ((xs.drop (l.getD 0).toNat).take (h'.getD xs.length - l.getD 0).toNat).length = (h'.getD xs.length).toNat - (l.getD 0).toNat := by
        simp; omega
      refine ⟨_, _, by rw [hlen], ?_, ?_, ?_⟩
      · rw [hlen]; omega
      · intro e
        cases A with
        | none => rw [h2 rfl]; simp
        | some ad => split at e <;> simp at e
      · intro ad had
        cases A with
        | none => split at had <;> simp at had
        | some ad0 =>
          obtain ⟨g1, g2, g3⟩ := h3 ad0 rfl
          by_cases hcl : (c : Int).toNat = (l.getD 0).toNat
          · rw [if_pos hcl] at had
            cases had
            have : (xs.drop (l.getD 0).toNat).take (h'.getD xs.length - l.getD 0).toNat = [] := by
              apply List.eq_nil_of_length_eq_zero; rw [hlen]; omega
            rw [this]
            exact ⟨fun h => absurd rfl h, fun h => absurd rfl h, trivial⟩
          · rw [if_neg hcl] at had
            simp only [Option.map_some, Option.some.injEq] at had
            subst had
            obtain ⟨b, o, sp⟩ := ad0
            simp only at g1
            by_cases hxs : xs = []
            · subst hxs
              simp only [List.drop_nil, List.take_nil]
              exact ⟨fun h => absurd rfl h, fun h => absurd rfl h, trivial⟩
            obtain rfl := g1 hxs
            rw [Addr.add_lit]
            refine ⟨fun _ => rfl, fun hne => g2 (fun e => hne (by rw [e]; simp)), ?_⟩
            rw [← hsz]
            exact Elems_take (Elems_drop g3 _) _
  case sl id s off len cap =>
    obtain ⟨A, c, hv, h1, h2, h3⟩ := hx
    obtain ⟨hc, rfl⟩ := hs
    have hcap : cap.getD len ≤ c := by
      cases cap with
      | none => exact h1
      | some k => exact Nat.le_of_eq (h3 k rfl).symm
    have := key A len (cap.getD len) c hv hc h1 hcap
    obtain ⟨c1, c2, c3, c4, c5⟩ := hc
    refine ⟨_, this, ?_⟩
    simp only [szOk] at hsz
    refine ⟨_, _, by rw [show (h'.getD (len : Int) - l.getD 0).toNat = (h'.getD (len : Int)).toNat - (l.getD 0).toNat by omega], ?_, ?_, ?_⟩
    · cases m with
      | none => simp only [Option.getD_none] at c5 ⊢; omega
      | some n => simp only [Option.getD_some] at c4 c5 ⊢; omega
    · intro hpos
      have hne : ¬ (m.getD (c : Int)).toNat = (l.getD 0).toNat := by omega
      rw [if_neg hne]
      have hc0 : 0 < c := by
        cases m with
        | none => simp only [Option.getD_none] at hpos; omega
        | some n => simp only [Option.getD_some] at hpos c5; omega
      obtain ⟨g1, cs, el', fz, g2, g3⟩ := h2 hc0
      rw [g1]
      refine ⟨?_, cs, el', fz, g2, Nat.le_trans (Nat.mul_le_mul_right _ ?_) g3⟩
      · simp only [Option.map_some, Addr.add_lit, Option.some.injEq, Addr.mk.injEq, and_true, true_and]
        rw [Nat.add_mul, hsz]
      · cases m with
        | none => simp only [Option.getD_none] at hpos ⊢; omega
        | some n => simp only [Option.getD_some] at hpos c5 ⊢; omega
    · intro k hk
      cases m with
      | some n => simp only [Option.some.injEq] at hk; simp only [Option.getD_some]; omega
      | none =>
        simp only [Option.map_eq_some_iff] at hk
        obtain ⟨q, hq, rfl⟩ := hk
        rw [h3 q hq]
        simp only [Option.getD_none]
        omega

theorem eq_slice (d : Nat) {t el : TypeId} (hu : P.underlying t = some (.slice el)) (A : Option Addr) (n c n' c' : Nat) : (Op.equalIn (d + 1) t (.slice A n c) (.slice none n' c')).run P w = .ok A.isNone w := by
  cases A <;> simp [Op.equalIn, run_underlying hu]
theorem eq_pointer (d : Nat) {t el : TypeId} (hu : P.underlying t = some (.pointer el)) (A : Option Addr) : (Op.equalIn (d + 1) t (.pointer A) (.pointer none)).run P w = .ok A.isNone w := by
  cases A <;> simp [Op.equalIn, run_underlying hu]
theorem eq_nilFunc (d : Nat) {t : TypeId} {p q : Array TypeId} {r : Bool} (hu : P.underlying t = some (.func p q r)) : (Op.equalIn (d + 1) t .nilFunc .nilFunc).run P w = .ok true w := by
  simp [Op.equalIn, run_underlying hu]
theorem eq_func (d : Nat) {t : TypeId} {p q : Array TypeId} {r : Bool} (hu : P.underlying t = some (.func p q r)) (f : Fn) (a b : Array Value) : (Op.equalIn (d + 1) t (.func f a b) .nilFunc).run P w = .ok false w := by
  simp [Op.equalIn, run_underlying hu]
theorem eq_nili (d : Nat) {t : TypeId} {ms} (hu : P.underlying t = some (.interface ms)) : (Op.equalIn (d + 1) t .nilIface .nilIface).run P w = .ok true w := by
  simp [Op.equalIn, run_underlying hu]
theorem eq_ifc (d : Nat) {t : TypeId} {ms} (hu : P.underlying t = some (.interface ms)) (u : TypeId) (p : Value) : (Op.equalIn (d + 1) t (.iface u p) .nilIface).run P w = .ok false w := by
  simp [Op.equalIn, run_underlying hu]
theorem eqn_run {D : List Nat} {kd : Nat} {x : AV} {v : Value} (hx : Rep w D x v) {b : Bool} (hb : nilOf kd x = some b) {t : TypeId} (ht : nilK P t = some kd) {Y : Operand} (hy : isNilC kd Y = true) (a : Act) :
    (Op.equal t v (a.eval Y)).run P w = .ok b w ∧ ∀ op X, eqGuard op t X Y v (a.eval Y) = pure () := by
  have eq0 : Op.equal t v (a.eval Y) = Op.equalIn (9999 + 1) t v (a.eval Y) := rfl
  rw [eq0]
  generalize 9999 = d
  unfold nilK at ht
  split at ht <;> first | (cases ht; done) | skip
  · rename_i el hu
    cases ht
    cases Y <;> first | (simp [isNilC] at hy; done) | skip
    rename_i c
    cases c <;> first | (simp [isNilC] at hy; done) | skip
    rename_i A n cp
    cases A <;> first | (simp [isNilC] at hy; done) | skip
    cases x <;> simp only [nilOf] at hb <;> first | (cases hb; done) | skip
    case nilsl =>
      cases hb; cases hx
      exact ⟨eq_slice d hu _ _ _ _ _, fun op X => eqGuard_at_slice ..⟩
    case snap s l =>
      cases l <;> simp only at hb <;> first | (cases hb; done) | skip
      cases hb
      obtain ⟨A, c, rfl, h1, h2, h3⟩ := hx
      cases A with
      | none => cases h2 rfl
      | some ad => exact ⟨eq_slice d hu _ _ _ _ _, fun op X => eqGuard_at_slice ..⟩
    case sl id s off len cap =>
      cases len <;> simp only at hb <;> first | (cases hb; done) | skip
      cases hb
      obtain ⟨A, c, rfl, h1, h2, h3⟩ := hx
      rw [(h2 (by omega)).1]
      exact ⟨eq_slice d hu _ _ _ _ _, fun op X => eqGuard_at_slice ..⟩
  · rename_i el hu
    cases ht
    cases Y <;> first | (simp [isNilC] at hy; done) | skip
    rename_i c
    cases c <;> first | (simp [isNilC] at hy; done) | skip
    rename_i A
    cases A <;> first | (simp [isNilC] at hy; done) | skip
    cases x <;> simp only [nilOf] at hb <;> first | (cases hb; done) | skip
    case nilp => cases hb; cases hx; exact ⟨eq_pointer d hu _, fun op X => eqGuard_at_pointer ..⟩
    case ptr => cases hb; cases hx; exact ⟨eq_pointer d hu _, fun op X => eqGuard_at_pointer ..⟩
    case ip =>
      cases hb
      obtain ⟨b, o, rfl, _⟩ := hx
      exact ⟨eq_pointer d hu _, fun op X => eqGuard_at_pointer ..⟩
  · rename_i p q r hu
    cases ht
    cases Y <;> first | (simp [isNilC] at hy; done) | skip
    rename_i c
    cases c <;> first | (simp [isNilC] at hy; done) | skip
    cases x <;> simp only [nilOf] at hb <;> first | (cases hb; done) | skip
    case nilfn =>
      cases hb; cases hx
      exact ⟨eq_nilFunc d hu, fun op X => eqGuard_at_nilFunc ..⟩
    case fn =>
      cases hb
      obtain ⟨vs, rfl, _⟩ := hx
      exact ⟨eq_func d hu _ _ _, fun op X => eqGuard_at_func ..⟩
  · rename_i ms hu
    cases ht
    cases Y <;> first | (simp [isNilC] at hy; done) | skip
    rename_i c
    cases c <;> first | (simp [isNilC] at hy; done) | skip
    cases x <;> simp only [nilOf] at hb <;> first | (cases hb; done) | skip
    case nili =>
      cases hb; cases hx
      exact ⟨eq_nili d hu, fun op X => eqGuard_nil_constR ..⟩
    case ifc =>
      cases hb
      obtain ⟨u, p, rfl⟩ := hx
      exact ⟨eq_ifc d hu _ _, fun op X => eqGuard_at_iface ..⟩
end
end Go.AG
