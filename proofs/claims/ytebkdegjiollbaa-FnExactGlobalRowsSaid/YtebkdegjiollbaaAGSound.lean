/- The operations of our own small layer are right: what 'opVC' says, the machine does. No statement about the program is made here. -/
import Derived.Test.YtebkdegjiollbaaAGVc
namespace Go.AG
open Go.RowKit

/-- The slots of a frame, as the abstract state tells them. -/
def EnvRel (w : World) (D : List Nat) (e : Env) (tmps : Array Value) : Prop := ∀ t, Rep w D (eget e t) (tmps.getD t undef)

theorem toAV_rep {w : World} {D : List Nat} {v : Value} {x : AV} (h : toAV v = some x) : Rep w D x v := by
  unfold toAV at h
  split at h <;> simp at h <;> subst h <;> first | rfl | simp [Rep]
theorem toAVs_rep {w : World} {D : List Nat} : ∀ {vs : List Value} {xs : List AV}, toAVs vs = some xs → Reps w D xs vs
  | [], _, h => by simp [toAVs] at h; subst h; rfl
  | v :: r, xs, h => by
    simp only [toAVs] at h
    split at h
    · rename_i x xs' h1 h2
      cases h
      exact Reps_cons.2 ⟨toAV_rep h1, toAVs_rep h2⟩
    · cases h
theorem zeroAV_rep {w : World} {D : List Nat} {v : Value} {x : AV} (h : zeroAV v = some x) : Rep w D x v := by
  unfold zeroAV at h
  split at h
  · obtain ⟨xs, h1, rfl⟩ := Option.map_eq_some_iff.1 h
    exact ⟨_, rfl, toAVs_rep h1⟩
  · exact toAV_rep h

section
variable {P : Program} {M : List Nat} {w : World} {h : Heap} {e : Env} {tmps : Array Value} {ds : List Deferred}

theorem opd_rep {D : List Nat} (E : EnvRel w D e tmps) {x : Operand} {y : Opd} (hx : cOpd x = some y) : Rep w D (ev e y) ((⟨tmps, ds⟩ : Act).eval x) := by
  cases x with
  | tmp t => simp [cOpd] at hx; subst hx; exact E t
  | const v => obtain ⟨a, h1, rfl⟩ := Option.map_eq_some_iff.1 hx; exact toAV_rep h1
  | func f => simp [cOpd] at hx; subst hx; exact ⟨[], rfl, rfl⟩
  | global g => simp [cOpd] at hx
theorem opds_rep {D : List Nat} (E : EnvRel w D e tmps) : ∀ {xs : List Operand} {ys : List Opd}, cOpds xs = some ys → Reps w D (ys.map (ev e)) (xs.map (⟨tmps, ds⟩ : Act).eval)
  | [], _, hx => by simp [cOpds] at hx; subst hx; rfl
  | x :: r, ys, hx => by
    simp only [cOpds] at hx
    split at hx
    · rename_i y ys' h1 h2
      cases hx
      exact Reps_cons.2 ⟨opd_rep E h1, opds_rep E h2⟩
    · cases hx

theorem knownT_spec {t : TypeId} (k : knownT P t = true) : (∃ d, P.underlying t = some d) ∧ ∃ i, P.info? t = some i := by
  simp only [knownT, Bool.and_eq_true, Option.isSome_iff_exists] at k
  exact k
theorem run_sizeOf_k {t : TypeId} (k : knownT P t = true) (w : World) : (sizeOf t).run P w = .ok (P.cellsOf t) w := by
  obtain ⟨i, hi⟩ := (knownT_spec k).2
  exact run_sizeOf w hi
theorem run_isAgg_k {t : TypeId} (k : knownT P t = true) (w : World) : (isAgg t).run P w = .ok (aggT P t) w := by
  obtain ⟨d, hd⟩ := (knownT_spec k).1
  simp only [isAgg, Sem.run_bind, run_underlying hd, Result.andThen_ok, aggT, hd]
  cases d <;> rfl
theorem elemT_spec {t el : TypeId} (k : elemT P t = some el) : P.underlying t = some (.slice el) ∧ knownT P el = true ∧ P.cellsOf el ≠ 0 ∧ P.bytesOf el ≠ 0 := by
  unfold elemT at k
  split at k
  · rename_i e he
    split at k
    · rename_i hk
      cases k
      simp only [Bool.and_eq_true, bne_iff_ne] at hk
      exact ⟨he, hk.1.1, hk.1.2, hk.2⟩
    · cases k
  · cases k
theorem zeroT_spec {t : TypeId} {z : AV} (k : zeroT P t = some z) : ∃ i v, P.info? t = some i ∧ i.zero = some v ∧ zeroAV v = some z ∧ (cellsOf z).length = i.size ∧ storable z = true := by
  unfold zeroT at k
  split at k
  · rename_i i hi
    split at k
    · rename_i v hv
      split at k
      · rename_i z' hz
        split at k
        · rename_i hc
          cases k
          simp only [Bool.and_eq_true, decide_eq_true_eq] at hc
          exact ⟨i, v, hi, hv, hz, hc.1, hc.2⟩
        · cases k
      · cases k
    · cases k
  · cases k
theorem run_zeroValue_k {t : TypeId} {z : AV} (k : zeroT P t = some z) (w : World) : ∃ v, (zeroValue t).run P w = .ok v w ∧ (∀ w D, Rep w D z v) ∧ (cellsOf z).length = P.cellsOf t ∧ storable z = true := by
  obtain ⟨i, v, hi, hv, hz, hl, hs⟩ := zeroT_spec k
  refine ⟨v, ?_, fun w D => zeroAV_rep hz, ?_, hs⟩
  · simp [zeroValue, run_typeInfo w hi, hv]
  · rw [hl]; simp [Program.cellsOf, hi]

theorem Cells_vals {D : List Nat} : ∀ {xs : List AV} {b o : Nat}, Cells w D xs b o → ∃ vs, Reps w D xs vs ∧ (∀ (j : Nat) (v : Value), vs[j]? = some v → w.cell? ⟨b, o + j, none⟩ = some v) ∧ ∀ v ∈ vs, Value.oneCell' v = true
  | [], _, _, _ => ⟨[], rfl, by simp, by simp⟩
  | x :: xs, b, o, ⟨⟨v, h1, h2, h3⟩, h4⟩ => by
    obtain ⟨vs, g1, g2, g3⟩ := Cells_vals h4
    refine ⟨v :: vs, Reps_cons.2 ⟨h3, g1⟩, fun j u hu => ?_, fun u hu => ?_⟩
    · cases j with
      | zero => simp at hu; subst hu; exact h1
      | succ j => have := g2 j u (by simpa using hu); rwa [show o + 1 + j = o + (j + 1) by omega] at this
    · rcases List.mem_cons.1 hu with rfl | hu
      · exact h2
      · exact g3 u hu
theorem Cells_take {D : List Nat} {xs : List AV} {b o : Nat} (hc : Cells w D xs b o) (n : Nat) : Cells w D (xs.take n) b o := by
  rw [Cells_iff] at hc ⊢
  intro j x hx
  rw [List.getElem?_take] at hx
  split at hx
  · exact hc j x hx
  · cases hx
theorem Cells_drop {D : List Nat} {xs : List AV} {b o : Nat} (hc : Cells w D xs b o) (n : Nat) : Cells w D (xs.drop n) b (o + n) := by
  rw [Cells_iff] at hc ⊢
  intro j x hx
  rw [List.getElem?_drop] at hx
  have := hc _ x hx
  rwa [← Nat.add_assoc] at this
theorem Elems_take {D : List Nat} {sz : Nat} {xs : List AV} {b o : Nat} (hc : Elems w D sz xs b o) (n : Nat) : Elems w D sz (xs.take n) b o := by
  rw [Elems_iff] at hc ⊢
  intro j x hx
  rw [List.getElem?_take] at hx
  split at hx
  · exact hc j x hx
  · cases hx
theorem Elems_drop {D : List Nat} {sz : Nat} {xs : List AV} {b o : Nat} (hc : Elems w D sz xs b o) (n : Nat) : Elems w D sz (xs.drop n) b (o + n * sz) := by
  rw [Elems_iff] at hc ⊢
  intro j x hx
  rw [List.getElem?_drop] at hx
  have := hc _ x hx
  rwa [Nat.add_mul, ← Nat.add_assoc] at this

theorem cellsAt_spec (H : HRel w h) {x : AV} {cs : List AV} (hx : cellsAt h x = some cs) {v : Value} (hv : Rep w (dom h) x v) : ∃ b o, v = .pointer (some ⟨b, o, none⟩) ∧ Cells w (dom h) cs b o := by
  unfold cellsAt at hx
  split at hx
  · cases hx
    obtain ⟨b, o, e, _, _, hc⟩ := hv
    exact ⟨b, o, e, hc⟩
  · rename_i id sz i o
    split at hx
    · rename_i blk hb
      split at hx
      · rename_i hs
        obtain ⟨el, hi, rfl⟩ := Option.map_eq_some_iff.1 hx
        obtain ⟨c, t, _, hE⟩ := H.all _ (hget_mem hb)
        have := (Elems_iff.1 hE i el hi).2
        simp only [Nat.zero_add] at this
        subst hs
        exact ⟨id, i * blk.sz + o, hv, Cells_drop this o⟩
      · cases hx
    · cases hx
  · cases hx

theorem bnd_spec (E : EnvRel w (dom h) e tmps) {x : Option Operand} {y : Option Opd} (hx : cOptd x = some y) {n : Option Int} (hb : bnd e y = some n) :
    ((x = none ∧ y = none ∧ n = none) ∨ ∃ o k m, x = some o ∧ n = some m ∧ (⟨tmps, ds⟩ : Act).eval o = .int k m) := by
  cases x with
  | none =>
    simp [cOptd] at hx; subst hx; simp [bnd] at hb; exact .inl ⟨rfl, rfl, hb.symm⟩
  | some o =>
    obtain ⟨z, hz, rfl⟩ := Option.map_eq_some_iff.1 hx
    simp only [bnd] at hb
    have hr := opd_rep (ds := ds) E hz
    split at hb
    · rename_i kd m hm
      cases hb
      rw [hm] at hr
      exact .inr ⟨o, kd, m, rfl, rfl, hr⟩
    · cases hb

theorem eqAV_run {D : List Nat} {c : Nat} {x y : AV} {u v : Value} {b : Bool} (hb : eqAV c x y = some b) (hu : Rep w D x u) (hv : Rep w D y v) (d : Nat) {t : TypeId}
    (ht : scalK P t = some c) : (Op.equalIn (d + 1) t u v).run P w = .ok b w := by
  unfold scalK at ht
  unfold eqAV at hb
  split at hb
  · rename_i k a k' c
    split at hb
    · rename_i hkk
      subst hkk
      cases hb; cases hu; cases hv
      split at ht <;> first | (cases ht; done) | skip
      rename_i k2 h2
      exact run_equalIn_int w d t k k2 a c h2
    · cases hb
  · cases hb; cases hu; cases hv
    split at ht <;> first | (cases ht; done) | skip
    rename_i h2
    exact run_equalIn_bool' w d t _ _ h2
  · rename_i a c
    cases hb; cases hu; cases hv
    split at ht <;> first | (cases ht; done) | skip
    rename_i h2
    have := run_equalIn_string w d t ⟨a.toArray⟩ ⟨c.toArray⟩ h2
    simpa [ByteArray.toList_eq] using this
  · cases hb
theorem part_scal {t : TypeId} {c : Nat} (ht : scalK P t = some c) (k : knownT P t = true) {xs : Array Value} {o : Nat} {v : Value} (hv : xs[o]? = some v) : (part t xs o).run P w = .ok v w := by
  have ha : aggT P t = false := by
    unfold scalK at ht
    unfold aggT
    split at ht <;> simp_all
  simp [part, run_isAgg_k k, ha, hv]
theorem eqFields_run {D : List Nat} (d : Nat) (us vs : List Value) : ∀ (fs : List Field) (j : Nat) (ks : List Nat) (X Y : List AV) (b : Bool), flatFs P j fs = some ks → Reps w D X (us.drop j) → Reps w D Y (vs.drop j) → eqAVs ks X Y = some b →
    (Op.eqFields (d + 1) ⟨us⟩ ⟨vs⟩ fs).run P w = .ok b w
  | [], j, ks, X, Y, b, hf, hX, hY, hb => by
    simp [flatFs] at hf; subst hf
    cases X <;> cases Y <;> simp [eqAVs] at hb
    subst hb; simp [Op.eqFields]
  | f :: fs, j, ks, X, Y, b, hf, hX, hY, hb => by
    simp only [flatFs] at hf
    split at hf
    · rename_i c cs hc hcs
      split at hf
      · rename_i hn
        cases hf
        simp only [Bool.and_eq_true, bne_iff_ne, decide_eq_true_eq] at hn
        obtain ⟨⟨hn, ho⟩, hk⟩ := hn
        cases X with
        | nil => simp [eqAVs] at hb
        | cons x X =>
          cases Y with
          | nil => simp [eqAVs] at hb
          | cons y Y =>
            obtain ⟨u, ru, eu, hu, hX⟩ := hX
            obtain ⟨v, rv, ew, hv, hY⟩ := hY
            have gu : us[j]? = some u := by have := congrArg (·[0]?) eu; simpa using this
            have gv : vs[j]? = some v := by have := congrArg (·[0]?) ew; simpa using this
            have du : us.drop (j + 1) = ru := by rw [← List.drop_drop, eu]; rfl
            have dv : vs.drop (j + 1) = rv := by rw [← List.drop_drop, ew]; rfl
            simp only [eqAVs] at hb
            split at hb
            · rename_i b1 b2 h1 h2
              cases hb
              have ih := eqFields_run d us vs fs (j + 1) cs X Y b2 hcs (by rw [du]; exact hX) (by rw [dv]; exact hY) h2
              simp only [Op.eqFields, ne_eq, hn, not_false_eq_true, if_true, Sem.run_bind, ho]
              rw [part_scal hc hk (by simpa using gu)]
              simp only [Result.andThen_ok]
              rw [part_scal hc hk (by simpa using gv)]
              simp only [Result.andThen_ok]
              rw [eqAV_run h1 hu hv d hc]
              simp only [Result.andThen_ok]
              cases b1
              · simp
              · simpa using ih
            · cases hb
      · cases hf
    · cases hf
end
end Go.AG
