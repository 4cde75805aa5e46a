/- Every operation of our own small layer that writes nothing is right. No statement about the program is made here. -/
import Derived.Test.YtebkdegjiollbaaAGCalm2
import Derived.Laws.BytesString
namespace Go.AG
open Go.RowKit
section
variable {P : Program} {M : List Nat} {w : World} {h : Heap} {e : Env} {tmps : Array Value} {ds : List Deferred}

theorem push_fold : ∀ (ns : List Int) (a : Array UInt8), ns.foldl (fun r n => r.push (UInt8.ofNat n.toNat)) (ByteArray.mk a) = ByteArray.mk (a ++ (ns.map fun n => UInt8.ofNat n.toNat).toArray)
  | [], a => by simp
  | n :: ns, a => by
    rw [List.foldl_cons, show (ByteArray.mk a).push (UInt8.ofNat n.toNat) = ByteArray.mk (a.push (UInt8.ofNat n.toNat)) from rfl, push_fold ns]
    simp
theorem bytesAV_spec : ∀ {l : List AV} {s : List UInt8}, bytesAV l = some s → ∃ ns : List Int, l = ns.map (AV.int .u8) ∧ s = ns.map fun n => UInt8.ofNat n.toNat
  | [], s, h => ⟨[], rfl, by simpa [bytesAV] using h.symm⟩
  | x :: r, s, h => by
    unfold bytesAV at h
    split at h
    · rename_i heq; cases heq
    · rename_i n r' heq
      obtain ⟨rfl, rfl⟩ := List.cons.inj heq
      obtain ⟨t, ht, rfl⟩ := Option.map_eq_some_iff.1 h
      obtain ⟨ns, rfl, rfl⟩ := bytesAV_spec ht
      exact ⟨n :: ns, rfl, rfl⟩
    · cases h
theorem run_bytes {D : List Nat} {l : List AV} {s : List UInt8} (hb : bytesAV l = some s) {v : Value} (hv : Rep w D (.snap 1 l) v) : ∃ A n c, v = .slice A n c ∧ (Conv.bytesToString v).run P w = .ok (.string ⟨s.toArray⟩) w := by
  obtain ⟨A, c, rfl, h1, h2, h3⟩ := hv
  refine ⟨A, _, c, rfl, ?_⟩
  obtain ⟨ns, rfl, rfl⟩ := bytesAV_spec hb
  cases A with
  | none =>
    have := h2 rfl
    have hn : ns = [] := by simpa using this
    subst hn
    simp only [Conv.bytesToString, Sem.run_pure]; rfl
  | some ad =>
    obtain ⟨g1, g2, g3⟩ := h3 ad rfl
    have hload : (loadCells ad (ns.map (AV.int .u8)).length).run P w = .ok (ns.map (Value.int .u8)).toArray w := by
      by_cases hn : ns = []
      · subst hn; simp [loadCells, loadCellsFrom, Sem.run_pure]
      · obtain ⟨b, o, sp⟩ := ad
        have hsp : sp = none := g1 (by simpa using hn)
        subst hsp
        rw [Elems_iff] at g3
        have := run_loadCells_list (P := P) (w := w) ⟨b, o, none⟩ (ns.map (Value.int .u8)) (fun j v hv => by
          rw [Addr.add_lit]
          have hj : j < ns.length := by
            have := (List.getElem?_eq_some_iff.1 hv).1
            simpa using this
          have hv' : v = .int .u8 ns[j] := by simpa [hj] using hv.symm
          have := (g3 j (.int .u8 ns[j]) (by simp [hj])).2
          rw [Cells_iff] at this
          obtain ⟨u, q1, q2, q3⟩ := this 0 (.int .u8 ns[j]) rfl
          have q3' : u = .int .u8 ns[j] := q3
          rw [hv', ← q3']
          simpa using q1)
        simpa using this
    rw [run_bytesToString w ad _ c ns hload, show ByteArray.empty = ByteArray.mk #[] from rfl, push_fold]
    simp
theorem bndo (E : EnvRel w (dom h) e tmps) {x : Option Operand} {y : Option Opd} (hx : cOptd x = some y) {n : Option Int} (hb : bnd e y = some n) :
    ((x.map (⟨tmps, ds⟩ : Act).eval = none ∧ n = none) ∨ ∃ k m, x.map (⟨tmps, ds⟩ : Act).eval = some (.int k m) ∧ n = some m) := by
  rcases bnd_spec (ds := ds) E hx hb with ⟨rfl, _, rfl⟩ | ⟨o, k, m, rfl, rfl, he⟩
  · exact .inl ⟨rfl, rfl⟩
  · exact .inr ⟨k, m, by simp [he], rfl⟩

theorem run_mapM_list {α β : Type} (f : α → Sem β) (g : α → β) : ∀ (l : List α), (∀ x ∈ l, (f x).run P w = .ok (g x) w) → (l.mapM f).run P w = .ok (l.map g) w
  | [], _ => by rw [List.mapM_nil]; rfl
  | x :: l, hl => by
    have ih := run_mapM_list f g l (fun y hy => hl y (List.mem_cons_of_mem _ hy))
    simp only [List.mapM_cons, Sem.run_bind, hl x (List.mem_cons_self ..), Result.andThen_ok, ih, Sem.run_pure, List.map_cons]
theorem buildSlice_run {t el : TypeId} {len : Nat} {parts : Array (Nat × Operand)} {ps : List Opd} (E : EnvRel w (dom h) e tmps) (hel : elemT P t = some el) (hps : cSeq 0 parts.toList = some ps) (hlen : ps.length = len)
    (hlim : len * P.cellsOf el ≤ 16777216) (hz : (zeroT P el).isSome = true) (hall : ∀ x ∈ ps.map (ev e), storable x = true ∧ (cellsOf x).length = P.cellsOf el) :
    ∃ vs, Reps w (dom h) (ps.map (ev e)) vs ∧ (Instr.buildSlice t len (parts.map fun (i, x) => (i, (⟨tmps, ds⟩ : Act).eval x))).run P w = .ok (.slice (some ⟨w.heap.size, 0, none⟩) len len) (w.alloc (.cells ⟨flatV vs⟩ el)) := by
  obtain ⟨hu, hkn, hne, _⟩ := elemT_spec hel
  obtain ⟨q1, q2, q3⟩ := cSeq_spec (ds := ds) E 0 _ _ hps
  obtain ⟨z, hz⟩ := Option.isSome_iff_exists.1 hz
  obtain ⟨zv, hrun, hrep, hzl, hzs⟩ := run_zeroValue_k hz w
  refine ⟨_, q1, ?_⟩
  have key : ∀ zc : Array Value, Instr.fill (fun i => some (i * P.cellsOf el, P.cellsOf el)) ((Array.range (len * P.cellsOf el)).map (zc[· % zc.size]!)) (parts.map fun (i, x) => (i, (⟨tmps, ds⟩ : Act).eval x)).toList =
      some ⟨flatV ((parts.toList.map fun (i, x) => (i, (⟨tmps, ds⟩ : Act).eval x)).map (·.2))⟩ := by
    intro zc
    have hfl := fill_seq (sz := P.cellsOf el) (parts.toList.map fun (i, x) => (i, (⟨tmps, ds⟩ : Act).eval x)) 0 ((Array.range (len * P.cellsOf el)).map (zc[· % zc.size]!)).toList (fun j p hp => ⟨q3 j p hp, by
        have hv : ((parts.toList.map fun (i, x) => (i, (⟨tmps, ds⟩ : Act).eval x)).map (·.2))[j]? = some p.2 := by rw [List.getElem?_map, hp]; rfl
        have hjl := (List.getElem?_eq_some_iff.1 hv).1
        have hl1 := Reps_length q1
        have hjl' : j < (ps.map (ev e)).length := Nat.lt_of_lt_of_eq hjl hl1
        have hx : (ps.map (ev e))[j]? = some ((ps.map (ev e))[j]'hjl') := List.getElem?_eq_getElem _
        obtain ⟨v', g1, g2⟩ := Reps_get q1 j _ hx
        rw [hv] at g1
        cases g1
        obtain ⟨s1, s2⟩ := hall _ (List.mem_of_getElem? hx)
        have := Reps_length (g2.cells s1).1
        rw [s2] at this
        simpa using this⟩) (by simp [q2, hlen])
    have e1 : (parts.map fun (i, x) => (i, (⟨tmps, ds⟩ : Act).eval x)).toList = parts.toList.map fun (i, x) => (i, (⟨tmps, ds⟩ : Act).eval x) := by simp
    rw [e1]
    have e2 : (⟨((Array.range (len * P.cellsOf el)).map (zc[· % zc.size]!)).toList⟩ : Array Value) = (Array.range (len * P.cellsOf el)).map (zc[· % zc.size]!) := rfl
    rw [e2] at hfl
    rw [hfl]
    simp
  simp only [Instr.buildSlice, Sem.run_bind, run_underlying hu, Result.andThen_ok, run_sizeOf_k hkn]
  rw [if_neg (by omega)]
  by_cases h0 : len * P.cellsOf el = 0
  · rw [if_pos h0]
    simp only [Sem.run_bind, Sem.run_pure, Result.andThen_ok]
    rw [key #[]]
    simp [newRow]
  · rw [if_neg h0]
    simp only [Sem.run_bind, hrun, Sem.run_pure, Result.andThen_ok]
    rw [key zv.cells]
    simp [newRow]
theorem binOp_other {D : List Nat} {kd : Nat} {x : AV} {u : Value} (hx : Rep w D x u) {b : Bool} (hb : nilOf kd x = some b) (t : TypeId) (v : Value) :
    binOp .eql t u v = (do pure (.bool (← Op.equal t u v))) ∧ binOp .neq t u v = (do pure (.bool (!(← Op.equal t u v)))) := by
  unfold nilOf at hb
  split at hb <;> first | (cases hb; done) | skip
  · cases hx; cases v <;> exact ⟨rfl, rfl⟩
  · obtain ⟨A, c, rfl, _⟩ := hx; cases v <;> exact ⟨rfl, rfl⟩
  · obtain ⟨A, c, rfl, _⟩ := hx; cases v <;> exact ⟨rfl, rfl⟩
  · cases hx; cases v <;> exact ⟨rfl, rfl⟩
  · cases hx; cases v <;> exact ⟨rfl, rfl⟩
  · obtain ⟨A, c, rfl, _⟩ := hx; cases v <;> exact ⟨rfl, rfl⟩
  · cases hx; cases v <;> exact ⟨rfl, rfl⟩
  · cases hx; cases v <;> exact ⟨rfl, rfl⟩
  · obtain ⟨u, p, rfl⟩ := hx; cases v <;> exact ⟨rfl, rfl⟩
  · obtain ⟨A, rfl, _⟩ := hx; cases v <;> exact ⟨rfl, rfl⟩

theorem opVC_sound {o : Oper} {op : SOp} (hc : cOp P M o = some op) (H : HRel w h) (E : EnvRel w (dom h) e tmps) {v : AV} (hk : opVC h e op (· = v)) : Gives P o ⟨tmps, ds⟩ w h v := by
  obtain ⟨dst, mop, type, pos, after, guard⟩ := o
  cases mop <;> simp only [cOp] at hc <;> first | (cases hc; done) | skip
  case move x =>
    obtain ⟨y, hy, rfl⟩ := Option.map_eq_some_iff.1 hc
    simp only [opVC] at hk; subst hk
    exact gives_same H (by simp [execOp]) (opd_rep (ds := ds) E hy)
  case assign x =>
    obtain ⟨y, hy, rfl⟩ := Option.map_eq_some_iff.1 hc
    simp only [opVC] at hk; subst hk
    exact gives_same H (by simp [execOp]) (opd_rep (ds := ds) E hy)
  case pick c a b =>
    split at hc <;> first | (cases hc; done) | skip
    rename_i c' a' b' h1 h2 h3
    cases hc
    simp only [opVC] at hk
    have r1 := opd_rep (ds := ds) E h1
    split at hk
    · rename_i t ht
      rw [ht] at r1
      cases t
      · have := hk.2 rfl; subst this
        exact gives_same (cv := (⟨tmps, ds⟩ : Act).eval b) H (by simp [execOp, show (⟨tmps, ds⟩ : Act).eval c = .bool false from r1, asBool]) (opd_rep E h3)
      · have := hk.1 rfl; subst this
        exact gives_same (cv := (⟨tmps, ds⟩ : Act).eval a) H (by simp [execOp, show (⟨tmps, ds⟩ : Act).eval c = .bool true from r1, asBool]) (opd_rep E h2)
    · exact hk.elim
  case binOp bop t x y yt =>
    unfold cBin at hc
    split at hc
    · split at hc <;> first | (cases hc; done) | skip
      rename_i a b h1 h2
      cases hc
      simp only [opVC] at hk
      obtain ⟨cv, g1, g2⟩ := binK_run (P := P) (t := t) (X := x) (Y := y) (opd_rep (ds := ds) E h1) (opd_rep (ds := ds) E h2) hk
      exact gives_same H (by simp only [execOp]; exact v_run g1) g2
    · split at hc <;> first | (cases hc; done) | skip
      rename_i a b h1 h2
      cases hc
      simp only [opVC] at hk
      obtain ⟨cv, g1, g2⟩ := binK_run (P := P) (t := t) (X := x) (Y := y) (opd_rep (ds := ds) E h1) (opd_rep (ds := ds) E h2) hk
      exact gives_same H (by simp only [execOp]; exact v_run g1) g2
    · rename_i hu
      split at hc <;> first | (cases hc; done) | skip
      all_goals
        rename_i a b h1 h2
        cases hc
        simp only [opVC] at hk
        have r1 := opd_rep (ds := ds) E h1
        have r2 := opd_rep (ds := ds) E h2
        split at hk <;> first | (exact hk.elim) | skip
        rename_i p q e1 e2
        subst hk
        rw [e1] at r1; rw [e2] at r2
        refine gives_same H (cv := .bool _) ?_ rfl
        simp only [execOp]
        refine v_run ?_
        rw [show (⟨tmps, ds⟩ : Act).eval x = .bool p from r1, show (⟨tmps, ds⟩ : Act).eval y = .bool q from r2, eqGuard_at_bool]
        simp [binOp, Op.equal, Op.maxDepth, run_equalIn_bool' w 9999 t p q hu, bne]
    · split at hc <;> first | (cases hc; done) | skip
      rename_i ks h0
      split at hc <;> first | (cases hc; done) | skip
      all_goals
        rename_i a b h1 h2
        cases hc
        simp only [opVC] at hk
        have r1 := opd_rep (ds := ds) E h1
        have r2 := opd_rep (ds := ds) E h2
        split at hk <;> first | (exact hk.elim) | skip
        rename_i X Y e1 e2
        obtain ⟨b, hb, rfl⟩ := hk
        rw [e1] at r1; rw [e2] at r2
        obtain ⟨us, r1, hX⟩ := r1
        obtain ⟨vs, r2, hY⟩ := r2
        unfold flatT at h0
        split at h0 <;> first | (cases h0; done) | skip
        rename_i fs hu
        split at h0 <;> first | (cases h0; done) | skip
        rename_i hcd
        simp only [Bool.and_eq_true, Bool.not_eq_true'] at hcd
        have hfo : P.fieldsOf t = fs := by simp [Program.fieldsOf, hu]
        have hrun : (Op.equalIn (9998 + 1 + 1) t (.agg ⟨us⟩) (.agg ⟨vs⟩)).run P w = .ok b w := by
          rw [run_equalIn_agg w _ t _ _ (by rw [hfo]; exact hu) hcd.1, hfo]
          exact eqFields_run 9998 us vs fs.toList 0 ks X Y b h0 hX hY hb
        refine gives_same H (cv := .bool _) ?_ rfl
        simp only [execOp]
        refine v_run ?_
        rw [r1, r2]
        simp only [Sem.run_bind, run_eqGuard_agg w _ t _ _ _ _ hcd.2, Result.andThen_ok, run_eql_struct, run_neq_struct]
        rw [show (10000 : Nat) = 9998 + 1 + 1 from rfl, hrun]
        simp
    · split at hc <;> first | (cases hc; done) | skip
      rename_i kd hkd
      split at hc <;> first | (cases hc; done) | skip
      rename_i hnil
      split at hc <;> first | (cases hc; done) | skip
      all_goals
        rename_i a h1
        cases hc
        simp only [opVC] at hk
        obtain ⟨b, hb, rfl⟩ := hk
        obtain ⟨g1, g2⟩ := eqn_run (opd_rep (ds := ds) E h1) hb hkd hnil ⟨tmps, ds⟩
        refine gives_same H (cv := .bool _) ?_ rfl
        simp only [execOp]
        refine v_run ?_
        rw [g2]
        simp only [Sem.run_bind, Sem.run_pure, Result.andThen_ok]
        first | rw [(binOp_other (opd_rep (ds := ds) E h1) hb _ _).1] | rw [(binOp_other (opd_rep (ds := ds) E h1) hb _ _).2]
        simp [g1]
  case alloc t =>
    split at hc <;> first | (cases hc; done) | skip
    rename_i hkn
    obtain ⟨z, hz, rfl⟩ := Option.map_eq_some_iff.1 hc
    simp only [opVC] at hk
    obtain ⟨_, hs, hl, rfl⟩ := hk
    obtain ⟨zv, hrun, hrep, _, _⟩ := run_zeroValue_k hz w
    obtain ⟨q1, q2⟩ := (hrep w (dom h)).cells hs
    obtain ⟨H', Ev⟩ := H.alloc_fixed zv.cells t
    refine ⟨.pointer (some ⟨w.heap.size, 0, none⟩), w.alloc (.cells zv.cells t), ?_, ?_, H', Ev⟩
    · simp [execOp, Instr.alloc, hrun, newVar, newRow]
    · refine ⟨w.heap.size, 0, rfl, fun hm => Nat.lt_irrefl _ (H.lt hm), by simp, ?_⟩
      refine Cells_of_vals (Reps.mono Ev.keeps _ _ q1) (fun j u hu => ?_) q2
      rw [Nat.zero_add, World.cell?_alloc_new]; simpa using hu
  case box t x =>
    obtain ⟨y, hy, rfl⟩ := Option.map_eq_some_iff.1 hc
    simp only [opVC] at hk
    obtain ⟨_, hs, hl, rfl⟩ := hk
    obtain ⟨q1, q2⟩ := (opd_rep (ds := ds) E hy).cells hs
    obtain ⟨H', Ev⟩ := H.alloc_fixed ((⟨tmps, ds⟩ : Act).eval x).cells t
    refine ⟨.pointer (some ⟨w.heap.size, 0, none⟩), w.alloc (.cells ((⟨tmps, ds⟩ : Act).eval x).cells t), ?_, ?_, H', Ev⟩
    · simp [execOp, Instr.box, newVar, newRow]
    · refine ⟨w.heap.size, 0, rfl, fun hm => Nat.lt_irrefl _ (H.lt hm), by simp, ?_⟩
      refine Cells_of_vals (Reps.mono Ev.keeps _ _ q1) (fun j u hu => ?_) q2
      rw [Nat.zero_add, World.cell?_alloc_new]; simpa using hu
  case build t parts =>
    split at hc <;> first | (cases hc; done) | skip
    rename_i fs z hu hz
    split at hc <;> first | (cases hc; done) | skip
    rename_i hfs
    obtain ⟨ps, hp, rfl⟩ := Option.map_eq_some_iff.1 hc
    simp only [opVC] at hk
    obtain ⟨l, hl, rfl⟩ := hk
    obtain ⟨zv, hrun, hrep, _, _⟩ := run_zeroValue_k hz w
    obtain ⟨zs, rfl, hzs⟩ := hrep w (dom h)
    have hmap : (fs.mapM fun f => (do pure (f.offset, ← sizeOf f.type) : Sem (Nat × Nat))).run P w = .ok (fs.map fun f => (f.offset, P.cellsOf f.type)) w := by
      simp only [List.all_eq_true] at hfs
      obtain ⟨l⟩ := fs
      rw [List.mapM_toArray, Sem.run_map, run_mapM_list _ (fun f => (f.offset, P.cellsOf f.type)) l (fun f hf => by simp [run_sizeOf_k (hfs f hf)])]
      simp
    obtain ⟨cs', hf, hr⟩ := fill_run (P := P) (ds := ds) E (places := fs.map fun f => (f.offset, P.cellsOf f.type)) (fs := fs) (fun i f hi => by simp [hi]) parts.toList ps z l zs hp hl hzs
    refine gives_same H (cv := .agg ⟨cs'⟩) ?_ ⟨cs', rfl, hr⟩
    simp only [execOp]
    refine v_run ?_
    simp only [Instr.build, Sem.run_bind, hrun, Result.andThen_ok, run_underlying hu, hmap, Value.cells, Array.toList_map, hf, Sem.run_pure]
  case load t a =>
    split at hc <;> first | (cases hc; done) | skip
    rename_i hkn
    obtain ⟨y, hy, rfl⟩ := Option.map_eq_some_iff.1 hc
    simp only [Bool.and_eq_true, Bool.or_eq_true, beq_iff_eq] at hkn
    simp only [opVC] at hk
    obtain ⟨cs, hcs, hl⟩ := hk
    obtain ⟨b, o, hp, hC⟩ := cellsAt_spec H hcs (opd_rep (ds := ds) E hy)
    unfold loadK at hl
    split at hl
    · rename_i hag
      obtain ⟨hle, rfl⟩ := hl
      obtain ⟨vs, g1, g2, g3⟩ := Cells_vals (Cells_take hC (P.cellsOf t))
      have hlen := Reps_length g1
      have hload := run_loadCells_list (P := P) (w := w) ⟨b, o, none⟩ vs (fun j v hv => by rw [Addr.add_lit]; exact g2 j v hv)
      have : vs.length = P.cellsOf t := by rw [hlen]; simp; omega
      rw [this] at hload
      refine gives_same H (cv := .agg vs.toArray) ?_ ⟨vs, rfl, g1⟩
      simp [execOp, hp, Instr.loadAt, Instr.sureAddr, loadVar, run_isAgg_k hkn.1, hag, run_sizeOf_k hkn.1, hload]
    · rename_i hag
      split at hl <;> first | (exact hl.elim) | skip
      rename_i x r
      subst hl
      obtain ⟨⟨u, h1, h2, h3⟩, _⟩ := hC
      refine gives_same H (cv := u) ?_ h3
      simp [execOp, hp, Instr.loadAt, Instr.sureAddr, loadVar, run_isAgg_k hkn.1, hag, h1]
  case nilCheck x =>
    obtain ⟨y, hy, rfl⟩ := Option.map_eq_some_iff.1 hc
    simp only [opVC] at hk
    have r1 := opd_rep (ds := ds) E hy
    split at hk <;> first | (exact hk.elim) | skip
    · rename_i id sz i o he
      subst hk
      rw [he] at r1
      exact gives_same H (cv := .pointer (some ⟨id, i * sz + o, none⟩)) (by simp [execOp, show (⟨tmps, ds⟩ : Act).eval x = .pointer (some ⟨id, i * sz + o, none⟩) from r1]) rfl
    · rename_i l he
      subst hk
      rw [he] at r1
      obtain ⟨b, o, hp, h1⟩ := r1
      exact gives_same H (cv := .pointer (some ⟨b, o, none⟩)) (by simp [execOp, hp]) ⟨b, o, rfl, h1⟩
  case unOp uop t x =>
    obtain ⟨y, hy, rfl⟩ := Option.map_eq_some_iff.1 hc
    simp only [opVC] at hk
    have r1 := opd_rep (ds := ds) E hy
    split at hk <;> first | (exact hk.elim) | skip
    · rename_i kd n he
      subst hk
      rw [he] at r1
      exact gives_same H (by simp [execOp, show (⟨tmps, ds⟩ : Act).eval x = .int kd n from r1, Op.unary, Op.intArith]) rfl
    · rename_i b he
      subst hk
      rw [he] at r1
      exact gives_same H (by simp [execOp, show (⟨tmps, ds⟩ : Act).eval x = .bool b from r1, Op.unary]) rfl
    · rename_i kd n he
      subst hk
      rw [he] at r1
      exact gives_same H (by simp [execOp, show (⟨tmps, ds⟩ : Act).eval x = .int kd n from r1, Op.unary, bits_eq]) rfl
  case convert s d x =>
    split at hc
    · rename_i ks kd y hs hd hy
      cases hc
      simp only [opVC] at hk
      have r1 := opd_rep (ds := ds) E hy
      split at hk <;> first | (exact hk.elim) | skip
      rename_i k0 n he
      subst hk
      rw [he] at r1
      have e1 : P.intKind d = kd := by simp [Program.intKind, hd]
      have := run_convert_int w s d k0 n (by rw [hs]; rfl) (by rw [e1]; exact hd)
      rw [e1] at this
      exact gives_same H (by simp [execOp, show (⟨tmps, ds⟩ : Act).eval x = .int k0 n from r1, this]) rfl
    · rename_i el y hs hd hy
      split at hc <;> first | (cases hc; done) | skip
      rename_i hel
      cases hc
      have he : P.underlying el = some (.int .u8) := hel
      simp only [opVC] at hk
      have r1 := opd_rep (ds := ds) E hy
      split at hk
      · rename_i hev
        subst hk
        rw [hev] at r1
        refine gives_same H (cv := .string ⟨#[]⟩) ?_ rfl
        simp [execOp, show (⟨tmps, ds⟩ : Act).eval x = .slice none 0 0 from r1, run_convert_bytes_string w s d el none 0 0 hs he hd, Conv.bytesToString, Sem.run_pure]; rfl
      · rename_i hev
        subst hk
        rw [hev] at r1
        obtain ⟨A, hA⟩ := r1
        obtain ⟨A', n', c', e1, e2⟩ := run_bytes (P := P) (w := w) (D := []) (l := []) (s := []) rfl (v := .slice A 0 0) ⟨A, 0, rfl, Nat.le_refl _, fun _ => rfl, fun ad _ => ⟨fun h => absurd rfl h, fun h => absurd rfl h, trivial⟩⟩
        refine gives_same H (cv := .string ⟨#[]⟩) ?_ rfl
        simp [execOp, hA, run_convert_bytes_string w s d el A 0 0 hs he hd, e2]
      · rename_i l hev
        obtain ⟨bs, hb, hk⟩ := hk
        subst hk
        rw [hev] at r1
        obtain ⟨A', n', c', e1, e2⟩ := run_bytes (P := P) hb r1
        refine gives_same H (cv := .string ⟨bs.toArray⟩) ?_ rfl
        rw [e1] at e2
        simp [execOp, e1, run_convert_bytes_string w s d el A' n' c' hs he hd, e2]
      · exact hk.elim
    · cases hc
  case buildSlice t len parts =>
    split at hc <;> first | (cases hc; done) | skip
    rename_i el ps hel hps
    split at hc <;> first | (cases hc; done) | skip
    rename_i hcd
    cases hc
    simp only [Bool.and_eq_true, decide_eq_true_eq] at hcd
    obtain ⟨⟨hlen, hlim⟩, hz⟩ := hcd
    simp only [opVC] at hk
    obtain ⟨_, hall, rfl⟩ := hk
    obtain ⟨vs, q1, hrun⟩ := buildSlice_run (ds := ds) E hel hps hlen hlim hz hall
    obtain ⟨H', Ev⟩ := H.alloc_fixed ⟨flatV vs⟩ el
    refine ⟨_, _, by simp only [execOp, Sem.run_bind, hrun, Result.andThen_ok, Sem.run_pure]; rfl, ?_, H', Ev⟩
    have hl2 : (ps.map (ev e)).length = len := by simp [hlen]
    refine ⟨some ⟨w.heap.size, 0, none⟩, len, by rw [hl2], by omega, (fun h => by cases h), fun ad had => ?_⟩
    cases had
    exact ⟨fun _ => rfl, fun _ => ⟨fun hm => Nat.lt_irrefl _ (H.lt hm), by simp⟩, Elems_of_flat (Reps.mono Ev.keeps _ _ q1) hall (fun j u hu => by rw [Nat.zero_add, World.cell?_alloc_new]; simpa using hu)⟩
  case makeFunc fn first caps =>
    cases fn <;> simp only at hc <;> first | (cases hc; done) | skip
    rename_i g
    split at hc <;> first | (cases hc; done) | skip
    rename_i hf
    obtain ⟨cs, hcs, rfl⟩ := Option.map_eq_some_iff.1 hc
    simp only [opVC] at hk
    subst hk
    have r := opds_rep (ds := ds) E hcs
    have hf' : first = #[] := by simpa using hf
    subst hf'
    refine gives_same H (cv := .func (.func g) #[] (caps.map (⟨tmps, ds⟩ : Act).eval)) (by simp [execOp, Instr.makeFunc]) ⟨_, ?_, r⟩
    congr 1
    apply Array.ext'
    simp
  case makeSlice t l c =>
    split at hc <;> first | (cases hc; done) | skip
    obtain ⟨z, hz, rfl⟩ := Option.map_eq_some_iff.1 hc
    simp [opVC] at hk
  case store t a x =>
    split at hc <;> first | (cases hc; done) | skip
    split at hc <;> first | (cases hc; done) | skip
    cases hc
    simp [opVC] at hk
  case slice t x lo hi mx =>
    split at hc <;> first | (cases hc; done) | skip
    · rename_i y l h' hu hy hlo hhi hmx
      cases hc
      simp only [opVC] at hk
      obtain ⟨l1, b1, h1, b2, hk⟩ := hk
      have r1 := opd_rep (ds := ds) E hy
      split at hk <;> first | (exact hk.elim) | skip
      rename_i s he
      obtain ⟨c1, c2, c3, rfl⟩ := hk
      rw [he] at r1
      have hmx' : mx = none := by cases mx with
        | none => rfl
        | some q => simp [cOptd] at hmx
      subst hmx'
      have hsz : (⟨s.toArray⟩ : ByteArray).size = s.length := by simp [ByteArray.size]
      have hb := bounds_run (P := P) (w := w) false s.length s.length (bndo (ds := ds) E hlo b1) (bndo (ds := ds) E hhi b2) (mx := none) (m := none) (.inl ⟨rfl, rfl⟩) c1 c2 (fun _ _ => c3) (fun h => absurd rfl h)
      refine gives_same H (cv := .string ((⟨s.toArray⟩ : ByteArray).extract (l1.getD 0).toNat (h1.getD s.length).toNat)) ?_ ?_
      · simp only [execOp]
        refine v_run ?_
        rw [show (⟨tmps, ds⟩ : Act).eval x = .string ⟨s.toArray⟩ from r1]
        simp [Instr.sliceAt, Instr.slice, run_underlying hu, hsz, hb]
      · show Value.string _ = Value.string _
        congr 1
        apply ByteArray.ext
        rw [ByteArray.data_extract]
        simp only [List.extract_toArray]
        congr 1
        simp only [List.extract_eq_drop_take']
        rw [List.drop_take]
        congr 1
        omega
    · rename_i el y l h' m hu hy hlo hhi hmx
      split at hc <;> first | (cases hc; done) | skip
      rename_i hkn
      cases hc
      simp only [opVC] at hk
      obtain ⟨hs, l1, b1, h1, b2, m1, b3, hk⟩ := hk
      obtain ⟨cv, g1, g2⟩ := slice_run hu hkn (opd_rep (ds := ds) E hy) (bndo (ds := ds) E hlo b1) (bndo (ds := ds) E hhi b2) (bndo (ds := ds) E hmx b3) hs hk
      exact gives_same H (by simp only [execOp]; exact v_run g1) g2
  case fieldAddr s x f =>
    split at hc <;> first | (cases hc; done) | skip
    rename_i fs y hu hy
    split at hc <;> first | (cases hc; done) | skip
    rename_i fd hfd
    split at hc <;> first | (cases hc; done) | skip
    rename_i hkn
    cases hc
    simp only [Bool.and_eq_true, bne_iff_ne] at hkn
    simp only [opVC] at hk
    have r1 := opd_rep (ds := ds) E hy
    have run : ∀ b o, (⟨tmps, ds⟩ : Act).eval x = .pointer (some ⟨b, o, none⟩) → (Instr.fieldAt s ((⟨tmps, ds⟩ : Act).eval x) f).run P w = .ok (.pointer (some ⟨b, o + fd.offset, none⟩)) w := by
      intro b o he
      simp [he, Instr.fieldAt, run_underlying hu, hfd, Instr.sureAddr, fieldPlace, run_sizeOf_k hkn.1, hkn.2, Addr.add_lit]
    split at hk <;> first | (exact hk.elim) | skip
    · rename_i id sz i o he
      subst hk
      rw [he] at r1
      exact gives_same H (by simp only [execOp]; exact v_run (run _ _ r1)) (by simp [Rep, Nat.add_assoc])
    · rename_i l he
      subst hk
      rw [he] at r1
      obtain ⟨b, o, hp, h1, h2, h3⟩ := r1
      exact gives_same H (by simp only [execOp]; exact v_run (run _ _ hp)) ⟨b, o + fd.offset, rfl, h1, h2, Cells_drop h3 _⟩
  case field s x f =>
    split at hc <;> first | (cases hc; done) | skip
    rename_i fs y hu hy
    split at hc <;> first | (cases hc; done) | skip
    rename_i fd hfd
    split at hc <;> first | (cases hc; done) | skip
    rename_i hkn
    cases hc
    simp only [opVC] at hk
    have r1 := opd_rep (ds := ds) E hy
    split at hk <;> first | (exact hk.elim) | skip
    rename_i l he
    rw [he] at r1
    obtain ⟨vs, hv, hr⟩ := r1
    split at hk
    · rename_i hag
      subst hk
      refine gives_same H (cv := .agg ⟨(vs.drop fd.offset).take (P.cellsOf fd.type)⟩) ?_ ⟨_, rfl, Reps_take (Reps_drop hr _) _⟩
      simp only [execOp]
      refine v_run ?_
      simp [hv, Instr.field, run_underlying hu, hfd, asAgg, part, run_isAgg_k hkn, hag, run_sizeOf_k hkn]
    · rename_i hag
      obtain ⟨z, hz, rfl⟩ := hk
      obtain ⟨u, g1, g2⟩ := Reps_get hr _ _ hz
      refine gives_same H (cv := u) ?_ g2
      simp only [execOp]
      refine v_run ?_
      simp [hv, Instr.field, run_underlying hu, hfd, asAgg, part, run_isAgg_k hkn, hag, g1]
  case indexAddr t x i =>
    split at hc <;> first | (cases hc; done) | skip
    rename_i el a b hel ha hb
    cases hc
    obtain ⟨hu, hkn, hne, _⟩ := elemT_spec hel
    simp only [opVC] at hk
    have r1 := opd_rep (ds := ds) E ha
    have r2 := opd_rep (ds := ds) E hb
    have he0 : P.elem t = el := by simp [Program.elem, hu]
    split at hk <;> first | (exact hk.elim) | skip
    · rename_i s l kd n e1 e2
      obtain ⟨rfl, h0, hn, rfl⟩ := hk
      rw [e1] at r1; rw [e2] at r2
      obtain ⟨A, c, hv, h1, h2, h3⟩ := r1
      have hl : l ≠ [] := by intro hh; subst hh; simp at hn
      cases A with
      | none => exact absurd (h2 rfl) hl
      | some ad =>
        obtain ⟨g1, g2, g3⟩ := h3 ad rfl
        obtain ⟨b', o, sp⟩ := ad
        simp only at g1
        obtain rfl := g1 hl
        obtain ⟨g4, g5⟩ := Elems_iff.1 g3 n.toNat _ (List.getElem?_eq_getElem hn)
        refine gives_same H (cv := .pointer (some ⟨b', o + n.toNat * P.cellsOf el, none⟩)) ?_ ⟨b', _, rfl, (g2 hl).1, (g2 hl).2, g5⟩
        simp only [execOp]
        refine v_run ?_
        rw [hv, show (⟨tmps, ds⟩ : Act).eval i = .int kd n from r2, run_indexAt_slice w t _ _ _ _ _ (by rw [he0]; exact hu), he0]
        rw [if_pos ⟨h0, by omega⟩, run_sizeOf_k hkn]
        simp [Addr.add_lit]
    · rename_i id s off len cp kd n e1 e2
      obtain ⟨rfl, h0, hn, rfl⟩ := hk
      rw [e1] at r1; rw [e2] at r2
      obtain ⟨A, c, hv, h1, h2, h3⟩ := r1
      refine gives_same H (cv := .pointer (some ⟨id, (off + n.toNat) * P.cellsOf el + 0, none⟩)) ?_ rfl
      simp only [execOp]
      refine v_run ?_
      rw [hv, (h2 (by omega)).1, show (⟨tmps, ds⟩ : Act).eval i = .int kd n from r2, run_indexAt_slice w t _ _ _ _ _ (by rw [he0]; exact hu), he0]
      rw [if_pos ⟨h0, by omega⟩, run_sizeOf_k hkn]
      simp [Addr.add_lit, Nat.add_mul]
  case index t x i =>
    split at hc <;> first | (cases hc; done) | skip
    rename_i a b hu ha hb
    cases hc
    simp only [opVC] at hk
    have r1 := opd_rep (ds := ds) E ha
    have r2 := opd_rep (ds := ds) E hb
    split at hk <;> first | (exact hk.elim) | skip
    rename_i s kd n e1 e2
    obtain ⟨h0, hn, rfl⟩ := hk
    rw [e1] at r1; rw [e2] at r2
    refine gives_same H (cv := .int .u8 s[n.toNat].toNat) ?_ rfl
    simp only [execOp]
    refine v_run ?_
    rw [show (⟨tmps, ds⟩ : Act).eval x = .string ⟨s.toArray⟩ from r1, show (⟨tmps, ds⟩ : Act).eval i = .int kd n from r2]
    have hg : (⟨s.toArray⟩ : ByteArray)[n.toNat]? = some s[n.toNat] := by
      have hlt : n.toNat < (⟨s.toArray⟩ : ByteArray).size := by simpa [ByteArray.size] using hn
      exact getElem?_pos (⟨s.toArray⟩ : ByteArray) n.toNat hlt
    simp [Instr.index, asIntOf, run_underlying hu, h0, hg]
  case extract x i =>
    obtain ⟨y, hy, rfl⟩ := Option.map_eq_some_iff.1 hc
    simp only [opVC] at hk
    have r1 := opd_rep (ds := ds) E hy
    split at hk <;> first | (exact hk.elim) | skip
    rename_i l he
    obtain ⟨z, hz, rfl⟩ := hk
    rw [he] at r1
    obtain ⟨vs, hv, hr⟩ := r1
    obtain ⟨u, g1, g2⟩ := Reps_get hr _ _ hz
    refine gives_same H (cv := u) ?_ g2
    simp only [execOp]
    refine v_run ?_
    simp [hv, Instr.extract, g1]
  case call c =>
    split at hc <;> first | (cases hc; done) | skip
    · rename_i bl hcal
      unfold cBuiltin at hc
      have hres : execOp (⟨tmps, ds⟩ : Act).eval ⟨dst, .call c, type, pos, after, guard⟩ = builtin bl c.argTypes type (c.args.map fun | .const _ => true | _ => false) (c.args.map (⟨tmps, ds⟩ : Act).eval) := by
        simp only [execOp, resolve, hcal]
        rfl
      split at hc <;> first | (cases hc; done) | skip
      · rename_i t x ht ha
        have ea : c.args = #[x] := by apply Array.ext'; simpa using ha
        have et : c.argTypes = #[t] := by apply Array.ext'; simpa using ht
        have hrun : ∀ (v : Value) (n : Nat), (∃ A cp, v = .slice A n cp ∧ ∃ el, P.underlying t = some (.slice el)) ∨ (∃ s : ByteArray, v = .string s ∧ s.size = n ∧ P.underlying t = some .string) → (⟨tmps, ds⟩ : Act).eval x = v →
            (execOp (⟨tmps, ds⟩ : Act).eval ⟨dst, .call c, type, pos, after, guard⟩).run P w = .ok (.value (.int .i64 n)) w := by
          intro v n hv hev
          rw [hres, ea, et]
          rcases hv with ⟨A, cp, rfl, el, hu⟩ | ⟨s, rfl, rfl, hu⟩
          · simp [builtin, Builtin.len_, run_underlying hu, hev, goInt]
          · simp [builtin, Builtin.len_, run_underlying hu, hev, goInt]
        split at hc <;> first | (cases hc; done) | skip
        · rename_i el y hu hy
          cases hc
          have r1 := opd_rep (ds := ds) E hy
          simp only [opVC] at hk
          split at hk <;> first | (exact hk.elim) | skip
          · rename_i he; subst hk; rw [he] at r1
            exact gives_same H (hrun _ 0 (.inl ⟨_, _, r1, el, hu⟩) rfl) rfl
          · rename_i he; subst hk; rw [he] at r1; obtain ⟨A, r1⟩ := r1
            exact gives_same H (hrun _ 0 (.inl ⟨_, _, r1, el, hu⟩) rfl) rfl
          · rename_i s l he; subst hk; rw [he] at r1; obtain ⟨A, c', r1, _⟩ := r1
            exact gives_same H (hrun _ l.length (.inl ⟨_, _, r1, el, hu⟩) rfl) rfl
          · rename_i id s off len cp he; subst hk; rw [he] at r1; obtain ⟨A, c', r1, _⟩ := r1
            exact gives_same H (hrun _ len (.inl ⟨_, _, r1, el, hu⟩) rfl) rfl
        · rename_i y hu hy
          cases hc
          have r1 := opd_rep (ds := ds) E hy
          simp only [opVC] at hk
          split at hk <;> first | (exact hk.elim) | skip
          rename_i s he; subst hk; rw [he] at r1
          exact gives_same H (hrun _ s.length (.inr ⟨_, r1, by simp [ByteArray.size], hu⟩) rfl) rfl
      · rename_i t x ht ha
        have ea : c.args = #[x] := by apply Array.ext'; simpa using ha
        have et : c.argTypes = #[t] := by apply Array.ext'; simpa using ht
        split at hc <;> first | (cases hc; done) | skip
        rename_i el y hu hy
        cases hc
        have r1 := opd_rep (ds := ds) E hy
        have hrun : ∀ (A : Option Addr) (n cp : Nat), (⟨tmps, ds⟩ : Act).eval x = .slice A n cp →
            (execOp (⟨tmps, ds⟩ : Act).eval ⟨dst, .call c, type, pos, after, guard⟩).run P w = .ok (.value (.int .i64 cp)) w := by
          intro A n cp hev
          rw [hres, ea, et]
          simp [builtin, Builtin.cap_, run_underlying hu, hev, goInt]
        simp only [opVC] at hk
        split at hk <;> first | (exact hk.elim) | skip
        · rename_i he; subst hk; rw [he] at r1
          exact gives_same H (hrun _ _ 0 r1) rfl
        · rename_i he; subst hk; rw [he] at r1; obtain ⟨A, r1⟩ := r1
          exact gives_same H (hrun _ _ 0 r1) rfl
        · rename_i id s off len cp he; subst hk; rw [he] at r1; obtain ⟨A, c', r1, _, _, hc'⟩ := r1
          rw [hc' cp rfl] at r1
          exact gives_same H (hrun _ _ cp r1) rfl
      · split at hc <;> first | (cases hc; done) | skip
        split at hc <;> first | (cases hc; done) | skip
        · obtain ⟨y, hy, rfl⟩ := Option.map_eq_some_iff.1 hc; simp [opVC] at hk
        · obtain ⟨y, hy, rfl⟩ := Option.map_eq_some_iff.1 hc; simp [opVC] at hk
      · split at hc <;> first | (cases hc; done) | skip
        obtain ⟨y, hy, rfl⟩ := Option.map_eq_some_iff.1 hc; simp [opVC] at hk
      all_goals
        obtain ⟨ys, hys, rfl⟩ := Option.map_eq_some_iff.1 hc
        have r := opds_rep (ds := ds) E hys
        simp only [opVC] at hk
        split at hk <;> first | (exact hk.elim) | skip
        rename_i x0 r0 he
        obtain ⟨y, hy, rfl⟩ := hk
        rw [he] at r
        obtain ⟨u, us, eu, hu, hus⟩ := r
        obtain ⟨cv, g1, g2⟩ := mmAV_run (P := P) _ r0 x0 u us y hu hus hy
        refine gives_same H (cv := cv) ?_ g2
        rw [hres]
        have el : (c.args.map (⟨tmps, ds⟩ : Act).eval).toList = u :: us := by simpa using eu
        simp only [builtin, Builtin.max_, Builtin.min_, el]
        exact v_run (by simpa using g1)
    · cases hc; simp [opVC] at hk
    · obtain ⟨y, hy, rfl⟩ := Option.map_eq_some_iff.1 hc
      simp [opVC] at hk
end
end Go.AG
