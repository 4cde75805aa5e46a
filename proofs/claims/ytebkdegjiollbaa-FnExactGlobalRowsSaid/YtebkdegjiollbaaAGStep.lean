/- The conditions of our own small layer are right. No statement about the program is made here. -/
import Derived.Test.YtebkdegjiollbaaAGRun
namespace Go.AG
open Go.RowKit
section
variable {C : Cx} {e : Env} {h : Heap} {w0 : World} {D0 : List Nat} {tmps : Array Value} {w : World} {R : AV → Heap → Prop} {cs : List Frame}

theorem step_value {P : Program} {b : Frame} {a : Act} {k : List Item} {ops : Array Oper} {j : Nat} {rest : List Nat} {o : Oper} {v : Value} {w' : World} (ho : ops[j]? = some o) (hw : Region.wanted o (yielded ops a.tmps) = true)
    (hr : (execOp a.eval o).run P w = .ok (.value v) w') : step P (lone (b.at a (.inRegion ops (j :: rest) :: k)) cs w) = .next (lone (b.at (a.put o.dst v) (.inRegion ops rest :: k)) cs w') := by
  have hfin : ∀ v, (b.at a (.inRegion ops (j :: rest) :: k)).finish v = b.at (a.put o.dst v) (.inRegion ops rest :: k) := by
    intro v; rw [Frame.finish_at, ho]; rfl
  exact step_lone_go (by rw [stepG_op ho hw, ← hfin]; simp [stepG.apply, hr])
theorem step_skipv {P : Program} {b : Frame} {a : Act} {k : List Item} {ops : Array Oper} {j : Nat} {rest : List Nat} {o : Oper} {w' : World} (ho : ops[j]? = some o) (hw : Region.wanted o (yielded ops a.tmps) = true)
    (hr : (execOp a.eval o).run P w = .ok .skip w') : step P (lone (b.at a (.inRegion ops (j :: rest) :: k)) cs w) = .next (lone (b.at (a.put o.dst undef) (.inRegion ops rest :: k)) cs w') := by
  have hfin : ∀ v, (b.at a (.inRegion ops (j :: rest) :: k)).finish v = b.at (a.put o.dst v) (.inRegion ops rest :: k) := by
    intro v; rw [Frame.finish_at, ho]; rfl
  exact step_lone_go (by rw [stepG_op ho hw, ← hfin]; simp [stepG.apply, hr])
theorem step_unwanted {P : Program} {b : Frame} {a : Act} {k : List Item} {ops : Array Oper} {j : Nat} {rest : List Nat} {o : Oper} (ho : ops[j]? = some o) (hw : Region.wanted o (yielded ops a.tmps) = false) :
    step P (lone (b.at a (.inRegion ops (j :: rest) :: k)) cs w) = .next (lone (b.at (a.put o.dst undef) (.inRegion ops rest :: k)) cs w) := by
  have := step_op_skip (P := P) (b := b) (a := a) (k := k) (cs := cs) (w := w) (ops := ops) (i := j) (rest := rest) (by simp [ho, hw])
  simpa [ho] using this

theorem EnvRel.mono {D D' : List Nat} {w' : World} (E : EnvRel w D e tmps) (K : Keeps w w' D D') : EnvRel w' D' e tmps := fun t => Rep.mono K _ _ (E t)
theorem EnvRel.put {D : List Nat} (E : EnvRel w D e tmps) {d : Option Nat} {v : AV} {cv : Value} (hd : ∀ i, d = some i → i < tmps.size) (hv : Rep w D v cv) : EnvRel w D (put e d v) ((⟨tmps, []⟩ : Act).put d cv).tmps := by
  cases d with
  | none => exact E
  | some i =>
    intro t
    simp only [AG.put, eget, Act.put]
    by_cases ht : i = t
    · subst ht
      rw [if_pos rfl]
      have : (tmps.setIfInBounds i cv).getD i undef = cv := by
        have := hd i rfl
        simp [this]
      rw [this]; exact hv
    · rw [if_neg ht]
      have : (tmps.setIfInBounds i cv).getD t undef = tmps.getD t undef := by
        simp [Array.getElem?_setIfInBounds_ne ht]
      rw [this]; exact E t
theorem SRel.put {h' : Heap} {w' : World} (S : SRel C e h w0 D0 tmps w) {d : Option Nat} {v : AV} {cv : Value} (hd : dstOk C.nt d = true) (hv : Rep w' (dom h') v cv) (H' : HRel w' h') (Ev : Evolve w (dom h) w' (dom h')) :
    SRel C (put e d v) h' w0 D0 ((⟨tmps, []⟩ : Act).put d cv).tmps w' ∧ (⟨tmps, []⟩ : Act).put d cv = ⟨((⟨tmps, []⟩ : Act).put d cv).tmps, []⟩ := by
  refine ⟨⟨(S.env.mono Ev.keeps).put (fun i hi => ?_) hv, ?_, H', S.ev.trans Ev⟩, ?_⟩
  · subst hi; rw [S.size]; simpa [dstOk] using hd
  · rw [← S.size]; cases d <;> simp [Act.put]
  · cases d <;> rfl

theorem cInstr_spec {P : Program} {M : List Nat} {nt : Nat} {ops : Array Oper} {o : Oper} {i : SI} (hc : cInstr P M nt ops o = some i) :
    dstOk nt o.dst = true ∧ i.dst = o.dst ∧ cOp P M o = some i.op ∧
      ((o.guard = none ∧ i.guard = none) ∨ ∃ j b s, o.guard = some (j, b) ∧ (ops[j]?).bind (·.dst) = some s ∧ s < nt ∧ i.guard = some (s, b)) := by
  unfold cInstr at hc
  split at hc <;> first | (cases hc; done) | skip
  rename_i hd
  split at hc <;> first | (cases hc; done) | skip
  rename_i op hop
  split at hc
  · rename_i hg
    cases hc
    exact ⟨hd, rfl, hop, .inl ⟨hg, rfl⟩⟩
  · rename_i j b hg
    split at hc <;> first | (cases hc; done) | skip
    rename_i s hs
    split at hc <;> first | (cases hc; done) | skip
    rename_i hlt
    cases hc
    exact ⟨hd, rfl, hop, .inr ⟨j, b, s, hg, hs, hlt, rfl⟩⟩

def boolIs : Value → Bool → Bool
  | .bool t, b => t == b
  | _, _ => false
/-- Is an operation wanted? As the guard's slot tells. -/
theorem wanted_spec {ops : Array Oper} {o : Oper} {j s : Nat} {b : Bool} (hg : o.guard = some (j, b)) (hs : (ops[j]?).bind (·.dst) = some s) (hlt : s < tmps.size) {v : Value} (hv : tmps.getD s undef = v) :
    Region.wanted o (yielded ops tmps) = boolIs v b := by
  have hget : tmps[s]? = some v := by
    rw [← hv]
    simp [hlt]
  simp only [Region.wanted, hg, yielded, hs, Option.bind_some, hget]
  cases v <;> simp [boolIs]

def isCall : SOp → Bool
  | .call .. | .callv .. => true
  | _ => false

/-- One operation that is wanted, and no call. -/
theorem op_step {ops : Array Oper} {j : Nat} {rest : List Nat} {o : Oper} {k : List Item} {i : SI} (S : SRel C e h w0 D0 tmps w) (ho : ops[j]? = some o) (hc : cInstr C.P C.M C.nt ops o = some i) (hw : Region.wanted o (yielded ops tmps) = true)
    {K : AV → Heap → Prop} (hk : effVC h e i.op K) (hrest : ∀ v h' tmps' w', K v h' → SRel C (put e i.dst v) h' w0 D0 tmps' w' → Fin C w0 D0 R cs (lone ((bF C.fn).at ⟨tmps', []⟩ (.inRegion ops rest :: k)) cs w')) :
    Fin C w0 D0 R cs (lone ((bF C.fn).at ⟨tmps, []⟩ (.inRegion ops (j :: rest) :: k)) cs w) := by
  obtain ⟨hd, hdst, hop, _⟩ := cInstr_spec hc
  obtain ⟨v, h', cv, w', g1, g2, g3, g4, g5⟩ := effVC_sound (ds := []) hop S.heap S.env hk
  rw [hdst] at hrest
  obtain ⟨S', e'⟩ := S.put hd g2 g3 g4
  rcases g1 with g1 | ⟨rfl, g1⟩
  · refine Fin.head (step_value ho hw g1) ?_
    rw [e']
    exact hrest v h' _ _ g5 S'
  · refine Fin.head (step_skipv ho hw g1) ?_
    rw [e']
    exact hrest v h' _ _ g5 S'
/-- One operation that is not wanted. -/
theorem op_skip {ops : Array Oper} {j : Nat} {rest : List Nat} {o : Oper} {k : List Item} {i : SI} (S : SRel C e h w0 D0 tmps w) (ho : ops[j]? = some o) (hc : cInstr C.P C.M C.nt ops o = some i) (hw : Region.wanted o (yielded ops tmps) = false)
    (hrest : ∀ tmps', SRel C (put e i.dst (.tup [])) h w0 D0 tmps' w → Fin C w0 D0 R cs (lone ((bF C.fn).at ⟨tmps', []⟩ (.inRegion ops rest :: k)) cs w)) :
    Fin C w0 D0 R cs (lone ((bF C.fn).at ⟨tmps, []⟩ (.inRegion ops (j :: rest) :: k)) cs w) := by
  obtain ⟨hd, hdst, hop, _⟩ := cInstr_spec hc
  rw [hdst] at hrest
  obtain ⟨S', e'⟩ := S.put hd (show Rep w (dom h) (.tup []) undef from ⟨[], rfl, rfl⟩) S.heap (.refl _ _)
  refine Fin.head (step_unwanted ho hw) ?_
  rw [e']
  exact hrest _ S'

theorem amap (xs : Array Operand) (f : Operand → Value) : xs.map f = ⟨xs.toList.map f⟩ := by apply Array.ext'; simp
theorem builtin_noCall {P : Program} {b : Builtin} {ts : List TypeId} {xs : List Operand} {op : SOp} (hc : cBuiltin P b ts xs = some op) (hi : isCall op = true) : False := by
  unfold cBuiltin at hc
  (repeat' split at hc) <;> first
    | (cases hc; done)
    | (cases hc; simp [isCall] at hi; done)
    | (obtain ⟨y, hy, rfl⟩ := Option.map_eq_some_iff.1 hc; simp [isCall] at hi; done)
theorem cOp_call {P : Program} {M : List Nat} {o : Oper} {op : SOp} (hc : cOp P M o = some op) (hi : isCall op = true) : ∃ c, o.op = .call c := by
  obtain ⟨dst, mop, type, pos, after, guard⟩ := o
  cases mop <;> simp only [cOp] at hc <;> first
    | exact ⟨_, rfl⟩
    | (cases hc; done)
    | (exfalso
       unfold cBin at hc
       (repeat' split at hc) <;> first
         | (cases hc; done)
         | (cases hc; simp [isCall] at hi; done))
    | (exfalso
       (repeat' split at hc) <;> first
         | contradiction
         | (cases hc; done)
         | (cases hc; simp [isCall] at hi; done)
         | (obtain ⟨y, hy, rfl⟩ := Option.map_eq_some_iff.1 hc; simp [isCall] at hi; done))
/-- What the machine does at a call. -/
theorem call_run {o : Oper} {i : SI} {ops : Array Oper} {a : Act} (hE : EnvRel w (dom h) e a.tmps) (hc : cInstr C.P C.M C.nt ops o = some i) {g : FuncId} (hok : CallOk C.P g) {args : List AV}
    (hi : (∃ xs, i.op = .call g xs ∧ args = xs.map (ev e)) ∨ ∃ f xs caps, i.op = .callv f xs ∧ ev e f = .fn g caps ∧ args = xs.map (ev e) ++ caps) :
    ∃ vs, Reps w (dom h) args vs ∧ (execOp a.eval o).run C.P w = .ok (.enter g ⟨vs⟩) w := by
  obtain ⟨hd, hdst, hop, _⟩ := cInstr_spec hc
  obtain ⟨fn, hf, hn, hb⟩ := hok
  obtain ⟨tmps, ds⟩ := a
  obtain ⟨dst, mop, type, pos, after, guard⟩ := o
  have hcall : ∀ us : List Value, (callFunc g ⟨us⟩).run C.P w = .ok (.enter g ⟨us⟩) w := by
    intro us
    have hn' : ¬ fn.name = "runtime.NumGoroutine" := by simpa using hn
    have hb' : ¬ fn.body = none := by intro h; simp [h] at hb
    simp [callFunc, hf, hn', hb']
  obtain ⟨c, rfl⟩ : ∃ c, mop = .call c := cOp_call hop (by rcases hi with ⟨xs, hi, _⟩ | ⟨f, xs, caps, hi, _⟩ <;> rw [hi] <;> rfl)
  simp only [cOp] at hop
  split at hop <;> first | (cases hop; done) | skip
  · exfalso
    rename_i bl hcal
    exact builtin_noCall hop (by rcases hi with ⟨xs, hi, _⟩ | ⟨f, xs, caps, hi, _⟩ <;> rw [hi] <;> rfl)
  · rename_i g' xs hcal hxs
    rcases hi with ⟨xs', hi, rfl⟩ | ⟨f, xs', caps, hi, hev, rfl⟩ <;> rw [hi] at hop <;> cases hop
    have hr := opds_rep (ds := ds) hE hxs
    refine ⟨_, hr, ?_⟩
    simp only [execOp, resolve, hcal]
    have := hcall (c.args.toList.map (⟨tmps, ds⟩ : Act).eval)
    rw [amap]
    simpa [Act.eval, Deferred.ofValue, invoke] using this
  · rename_i f' xs _ hcal hxs
    obtain ⟨y, hy, hop⟩ := Option.map_eq_some_iff.1 hop
    rcases hi with ⟨xs', hi, rfl⟩ | ⟨f, xs', caps, hi, hev, rfl⟩ <;> rw [hi] at hop <;> cases hop
    have hr := opds_rep (ds := ds) hE hxs
    have hf' := opd_rep (ds := ds) hE hy
    rw [hev] at hf'
    obtain ⟨us, hus, hcaps⟩ := hf'
    refine ⟨_, Reps_append hr hcaps, ?_⟩
    simp only [execOp, resolve, hcal]
    rw [hus]
    have := hcall (c.args.toList.map (⟨tmps, ds⟩ : Act).eval ++ us)
    rw [amap]
    simpa [Deferred.ofValue, invoke] using this

/-- A call that is wanted. -/
theorem call_step {ops : Array Oper} {j : Nat} {rest : List Nat} {o : Oper} {k : List Item} {i : SI} (S : SRel C e h w0 D0 tmps w) (ho : ops[j]? = some o) (hc : cInstr C.P C.M C.nt ops o = some i) (hw : Region.wanted o (yielded ops tmps) = true)
    {g : FuncId} {args : List AV} (hi : (∃ xs, i.op = .call g xs ∧ args = xs.map (ev e)) ∨ ∃ f xs caps, i.op = .callv f xs ∧ ev e f = .fn g caps ∧ args = xs.map (ev e) ++ caps)
    {K : AV → Heap → Prop} (hk : ACalls C.P g args h K) (hrest : ∀ v h' tmps' w', K v h' → SRel C (put e i.dst v) h' w0 D0 tmps' w' → Fin C w0 D0 R cs (lone ((bF C.fn).at ⟨tmps', []⟩ (.inRegion ops rest :: k)) cs w')) :
    Fin C w0 D0 R cs (lone ((bF C.fn).at ⟨tmps, []⟩ (.inRegion ops (j :: rest) :: k)) cs w) := by
  obtain ⟨hd, hdst, hop, _⟩ := cInstr_spec hc
  obtain ⟨hok, hcl⟩ := hk
  obtain ⟨vs, hr, hrun⟩ := call_run (a := ⟨tmps, []⟩) S.env hc hok hi
  obtain ⟨en, w', fr, ⟨cv, v, h', rfl, g2, g3, g4, g5⟩, hsteps, _, hleave⟩ := hcl w vs S.heap hr ((bF C.fn).at ⟨tmps, []⟩ (.inRegion ops (j :: rest) :: k) :: cs)
  have henter : step C.P (lone ((bF C.fn).at ⟨tmps, []⟩ (.inRegion ops (j :: rest) :: k)) cs w) = .next (lone (Frame.enter C.P g ⟨vs⟩ .normal) ((bF C.fn).at ⟨tmps, []⟩ (.inRegion ops (j :: rest) :: k) :: cs) w) :=
    step_lone_go (by rw [stepG_op ho hw]; simp [stepG.apply, hrun, Frame.at])
  have hfin : ∀ v, ((bF C.fn).at ⟨tmps, []⟩ (.inRegion ops (j :: rest) :: k)).finish v = (bF C.fn).at ((⟨tmps, []⟩ : Act).put o.dst v) (.inRegion ops rest :: k) := by
    intro v; rw [Frame.finish_at, ho]; rfl
  rw [hdst] at hrest
  obtain ⟨S', e'⟩ := S.put hd g2 g3 g4
  refine Fin.steps (Steps.head henter (Steps.trans hsteps (.one (step_leave_returned hleave)))) ?_
  rw [hfin, e']
  exact hrest v h' _ _ g5 S'

theorem load_run {P : Program} {t : TypeId} (hk : knownT P t = true) (H : HRel w h) {x : AV} {v : Value} (hv : Rep w (dom h) x v) {cs : List AV} (hc : cellsAt h x = some cs) {y : AV}
    (hy : (if aggT P t then (if P.cellsOf t ≤ cs.length then some (.agg (cs.take (P.cellsOf t))) else none) else cs.head?) = some y) : ∃ cv, ((do loadVar t (← asAddr v)) : Sem Value).run P w = .ok cv w ∧ Rep w (dom h) y cv := by
  obtain ⟨b, o, rfl, hC⟩ := cellsAt_spec H hc hv
  split at hy
  · rename_i hag
    split at hy <;> first | (cases hy; done) | skip
    rename_i hle
    cases hy
    obtain ⟨vs, g1, g2, g3⟩ := Cells_vals (Cells_take hC (P.cellsOf t))
    have hlen := Reps_length g1
    have hload := run_loadCells_list (P := P) (w := w) ⟨b, o, none⟩ vs (fun j v hv => by rw [Addr.add_lit]; exact g2 j v hv)
    have : vs.length = P.cellsOf t := by rw [hlen]; simp; omega
    rw [this] at hload
    exact ⟨.agg vs.toArray, by simp [asAddr, loadVar, run_isAgg_k hk, hag, run_sizeOf_k hk, hload], ⟨vs, rfl, g1⟩⟩
  · rename_i hag
    cases cs with
    | nil => cases hy
    | cons z r =>
      cases hy
      obtain ⟨⟨u, h1, h2, h3⟩, _⟩ := hC
      exact ⟨u, by simp [asAddr, loadVar, run_isAgg_k hk, hag, h1], h3⟩
def resSem (tmps : Array Value) : ResultVar → Sem Value
  | .tmp t => pure (tmps.getD t undef)
  | .cell a t => do loadVar t (← asAddr (tmps.getD a undef))
theorem resAVs_run (H : HRel w h) (E : EnvRel w (dom h) e tmps) : ∀ {rs : List ResultVar} {qs : List RV} {l : List AV}, cRes C.P rs = some qs → resAVs e h qs = some l → ∃ vs, (rs.mapM (resSem tmps)).run C.P w = .ok vs w ∧ Reps w (dom h) l vs
  | [], qs, l, hq, hl => by
    simp [cRes] at hq; subst hq
    simp [resAVs] at hl; subst hl
    exact ⟨[], rfl, rfl⟩
  | .tmp t :: rs, qs, l, hq, hl => by
    obtain ⟨q, hq', rfl⟩ := Option.map_eq_some_iff.1 hq
    simp only [resAVs, resAV] at hl
    split at hl <;> first | (cases hl; done) | skip
    rename_i x xs h1 h2
    cases h1; cases hl
    obtain ⟨vs, g1, g2⟩ := resAVs_run H E hq' h2
    exact ⟨tmps.getD t undef :: vs, by simp only [List.mapM_cons, resSem, Sem.run_bind, Sem.run_pure, Result.andThen_ok, g1], Reps_cons.2 ⟨E t, g2⟩⟩
  | .cell a t :: rs, qs, l, hq, hl => by
    simp only [cRes] at hq
    split at hq <;> first | (cases hq; done) | skip
    rename_i hkn
    simp only [Bool.and_eq_true, Bool.or_eq_true, beq_iff_eq] at hkn
    obtain ⟨q, hq', rfl⟩ := Option.map_eq_some_iff.1 hq
    simp only [resAVs, resAV] at hl
    split at hl <;> first | (cases hl; done) | skip
    rename_i x xs h1 h2
    cases hl
    split at h1 <;> first | (cases h1; done) | skip
    rename_i cs hcs
    obtain ⟨vs, g1, g2⟩ := resAVs_run H E hq' h2
    obtain ⟨cv, k1, k2⟩ := load_run hkn.1 H (E a) hcs h1
    exact ⟨cv :: vs, by simp only [List.mapM_cons, resSem, Sem.run_bind] at k1 ⊢; simp only [k1, Sem.run_pure, Result.andThen_ok, g1], Reps_cons.2 ⟨k2, g2⟩⟩
theorem ret_fin {fn : Func} (hf : C.P.funcs[C.fn]? = some fn) (hres : cRes C.P fn.results.toList = some C.res) (S : SRel C e h w0 D0 tmps w) (hr : retVC C e h R) (k : List Item) :
    Fin C w0 D0 R cs (lone { (bF C.fn).at ⟨tmps, []⟩ k with mode := .returning } cs w) := by
  obtain ⟨l, hl, hR⟩ := hr
  obtain ⟨vs, g1, g2⟩ := resAVs_run (C := C) S.heap S.env hres hl
  have hrun : (results fn tmps).run C.P w = .ok (if h : vs.length = 1 then vs[0] else .tuple ⟨vs⟩) w := by
    have e0 : results fn tmps = (do let vs ← fn.results.mapM (resSem tmps); pure (if h : vs.size = 1 then vs[0] else .tuple vs)) := rfl
    have e1 : fn.results = ⟨fn.results.toList⟩ := rfl
    rw [e0, e1, List.mapM_toArray]
    simp only [Sem.run_bind, Sem.run_map, g1, Result.andThen_ok, Sem.run_pure]
    simp
  refine ⟨_, w, _, (match l with | [x] => x | l => .tup l), h, Steps.refl _ _, rfl, ⟨rfl, rfl, rfl, fn, hf, hrun⟩, ?_, S.heap, S.ev, ?_⟩
  · match l, g2 with
    | [], g2 => cases g2; exact ⟨[], rfl, rfl⟩
    | [x], g2 =>
      obtain ⟨v, r, rfl, h1, h2⟩ := g2
      cases h2
      exact h1
    | x :: y :: r, g2 =>
      obtain ⟨v, r', rfl, h1, v2, r2, rfl, h2, h3⟩ := g2
      exact ⟨_, by simp, v, _, rfl, h1, v2, r2, rfl, h2, h3⟩
  · match l, hR with
    | [], hR => exact hR
    | [x], hR => exact hR
    | x :: y :: r, hR => exact hR
end
end Go.AG
