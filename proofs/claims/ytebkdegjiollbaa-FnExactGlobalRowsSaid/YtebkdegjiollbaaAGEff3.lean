/- Every operation of our own small layer is right, with memory. No statement about the program is made here. -/
import Derived.Test.YtebkdegjiollbaaAGEff2
namespace Go.AG
open Go.RowKit
section
variable {P : Program} {M : List Nat} {w : World} {h : Heap} {e : Env} {tmps : Array Value} {ds : List Deferred}

def GivesE (P : Program) (o : Oper) (a : Act) (w : World) (h : Heap) (K : AV → Heap → Prop) : Prop :=
  ∃ v h' cv w', ((execOp a.eval o).run P w = .ok (.value cv) w' ∨ (cv = undef ∧ (execOp a.eval o).run P w = .ok .skip w')) ∧ Rep w' (dom h') v cv ∧ HRel w' h' ∧ Evolve w (dom h) w' (dom h') ∧ K v h'
theorem GivesE.of_calm {o : Oper} {op : SOp} (hc : cOp P M o = some op) (H : HRel w h) (E : EnvRel w (dom h) e tmps) {K : AV → Heap → Prop} (hk : opVC h e op fun v => K v h) : GivesE P o ⟨tmps, ds⟩ w h K := by
  obtain ⟨v, h1, h2⟩ := opVC_det hk
  obtain ⟨cv, w', g1, g2, g3, g4⟩ := opVC_sound (ds := ds) hc H E h1
  exact ⟨v, h, cv, w', .inl g1, g2, g3, g4, h2⟩
theorem row_new (H : HRel w h) {sz : Nat} {L : List AV} {fl : List Value} (F : FlatRep w (dom h) sz L fl) (el : TypeId) :
    HRel (w.alloc (.cells ⟨fl⟩ el)) ((w.heap.size, ⟨sz, L⟩) :: h) ∧ Evolve w (dom h) (w.alloc (.cells ⟨fl⟩ el)) (w.heap.size :: dom h) := by
  have := H.row F el (rest := [])
  simpa using this
theorem FlatRep.single {D : List Nat} {x : AV} {v : Value} (hr : Rep w D x v) (hs : storable x = true) {sz : Nat} (hl : (cellsOf x).length = sz) : FlatRep w D sz [x] v.cells.toList := by
  have := FlatRep.of_reps (Reps_cons.2 ⟨hr, rfl⟩ : Reps w D [x] [v]) (sz := sz) (by simp [hs, hl])
  simpa [flatV] using this

theorem sl_new {sz n nc : Nat} {cells : List Value} {el : TypeId} {w1 : World} (h1 : n ≤ nc) (h2 : cells.length = nc * sz) (D : List Nat) : Rep (w1.alloc (.cells ⟨cells⟩ el)) D (.sl w1.heap.size sz 0 n none) (.slice (some ⟨w1.heap.size, 0, none⟩) n nc) :=
  ⟨_, nc, rfl, h1, fun _ => ⟨by simp, ⟨cells⟩, el, (0, 0), by show (w1.heap.push _)[w1.heap.size]? = _; simp, by simp [h2]⟩, fun _ h => by cases h⟩
theorem effVC_sound {o : Oper} {op : SOp} (hc : cOp P M o = some op) (H : HRel w h) (E : EnvRel w (dom h) e tmps) {K : AV → Heap → Prop} (hk : effVC h e op K) : GivesE P o ⟨tmps, ds⟩ w h K := by
  have calm : opVC h e op (fun v => K v h) → GivesE P o ⟨tmps, ds⟩ w h K := fun hk => .of_calm hc H E hk
  have hfresh : w.heap.size ∉ dom h := fun hm => Nat.lt_irrefl _ (H.lt hm)
  obtain ⟨dst, mop, type, pos, after, guard⟩ := o
  have hc0 := hc
  cases mop <;> simp only [cOp] at hc <;> first | (cases hc; done) | skip
  case move x => obtain ⟨y, hy, rfl⟩ := Option.map_eq_some_iff.1 hc; exact calm hk
  case assign x => obtain ⟨y, hy, rfl⟩ := Option.map_eq_some_iff.1 hc; exact calm hk
  case pick c a b => split at hc <;> first | (cases hc; done) | (cases hc; exact calm hk)
  case load t a => split at hc <;> first | (cases hc; done) | (obtain ⟨y, hy, rfl⟩ := Option.map_eq_some_iff.1 hc; exact calm hk)
  case nilCheck x => obtain ⟨y, hy, rfl⟩ := Option.map_eq_some_iff.1 hc; exact calm hk
  case unOp uop t x => obtain ⟨y, hy, rfl⟩ := Option.map_eq_some_iff.1 hc; exact calm hk
  case convert s d x =>
    split at hc <;> first | (cases hc; done) | (cases hc; exact calm hk) | skip
    split at hc <;> first | (cases hc; done) | (cases hc; exact calm hk)
  case build t parts =>
    split at hc <;> first | (cases hc; done) | skip
    split at hc <;> first | (cases hc; done) | (obtain ⟨y, hy, rfl⟩ := Option.map_eq_some_iff.1 hc; exact calm hk)
  case makeFunc fn first caps =>
    cases fn <;> simp only at hc <;> first | (cases hc; done) | skip
    split at hc <;> first | (cases hc; done) | (obtain ⟨y, hy, rfl⟩ := Option.map_eq_some_iff.1 hc; exact calm hk)
  case slice t x lo hi mx =>
    split at hc <;> first | (cases hc; done) | skip
    · cases hc; exact calm hk
    · split at hc <;> first | (cases hc; done) | (cases hc; exact calm hk)
  case fieldAddr s x f =>
    split at hc <;> first | (cases hc; done) | skip
    split at hc <;> first | (cases hc; done) | skip
    split at hc <;> first | (cases hc; done) | (cases hc; exact calm hk)
  case field s x f =>
    split at hc <;> first | (cases hc; done) | skip
    split at hc <;> first | (cases hc; done) | skip
    split at hc <;> first | (cases hc; done) | (cases hc; exact calm hk)
  case indexAddr t x i => split at hc <;> first | (cases hc; done) | (cases hc; exact calm hk)
  case index t x i => split at hc <;> first | (cases hc; done) | (cases hc; exact calm hk)
  case extract x i => obtain ⟨y, hy, rfl⟩ := Option.map_eq_some_iff.1 hc; exact calm hk
  case binOp bop t x y yt =>
    unfold cBin at hc
    split at hc
    · split at hc <;> first | (cases hc; done) | (cases hc; exact calm hk)
    · split at hc <;> first | (cases hc; done) | (cases hc; exact calm hk)
    · split at hc <;> first | (cases hc; done) | (cases hc; exact calm hk)
    · split at hc <;> first | (cases hc; done) | skip
      split at hc <;> first | (cases hc; done) | (cases hc; exact calm hk)
    · split at hc <;> first | (cases hc; done) | skip
      rename_i kd hkd
      split at hc <;> first | (cases hc; done) | skip
      rename_i hnil
      have fin : ∀ (neg : Bool) (a : Opd), cOpd x = some a → op = .eqn kd neg a → (bop = if neg then .neq else .eql) → GivesE P ⟨dst, .binOp bop t x y yt, type, pos, after, guard⟩ ⟨tmps, ds⟩ w h K := by
        intro neg a ha hop hbop
        subst hop
        simp only [effVC] at hk
        split at hk
        · rename_i b hb
          exact calm ⟨b, hb, hk⟩
        · rename_i hb
          have r1 := opd_rep (ds := ds) E ha
          have hsl : (∃ el, P.underlying t = some (.slice el)) → ∀ A n c, (⟨tmps, ds⟩ : Act).eval x = .slice A n c → K (.bool true) h ∧ K (.bool false) h → isNilC 0 y = true → GivesE P ⟨dst, .binOp bop t x y yt, type, pos, after, guard⟩ ⟨tmps, ds⟩ w h K := by
            intro ⟨el, hu⟩ A n c hv hkk hny
            cases y <;> first | (simp [isNilC] at hny; done) | skip
            rename_i cv
            cases cv <;> first | (simp [isNilC] at hny; done) | skip
            rename_i A' n' c'
            cases A' <;> first | (simp [isNilC] at hny; done) | skip
            refine ⟨.bool (if neg then !A.isNone else A.isNone), h, .bool (if neg then !A.isNone else A.isNone), w, .inl ?_, rfl, H, .refl _ _, by cases A <;> cases neg <;> first | exact hkk.1 | exact hkk.2⟩
            simp only [execOp]
            refine v_run ?_
            rw [hv, show (⟨tmps, ds⟩ : Act).eval (.const (.slice none n' c')) = .slice none n' c' from rfl, eqGuard_at_slice]
            have he : (Op.equal t (.slice A n c) (.slice none n' c')).run P w = .ok A.isNone w := eq_slice 9999 hu A n c n' c'
            subst hbop
            cases neg
            · simp only [Bool.false_eq_true, if_false, Sem.run_bind, Sem.run_pure, Result.andThen_ok]
              rw [show binOp .eql t (.slice A n c) (.slice none n' c') = (do pure (.bool (← Op.equal t (.slice A n c) (.slice none n' c')))) from rfl]
              simp [he]
            · simp only [if_true, Sem.run_bind, Sem.run_pure, Result.andThen_ok]
              rw [show binOp .neq t (.slice A n c) (.slice none n' c') = (do pure (.bool (!(← Op.equal t (.slice A n c) (.slice none n' c'))))) from rfl]
              simp [he]
          have hu0 : kd = 0 → ∃ el, P.underlying t = some (.slice el) := by
            intro h0
            subst h0
            unfold nilK at hkd
            split at hkd <;> first | (cases hkd; done) | exact ⟨_, ‹_›⟩
          split at hk <;> first | (exact hk.elim) | skip
          · rename_i he; rw [he] at r1; obtain ⟨A, c, r1, _⟩ := r1; exact hsl (hu0 rfl) _ _ _ r1 hk hnil
          · rename_i he; rw [he] at r1; obtain ⟨A, c, r1, _⟩ := r1; exact hsl (hu0 rfl) _ _ _ r1 hk hnil
          · rename_i he; rw [he] at r1; obtain ⟨A, r1⟩ := r1; exact hsl (hu0 rfl) _ _ _ r1 hk hnil
      split at hc <;> first | (cases hc; done) | skip
      · rename_i a ha; cases hc; exact fin false a ha rfl rfl
      · rename_i a ha; cases hc; exact fin true a ha rfl rfl
  case alloc t =>
    split at hc <;> first | (cases hc; done) | skip
    rename_i hkn
    obtain ⟨z, hz, hop⟩ := Option.map_eq_some_iff.1 hc
    obtain ⟨m, hm⟩ : ∃ m, op = .alloc m (P.cellsOf t) z := ⟨_, hop.symm⟩
    subst hm
    simp only [effVC] at hk
    split at hk
    · obtain ⟨hs, hl, hk⟩ := hk
      obtain ⟨zv, hrun, hrep, _, _⟩ := run_zeroValue_k hz w
      obtain ⟨H', Ev⟩ := row_new H (FlatRep.single (hrep w (dom h)) hs hl) t
      exact ⟨_, _, .pointer (some ⟨w.heap.size, 0, none⟩), _, .inl (by simp [execOp, Instr.alloc, hrun, newVar, newRow]), by simp [Rep], H', Ev, hk _ hfresh⟩
    · exact calm hk
  case box t x =>
    obtain ⟨y, hy, hop⟩ := Option.map_eq_some_iff.1 hc
    obtain ⟨m, hm⟩ : ∃ m, op = .box m (P.cellsOf t) y := ⟨_, hop.symm⟩
    subst hm
    simp only [effVC] at hk
    split at hk
    · obtain ⟨hs, hl, hk⟩ := hk
      obtain ⟨H', Ev⟩ := row_new H (FlatRep.single (opd_rep (ds := ds) E hy) hs hl) t
      exact ⟨_, _, .pointer (some ⟨w.heap.size, 0, none⟩), _, .inl (by simp [execOp, Instr.box, newVar, newRow]), by simp [Rep], H', Ev, hk _ hfresh⟩
    · exact calm hk
  case buildSlice t len parts =>
    split at hc <;> first | (cases hc; done) | skip
    rename_i el ps hel hps
    split at hc <;> first | (cases hc; done) | skip
    rename_i hcd
    obtain ⟨m, hm⟩ : ∃ m, op = .bsl m (P.cellsOf el) ps := ⟨_, (Option.some.inj hc).symm⟩
    subst hm
    simp only [effVC] at hk
    split at hk
    · obtain ⟨hall, hk⟩ := hk
      simp only [Bool.and_eq_true, decide_eq_true_eq] at hcd
      obtain ⟨⟨hlen, hlim⟩, hz⟩ := hcd
      obtain ⟨vs, q1, hrun⟩ := buildSlice_run (ds := ds) E hel hps hlen hlim hz hall
      obtain ⟨H', Ev⟩ := row_new H (FlatRep.of_reps q1 hall) el
      refine ⟨_, _, _, _, .inl (by simp only [execOp, Sem.run_bind, hrun, Result.andThen_ok, Sem.run_pure]; rfl), ?_, H', Ev, hk _ hfresh⟩
      exact ⟨_, len, by rw [hlen], by omega, (fun _ => ⟨by simp, ⟨flatV vs⟩, el, (0, 0), by show (w.heap.push _)[w.heap.size]? = _; simp, by
        have := flatV_length q1 hall
        simp only [List.length_map, hlen] at this
        simp [this]⟩), fun k hk => by cases hk; exact hlen.symm⟩
    · exact calm hk
  case makeSlice t l c =>
    split at hc <;> first | (cases hc; done) | skip
    rename_i el a b hel ha hb
    obtain ⟨z, hz, rfl⟩ := Option.map_eq_some_iff.1 hc
    simp only [effVC] at hk
    obtain ⟨hut, hkn, hne, hby⟩ := elemT_spec hel
    have r1 := opd_rep (ds := ds) E ha
    have r2 := opd_rep (ds := ds) E hb
    split at hk <;> first | (exact hk.elim) | skip
    rename_i ln cn e1 e2
    rw [e1] at r1; rw [e2] at r2
    obtain ⟨h0, hlc, hlim, hs, hl, hk⟩ := hk
    obtain ⟨i, v, hi, hzv, hzz, _⟩ := zeroT_spec hz
    have hbo : P.bytesOf el = i.bytes := by simp [Program.bytesOf, hi]
    have hpos : 0 < P.bytesOf el := Nat.pos_of_ne_zero hby
    have hcle : cn ≤ 281474976710656 := by
      have : (1 : Int) * cn ≤ P.bytesOf el * cn := Int.mul_le_mul_of_nonneg_right (by omega) (by omega)
      omega
    have w1 : IntKind.i64.wrap ln = ln := IntWalk.i64_in _ (by omega)
    have w2 : IntKind.i64.wrap cn = cn := IntWalk.i64_in _ (by omega)
    have hzr : (zeroValue el).run P w = .ok v w := by simp [zeroValue, run_typeInfo w hi, hzv]
    have hzrep : ∀ (w : World) (D : List Nat), Rep w D z v := fun w D => zeroAV_rep hzz
    have hvs : v.cells.size = P.cellsOf el := by
      have := Reps_length ((hzrep w []).cells hs).1
      rw [← hl, ← this]; simp
    let arr : Array Value := (Array.range (cn.toNat * P.cellsOf el)).map (v.cells[· % v.cells.size]!)
    have hrun : (Instr.makeSlice t (.int .i64 ln) (.int .i64 cn)).run P w = .ok (.slice (some ⟨w.heap.size, 0, none⟩) ln.toNat cn.toNat) (w.alloc (.cells arr el)) := by
      simp only [Instr.makeSlice, Sem.run_bind, run_underlying hut, Result.andThen_ok, asInt, asIntOf, Sem.run_pure, run_typeInfo w hi, w1, w2]
      rw [← hbo]
      rw [if_neg (by simp; omega)]
      simp only [Sem.run_bind, run_askRoom, Result.andThen_ok, run_sizeOf_k hkn]
      by_cases hn : cn.toNat * P.cellsOf el = 0
      · rw [if_pos hn]
        have : arr = #[] := by simp [arr, hn]
        simp [newRow, hn, this, show Array.range 0 = #[] from rfl]
      · rw [if_neg hn]
        simp [hzr, newRow, arr]
    have hE : Elems (w.alloc (.cells arr el)) (w.heap.size :: dom h) (P.cellsOf el) (List.replicate cn.toNat z) w.heap.size 0 :=
      zeros_elems (hzrep _ _) hs hl _ (fun j hj => by
        rw [World.cell?_alloc_new]
        have hm : j % v.cells.size < v.cells.size := Nat.mod_lt _ (by rw [hvs]; omega)
        simp [arr, hj, getElem!_pos, hm])
    obtain ⟨H', Ev⟩ := H.alloc arr el ⟨P.cellsOf el, List.replicate cn.toNat z⟩ hE
    refine ⟨_, _, .slice (some ⟨w.heap.size, 0, none⟩) ln.toNat cn.toNat, _, .inl ?_, ?_, H', Ev, hk _ hfresh⟩
    · simp only [execOp]
      rw [show (⟨tmps, ds⟩ : Act).eval l = .int .i64 ln from r1, show (⟨tmps, ds⟩ : Act).eval c = .int .i64 cn from r2]
      simp only [Sem.run_bind, hrun, Result.andThen_ok, Sem.run_pure]
    · exact ⟨_, cn.toNat, rfl, by omega, (fun _ => ⟨by simp, arr, el, (0, 0), by show (w.heap.push _)[w.heap.size]? = _; simp, by simp [arr]⟩), fun k hk => by cases hk; rfl⟩
  case store t a x =>
    split at hc <;> first | (cases hc; done) | skip
    rename_i a' x' ha hx
    split at hc <;> first | (cases hc; done) | skip
    rename_i hkn
    cases hc
    simp only [effVC] at hk
    have r1 := opd_rep (ds := ds) E ha
    split at hk <;> first | (exact hk.elim) | skip
    rename_i id sz i o he
    rw [he] at r1
    simp only [Bool.and_eq_true, bne_iff_ne] at hkn
    obtain ⟨hs, hl, blk, hb, hsz, hi, hon, hk⟩ := hk
    subst hsz
    obtain ⟨q1, q2⟩ := (opd_rep (ds := ds) E hx).cells hs
    have q3 := Reps_length q1
    obtain ⟨w', g1, g2, g3⟩ := store_sound (P := P) H hb hi (x := ev e x') (o := o) q1 q2 (by omega) (by intro h; rw [h] at hl; simp at hl; omega)
      (el' := if P.cellsOf t = blk.sz then ev e x' else .agg (splice (cellsOf blk.l[i]) o (cellsOf (ev e x')))) (by
        split
        · rename_i hh
          obtain ⟨c, tt, _, hE⟩ := H.all _ (hget_mem hb)
          have hil := (Elems_iff.1 hE i _ (List.getElem?_eq_getElem hi)).1
          simp only at hil
          have ho : o = 0 := by omega
          subst ho
          unfold splice
          rw [List.drop_of_length_le (by omega)]
          simp
        · rfl)
    refine ⟨.undef, _, undef, w', .inr ⟨rfl, ?_⟩, trivial, g2, g3, hk⟩
    have hsize : ((⟨tmps, ds⟩ : Act).eval x).cells.size = P.cellsOf t := by rw [← hl, ← q3]; simp
    simp only [execOp, Sem.run_bind]
    rw [show (⟨tmps, ds⟩ : Act).eval a = .pointer (some ⟨id, i * blk.sz + o, none⟩) from r1]
    simp only [Instr.storeAt, Instr.sureAddr, Sem.run_bind, Sem.run_pure, Result.andThen_ok, storeVar, run_sizeOf_k hkn.1]
    rw [if_neg (by simp [hsize])]
    rw [g1]
    rfl
  case call c =>
    split at hc <;> first | (cases hc; done) | skip
    · rename_i bl hcal
      have hres : execOp (⟨tmps, ds⟩ : Act).eval ⟨dst, .call c, type, pos, after, guard⟩ = builtin bl c.argTypes type (c.args.map fun | .const _ => true | _ => false) (c.args.map (⟨tmps, ds⟩ : Act).eval) := by
        simp only [execOp, resolve, hcal]
        rfl
      unfold cBuiltin at hc
      split at hc <;> first | (cases hc; done) | skip
      · split at hc <;> first | (cases hc; done) | (cases hc; exact calm hk)
      · split at hc <;> first | (cases hc; done) | (cases hc; exact calm hk)
      · rename_i t u s x ht ha
        split at hc <;> first | (cases hc; done) | skip
        rename_i el a b hel hs hx
        split at hc <;> first | (cases hc; done) | skip
        · rename_i du hdu
          obtain ⟨z, hz, rfl⟩ := Option.map_eq_some_iff.1 hc
          have ea : c.args = #[s, x] := by apply Array.ext'; simpa using ha
          have et : c.argTypes = #[t, u] := by apply Array.ext'; simpa using ht
          simp only [effVC] at hk
          obtain ⟨new, hnew, hk⟩ := hk
          have r1 := opd_rep (ds := ds) E hs
          have r2 := opd_rep (ds := ds) E hx
          have hrun : ∀ (A : Option Addr) (n cp : Nat), (⟨tmps, ds⟩ : Act).eval s = .slice A n cp → execOp (⟨tmps, ds⟩ : Act).eval ⟨dst, .call c, type, pos, after, guard⟩ = (do pure (.value (← Builtin.append_ #[t, u] type #[.slice A n cp, (⟨tmps, ds⟩ : Act).eval x]))) := by
            intro A n cp hv
            rw [hres, ea, et]
            simp [builtin, hv]
          have hua : (match P.underlying u with | some (.slice _) => true | _ => false) = true := by rw [hdu]
          -- nothing there yet: nil, or no capacity
          have empty : ∀ (A : Option Addr) (V : AV), (∀ w D, Rep w D V (.slice A 0 0)) → (⟨tmps, ds⟩ : Act).eval s = .slice A 0 0 →
              (if new = [] then K V h else (2 * new.length) * P.bytesOf el ≤ 281474976710656 ∧ ∀ id, id ∉ dom h → K (.sl id (P.cellsOf el) 0 new.length none) ((id, ⟨P.cellsOf el, new⟩) :: h)) → GivesE P ⟨dst, .call c, type, pos, after, guard⟩ ⟨tmps, ds⟩ w h K := by
            intro A V hV hv hkk
            obtain ⟨a1, a2⟩ := append_run (P := P) hel hua hz H hnew r2 (A := A) (n := 0) (c := 0) (old := []) (fo := []) type
            split at hkk
            · rename_i hn
              subst hn
              obtain ⟨fl, F, hap⟩ := a1 (by simp)
              have hfl : fl = [] := by have := F.len; simpa using this
              subst hfl
              refine ⟨_, _, .slice A 0 0, w, .inl ?_, hV _ _, H, .refl _ _, hkk⟩
              rw [hrun _ _ _ hv]
              simp only [Sem.run_bind, hap]
              cases A <;> simp [storeCells]
            · rename_i hn
              obtain ⟨hb, hkk⟩ := hkk
              have hpos : 0 < new.length := List.length_pos_iff.2 hn
              obtain ⟨rest, fl, nc, w1, g1, g2, g3, g4, g5⟩ := a2 (by omega) (by simpa using hb) (fun w1 _ => by
                cases A <;> simp [Builtin.firstCells, loadCells, loadCellsFrom]) ⟨by simp, by simp, by simp⟩
              subst g2
              simp only [List.nil_append, Nat.zero_add] at g3 g4 g1
              obtain ⟨H', Ev⟩ := H.drew.row (g3.mono (Keeps.drew w _)) el (rest := rest)
              refine ⟨_, _, .slice (some ⟨w.heap.size, 0, none⟩) new.length nc, _, .inl ?_, ?_, H', (Evolve.drew w _).trans Ev, hkk _ hfresh⟩
              · rw [hrun _ _ _ hv]
                simp only [Sem.run_bind, g4, Result.andThen_ok, Sem.run_pure]
              · exact sl_new (w1 := { w with drawn := w.drawn + 1 }) g1 (by simpa using g5 (by simp)) _
          split at hk <;> first | (exact hk.elim) | skip
          · rename_i he
            rw [he] at r1
            exact empty none .nilsl (fun _ _ => rfl) r1 hk
          · rename_i he
            rw [he] at r1
            obtain ⟨A, r1⟩ := r1
            exact empty A .emp (fun _ _ => ⟨A, rfl⟩) r1 hk
          · rename_i id sz off len cap he
            rw [he] at r1
            obtain ⟨A, cp, hv, q1, q2, q3⟩ := r1
            obtain ⟨rfl, blk, hb, hsz, hle, hk⟩ := hk
            obtain ⟨cc, tt, hg, hE⟩ := H.all _ (hget_mem hb)
            have hold : elemsOf h (P.cellsOf el) (.sl id (P.cellsOf el) off len cap) = some ((blk.l.drop off).take len) := by
              simp only [elemsOf]
              split
              · rename_i h0; subst h0; simp
              · rw [hb]; simp [hsz, hle]
            have rs : Rep w (dom h) (.sl id (P.cellsOf el) off len cap) (.slice A len cp) := ⟨A, cp, rfl, q1, q2, q3⟩
            obtain ⟨fo, A2, c2, e2, hfo, Fo⟩ := firstCells_run (P := P) H hold rs
            have hlen : ((blk.l.drop off).take len).length = len := by simp; omega
            rw [hlen] at e2 hfo
            obtain ⟨a1, a2⟩ := append_run (P := P) hel hua hz H hnew r2 (A := A) (n := len) (c := cp) (old := (blk.l.drop off).take len) (fo := fo) type
            have inplace : ∀ L : List AV, len + new.length ≤ cp → (∀ (i : Nat) (y : AV), L[i]? = some y → if off + len ≤ i ∧ i < off + len + new.length then new[i - (off + len)]? = some y else blk.l[i]? = some y) →
                ∃ w', (execOp (⟨tmps, ds⟩ : Act).eval ⟨dst, .call c, type, pos, after, guard⟩).run P w = .ok (.value (.slice A (len + new.length) cp)) w' ∧ HRel w' (hset h id ⟨P.cellsOf el, L⟩) ∧ Evolve w (dom h) w' (dom (hset h id ⟨P.cellsOf el, L⟩)) ∧
                  ∀ D cap', (∀ k, cap' = some k → cp = k) → Rep w' D (.sl id (P.cellsOf el) off (len + new.length) cap') (.slice A (len + new.length) cp) := by
              intro L hfit hL
              obtain ⟨fl, F, hap⟩ := a1 hfit
              have hcs : (off + len + new.length) * P.cellsOf el ≤ cc.size ∨ (new = [] ∧ cp = 0) := by
                by_cases h0 : 0 < cp
                · obtain ⟨_, cs, el', fz, k1, k2⟩ := q2 h0
                  simp only at hg
                  rw [hg] at k1
                  cases k1
                  exact .inl (Nat.le_trans (Nat.mul_le_mul_right _ (by omega)) k2)
                · exact .inr ⟨List.eq_nil_of_length_eq_zero (by omega), by omega⟩
              simp only at hg
              rw [← hsz] at F
              have hfin : ∃ w', (match A with | some a => (storeCells (a.add (len * P.cellsOf el)) fl).run P w | none => .ok () w) = .ok () w' ∧ HRel w' (hset h id ⟨blk.sz, L⟩) ∧ Evolve w (dom h) w' (dom (hset h id ⟨blk.sz, L⟩)) := by
                rcases hcs with hcs | ⟨hn, hc0⟩
                · by_cases h0 : 0 < cp
                  · obtain ⟨w', g1, g2, g3⟩ := elems_write (P := P) H hb (p := off + len) F hg (by rw [hsz]; exact hcs) hL
                    refine ⟨w', ?_, g2, g3⟩
                    rw [(q2 h0).1]
                    simp only [Addr.add_lit]
                    rw [← Nat.add_mul, ← hsz]
                    exact g1
                  · have hn : new = [] := List.eq_nil_of_length_eq_zero (by omega)
                    have hfl : fl = [] := by have := F.len; rw [hn] at this; simpa using this
                    subst hfl
                    obtain ⟨w', g1, g2, g3⟩ := elems_write (P := P) H hb (p := 0) (L := L) (new := []) (fl := []) (by rw [hn] at F; exact F) hg (by simp) (fun i y hy => by
                      have := hL i y hy
                      rw [hn] at this
                      rw [if_neg (by simp)]
                      rw [if_neg (by simp)] at this
                      exact this)
                    simp only [storeCells, Sem.run_pure] at g1
                    cases g1
                    refine ⟨_, ?_, g2, g3⟩
                    cases A <;> simp [storeCells]
                · have hfl : fl = [] := by have := F.len; rw [hn] at this; simpa using this
                  subst hfl
                  obtain ⟨w', g1, g2, g3⟩ := elems_write (P := P) H hb (p := 0) (L := L) (new := []) (fl := []) (by rw [hn] at F; exact F) hg (by simp) (fun i y hy => by
                    have := hL i y hy
                    rw [hn] at this
                    rw [if_neg (by simp)]
                    rw [if_neg (by simp)] at this
                    exact this)
                  simp only [storeCells, Sem.run_pure] at g1
                  cases g1
                  refine ⟨_, ?_, g2, g3⟩
                  cases A <;> simp [storeCells]
              obtain ⟨w', g1, g2, g3⟩ := hfin
              rw [hsz] at g2 g3
              refine ⟨w', ?_, g2, g3, fun D cap' hcap => ⟨A, cp, rfl, hfit, fun h0 => ?_, hcap⟩⟩
              · rw [hrun _ _ _ hv]
                simp only [Sem.run_bind, hap]
                cases A <;> (simp only at g1 ⊢; rw [g1]; rfl)
              · obtain ⟨k0, cs, el', fz, k1, k2⟩ := q2 h0
                obtain ⟨cs', k3, k4⟩ := g3.keeps.rows _ _ _ _ k1
                exact ⟨k0, cs', el', fz, k3, by omega⟩
            have grow : ¬ len + new.length ≤ cp → (2 * (len + new.length)) * P.bytesOf el ≤ 281474976710656 → ∃ nc w', len + new.length ≤ nc ∧ (execOp (⟨tmps, ds⟩ : Act).eval ⟨dst, .call c, type, pos, after, guard⟩).run P w = .ok (.value (.slice (some ⟨w.heap.size, 0, none⟩) (len + new.length) nc)) w' ∧
                HRel w' ((w.heap.size, ⟨P.cellsOf el, (blk.l.drop off).take len ++ new⟩) :: h) ∧ Evolve w (dom h) w' (w.heap.size :: dom h) ∧ ∀ D, Rep w' D (.sl w.heap.size (P.cellsOf el) 0 (len + new.length) none) (.slice (some ⟨w.heap.size, 0, none⟩) (len + new.length) nc) := by
              intro hgt hbd
              obtain ⟨rest, fl, nc, w1, g1, g2, g3, g4, g5⟩ := a2 hgt hbd hfo Fo
              subst g2
              obtain ⟨H', Ev⟩ := H.drew.row (g3.mono (Keeps.drew w _)) el (rest := rest)
              refine ⟨nc, _, g1, ?_, H', (Evolve.drew w _).trans Ev, fun D => sl_new (w1 := { w with drawn := w.drawn + 1 }) g1 (by simpa using g5 hlen.symm) D⟩
              rw [hrun _ _ _ hv]
              simp only [Sem.run_bind, g4, Result.andThen_ok, Sem.run_pure]
            split at hk
            · -- the capacity is not known: the old slice is given up
              obtain ⟨hoff, hbd, hk⟩ := hk
              subst hoff
              have nk : w.heap.size ≠ id := fun hh => hfresh (hh ▸ hget_dom hb)
              by_cases hfit : len + new.length ≤ cp
              · obtain ⟨w', g1, g2, g3, g4⟩ := inplace (blk.l.take len ++ new) hfit (fun i y hy => by
                  have hlt : (blk.l.take len).length = len := by simp; omega
                  simp only [Nat.zero_add]
                  by_cases hi : i < len
                  · rw [if_neg (by omega)]
                    rw [List.getElem?_append_left (by omega), List.getElem?_take, if_pos hi] at hy
                    exact hy
                  · rw [List.getElem?_append_right (by omega), hlt] at hy
                    have := (List.getElem?_eq_some_iff.1 hy).1
                    rw [if_pos (by omega)]
                    exact hy)
                obtain ⟨g5, g6⟩ := g2.front H.nd (hget_dom hb)
                exact ⟨_, _, _, w', .inl g1, g4 _ none (fun _ h => by cases h), g5, g3.trans ⟨g6, rfl, rfl, rfl, fun _ => Nat.le_refl _⟩, hk id (notMem_hdel H.nd)⟩
              · obtain ⟨nc, w', g1, g2, g3, g4, g9⟩ := grow hfit hbd
                obtain ⟨g5, g6⟩ := g3.del id
                have hdel : hdel ((w.heap.size, (⟨P.cellsOf el, (blk.l.drop 0).take len ++ new⟩ : Blk)) :: h) id = (w.heap.size, ⟨P.cellsOf el, (blk.l.drop 0).take len ++ new⟩) :: hdel h id := by
                  simp [hdel, nk]
                rw [hdel] at g5 g6
                exact ⟨_, _, _, w', .inl g2, g9 _, by simpa using g5, g4.trans (by simpa [dom_cons] using g6), by simpa using hk w.heap.size (fun hm => hfresh (dom_hdel_sub hm))⟩
            · rename_i cK
              have hcp := q3 cK rfl
              subst hcp
              split at hk
              · rename_i hfit
                obtain ⟨hle2, hk⟩ := hk
                obtain ⟨w', g1, g2, g3, g4⟩ := inplace (splice blk.l (off + len) new) hfit (fun i y hy => by
                  unfold splice at hy
                  have hlt : (blk.l.take (off + len)).length = off + len := by simp; omega
                  rw [List.append_assoc] at hy
                  by_cases hi : i < off + len
                  · rw [if_neg (by omega)]
                    rw [List.getElem?_append_left (by omega), List.getElem?_take, if_pos hi] at hy
                    exact hy
                  · rw [List.getElem?_append_right (by omega), hlt] at hy
                    by_cases hi2 : i < off + len + new.length
                    · rw [if_pos (by omega)]
                      rw [List.getElem?_append_left (by omega)] at hy
                      exact hy
                    · rw [if_neg (by omega)]
                      rw [List.getElem?_append_right (by omega), List.getElem?_drop] at hy
                      rw [show off + len + new.length + (i - (off + len) - new.length) = i by omega] at hy
                      exact hy)
                exact ⟨_, _, _, w', .inl g1, g4 _ (some cp) (fun k h => by cases h; rfl), g2, g3, hk⟩
              · rename_i hgt
                obtain ⟨hbd, hk⟩ := hk
                obtain ⟨nc, w', g1, g2, g3, g4, g9⟩ := grow hgt hbd
                exact ⟨_, _, _, w', .inl g2, g9 _, g3, g4, hk w.heap.size hfresh⟩
        · rename_i hui
          obtain ⟨z, hz, rfl⟩ := Option.map_eq_some_iff.1 hc
          have ea : c.args = #[s, x] := by apply Array.ext'; simpa using ha
          have et : c.argTypes = #[t, u] := by apply Array.ext'; simpa using ht
          simp only [effVC] at hk
          have r1 := opd_rep (ds := ds) E hs
          have r2 := opd_rep (ds := ds) E hx
          split at hk <;> first | (exact hk.elim) | skip
          rename_i n e1 e2
          rw [e1] at r1; rw [e2] at r2
          obtain ⟨h0, hbd, hk⟩ := hk
          obtain ⟨rest, fl, nc, w1, g1, g2, g3, g4, g5⟩ := appendz_run (P := P) (w := w) (D := dom h) hel hui hz h0 hbd type
          subst g2
          obtain ⟨H', Ev⟩ := H.drew.row (g3.mono (Keeps.drew w _)) el (rest := rest)
          refine ⟨_, _, .slice (some ⟨w.heap.size, 0, none⟩) n.toNat nc, _, .inl ?_, ?_, H', (Evolve.drew w _).trans Ev, hk _ hfresh⟩
          · rw [hres, ea, et]
            have q1 : (⟨tmps, ds⟩ : Act).eval s = .slice none 0 0 := r1
            have q2 : (⟨tmps, ds⟩ : Act).eval x = .int .i64 n := r2
            simp only [builtin, List.map_toArray, List.map_cons, List.map_nil, q1, q2]
            simp only [Sem.run_bind, g4, Result.andThen_ok, Sem.run_pure]
          · exact sl_new (w1 := { w with drawn := w.drawn + 1 }) g1 g5 _
      · rename_i t x ht ha
        split at hc <;> first | (cases hc; done) | skip
        rename_i el a hel hx
        obtain ⟨z, hz, rfl⟩ := Option.map_eq_some_iff.1 hc
        have ea : c.args = #[x] := by apply Array.ext'; simpa using ha
        have et : c.argTypes = #[t] := by apply Array.ext'; simpa using ht
        obtain ⟨hut, hkn, hne, hby⟩ := elemT_spec hel
        simp only [effVC] at hk
        have r1 := opd_rep (ds := ds) E hx
        have hrun : ∀ (A : Option Addr) (n cp : Nat), (⟨tmps, ds⟩ : Act).eval x = .slice A n cp → execOp (⟨tmps, ds⟩ : Act).eval ⟨dst, .call c, type, pos, after, guard⟩ = (do pure (.value (← Builtin.clear_ #[t] type #[.slice A n cp]))) := by
          intro A n cp hv
          rw [hres, ea, et]
          simp [builtin, hv]
        have none0 : ∀ A cp, (⟨tmps, ds⟩ : Act).eval x = .slice A 0 cp → (execOp (⟨tmps, ds⟩ : Act).eval ⟨dst, .call c, type, pos, after, guard⟩).run P w = .ok (.value (.tuple #[])) w := by
          intro A cp hv
          rw [hrun _ _ _ hv]
          cases A <;> simp [Builtin.clear_, run_underlying hut]
        split at hk <;> first | (exact hk.elim) | skip
        · rename_i he; rw [he] at r1
          exact ⟨.undef, h, _, w, .inl (none0 _ _ r1), trivial, H, .refl _ _, hk⟩
        · rename_i he; rw [he] at r1; obtain ⟨A, r1⟩ := r1
          exact ⟨.undef, h, _, w, .inl (none0 _ _ r1), trivial, H, .refl _ _, hk⟩
        · rename_i id sz off len cap he
          rw [he] at r1
          obtain ⟨A, cp, hv, q1, q2, q3⟩ := r1
          obtain ⟨rfl, blk, hb, hsz, hle, hk⟩ := hk
          obtain ⟨cc, tt, hg, hE⟩ := H.all _ (hget_mem hb)
          simp only at hg
          obtain ⟨zv, hzr, hzrep, hzl, hzs⟩ := run_zeroValue_k hz w
          have F : FlatRep w (dom h) blk.sz (List.replicate len z) (Builtin.zeroCells zv.cells len).toList := FlatRep.zeros (hzrep _ _) hzs (by rw [hsz]; exact hzl) _
          have hL : ∀ (i : Nat) (y : AV), (splice blk.l off (List.replicate len z))[i]? = some y → if off ≤ i ∧ i < off + (List.replicate len z).length then (List.replicate len z)[i - off]? = some y else blk.l[i]? = some y := by
            intro i y hy
            unfold splice at hy
            have hlt : (blk.l.take off).length = off := by simp; omega
            rw [List.append_assoc] at hy
            by_cases hi : i < off
            · rw [if_neg (by omega)]
              rw [List.getElem?_append_left (by omega), List.getElem?_take, if_pos hi] at hy
              exact hy
            · rw [List.getElem?_append_right (by omega), hlt] at hy
              by_cases hi2 : i < off + (List.replicate len z).length
              · rw [if_pos (by omega)]
                rw [List.getElem?_append_left (by omega)] at hy
                exact hy
              · rw [if_neg (by omega)]
                rw [List.getElem?_append_right (by omega), List.getElem?_drop] at hy
                rw [show off + (List.replicate len z).length + (i - off - (List.replicate len z).length) = i by omega] at hy
                exact hy
          by_cases h0 : len = 0
          · subst h0
            obtain ⟨w', g1, g2, g3⟩ := elems_write (P := P) H hb (p := 0) (L := splice blk.l off (List.replicate 0 z)) (new := []) (fl := []) ⟨by simp, by simp, by simp⟩ hg (by simp) (fun i y hy => by
              have := hL i y hy
              rw [if_neg (by simp)]
              rw [if_neg (by simp)] at this
              exact this)
            simp only [storeCells, Sem.run_pure] at g1
            cases g1
            rw [hsz] at g2 g3
            exact ⟨.undef, _, _, w, .inl (none0 _ _ hv), trivial, g2, g3, hk⟩
          · obtain ⟨hA, cs, el', fz, k1, k2⟩ := q2 (by omega)
            rw [hg] at k1
            cases k1
            have hfit : (off + (List.replicate len z).length) * blk.sz ≤ cc.size := by
              rw [hsz, List.length_replicate]
              exact Nat.le_trans (Nat.mul_le_mul_right _ (by omega)) k2
            obtain ⟨w', g1, g2, g3⟩ := elems_write (P := P) H hb (p := off) F hg hfit hL
            rw [hsz] at g2 g3 g1
            refine ⟨.undef, _, .tuple #[], w', .inl ?_, trivial, g2, g3, hk⟩
            subst hA
            rw [hrun _ _ _ hv]
            simp only [Builtin.clear_]
            obtain ⟨len', rfl⟩ : ∃ k, len = k + 1 := ⟨len - 1, by omega⟩
            simp [run_underlying hut, hzr, g1]
      all_goals
        obtain ⟨ys, hys, rfl⟩ := Option.map_eq_some_iff.1 hc
        exact calm hk
    · cases hc; exact calm hk
    · obtain ⟨y, hy, rfl⟩ := Option.map_eq_some_iff.1 hc; exact calm hk
end
end Go.AG
