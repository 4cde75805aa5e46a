/- Our own small layer, second form: the conditions are right. No statement about the program is made here. -/
import Derived.Test.YtebkdegjiollbaaAGEx
namespace Go.AG
open Go.RowKit
attribute [local semireducible] Run2 Go2
section
variable {C : Cx} {e : Env} {h : Heap} {w0 : World} {D0 : List Nat} {tmps : Array Value} {w : World} {R : AV → Heap → Prop} {cs : List Frame}

theorem draw_vals2 (hp : Pure C.P C.orc) : ∀ (is : List AI) (S : Option (List Nat)) (e e0 : Env) (k : Env → Prop) (p : Nat), kOk is S = true → Weak e e0 → Agr S e e0 → draw2 C h k is e → ∃ vals : List AV, vals.length = (is.map AI.er).length ∧
    (∀ (j : Nat) (i : SI) (v : AV), (is.map AI.er)[j]? = some i → vals[j]? = some v → InstrEval C i (envSel (fun m => decide (m < p + j)) p e0 (is.map AI.er) vals) h v) ∧ ∃ e1, Weak e1 (envSel (fun _ => true) p e0 (is.map AI.er) vals) ∧ k e1
  | [], S, e, e0, k, p, _, hw, _, hk => ⟨[], rfl, by simp, e, hw, hk⟩
  | i :: is, S, e, e0, k, p, hok, hw, ha, hk => by
    obtain ⟨huse, hnext⟩ := kOk_step hok
    have key : ∀ v e2, Weak e2 e0 → Agr S e2 e0 → InstrEval C i.er e2 h v → draw2 C h k is (kp (put e2 i.d v) i.ks) → ∃ vals : List AV, vals.length = ((i :: is).map AI.er).length ∧
        (∀ (j : Nat) (i' : SI) (v : AV), ((i :: is).map AI.er)[j]? = some i' → vals[j]? = some v → InstrEval C i' (envSel (fun m => decide (m < p + j)) p e0 ((i :: is).map AI.er) vals) h v) ∧ ∃ e1, Weak e1 (envSel (fun _ => true) p e0 ((i :: is).map AI.er) vals) ∧ k e1 := by
      intro v e2 hw2 ha2 h1 h2
      obtain ⟨S', q1, q2, q3⟩ := hnext v hw2 ha2
      obtain ⟨vals, g1, g2, e1, g3, g4⟩ := draw_vals2 hp is S' _ _ k (p + 1) q1 q2 q3 h2
      refine ⟨v :: vals, by simp [g1], fun j i' v' hi hv => ?_, e1, by simpa [envSel, AI.er] using g3, g4⟩
      cases j with
      | zero =>
        simp at hi hv
        subst hi; subst hv
        rw [List.map_cons, envSel_false _ _ _ _ fun m hm => by simp; omega]
        exact h1.congr fun t ht => ha2 t fun l hl => huse t ht l hl
      | succ j =>
        have := g2 j i' v' (by simpa using hi) (by simpa using hv)
        have hp : decide (p < p + (j + 1)) = true := by simp
        simp only [List.map_cons, envSel, hp, if_true]
        have e1 : (fun m => decide (m < p + 1 + j)) = fun m => decide (m < p + (j + 1)) := by funext m; congr 1; rw [eq_iff_iff]; omega
        rw [e1] at this
        exact this
    have instr : ∀ e, (known C (opR h e i.w i.op)).dend C.P h (fun v => draw2 C h k is (kp (put e i.d v) i.ks)) → ∃ v, OpEval C i.er.op e h v ∧ draw2 C h k is (kp (put e i.d v) i.ks) := by
      intro e hh
      have hh := known_dend hp hh
      unfold OpEval
      show ∃ v, (match i.op with
        | .call g args => ACalls C.P g (args.map (ev e)) h (fun v' h' => v' = v ∧ h' = h)
        | .callv f args => ∃ g caps, ev e f = .fn g caps ∧ ACalls C.P g (args.map (ev e) ++ caps) h (fun v' h' => v' = v ∧ h' = h)
        | op => opVC h e op (· = v)) ∧ _
      split
      · rename_i g args hop
        rw [hop] at hh
        exact hh
      · rename_i f args hop
        rw [hop] at hh
        simp only [opR] at hh
        revert hh; generalize ev e f = u; intro hh
        cases u <;> first | (exact hh.elim) | skip
        rename_i g caps
        obtain ⟨v, h1, h2⟩ := hh
        exact ⟨v, ⟨g, caps, rfl, h1⟩, h2⟩
      · rename_i hn1 hn2
        have hc : isCall i.op = false := by
          cases ho : i.op <;> first | rfl | (exact absurd ho (hn1 _ _)) | (exact absurd ho (hn2 _ _))
        obtain ⟨v, h1, h2⟩ := opVC_det (opR_snd hc hh)
        exact ⟨v, h1, h2⟩
    simp only [draw2] at hk
    split at hk
    · rename_i hg
      obtain ⟨v, h1, h2⟩ := instr e hk
      exact key v e hw ha (by unfold InstrEval AI.er; rw [hg]; exact h1) h2
    · rename_i s b hg
      have hs : eget e s = eget e0 s := ha s fun l hl => huse s (by unfold SI.uses AI.er; rw [hg]; simp) l hl
      split at hk <;> first | (exact hk.elim) | skip
      · rename_i t ht
        by_cases htb : t = b
        · obtain ⟨v, h1, h2⟩ := instr _ (hk.1 htb)
          have hs' : eget e0 s = .bool b := by rw [← hs, ht, htb]
          refine key v ((s, .bool b) :: e) (hw.know hs') (ha.know hs') ?_ h2
          unfold InstrEval AI.er; rw [hg]
          exact .inl ⟨by simp [eget], h1⟩
        · have htb' : t = !b := by cases t <;> cases b <;> simp_all
          have hs' : eget e0 s = .bool !b := by rw [← hs, ht, htb']
          refine key _ ((s, .bool !b) :: e) (hw.know hs') (ha.know hs') ?_ (hk.2 htb')
          unfold InstrEval AI.er; rw [hg]
          exact .inr ⟨.inl (by simp [eget]), rfl⟩
      · rename_i ht
        exact key _ e hw ha (by unfold InstrEval AI.er; rw [hg]; exact .inr ⟨.inr ht, rfl⟩) hk
theorem draw_sound2 (hp : Pure C.P C.orc) {ops : Array Oper} {is : List SI} {id : Nat} {k : List Item} (hc : cInstrs C.P C.M C.nt ops ops.toList = some is) (hok : drawOk C.P ops is = true)
    {K : Env → Prop} {as : List AI} (hao : kOk as none = true) (has : as.map AI.er = is.take (pivot is)) (hk : draw2 C h K as e) (S : SRel C e h w0 D0 tmps w)
    (hrest : ∀ e' tmps' w', K e' → SRel C e' h w0 D0 tmps' w' → Fin C w0 D0 R cs (lone ((bF C.fn).at ⟨tmps', []⟩ (.inRegion ops (List.range' (is.take (pivot is)).length (ops.size - (is.take (pivot is)).length)) :: k)) cs w')) :
    Fin C w0 D0 R cs (lone ((bF C.fn).at ⟨tmps, []⟩ (.code (.region id ops true) :: k)) cs w) := by
  obtain ⟨vals, g1, g2, e1, g3, g4⟩ := draw_vals2 hp as none e e K 0 hao (fun _ => .inl rfl) (fun _ _ => rfl) hk
  rw [has] at g1 g2 g3
  unfold drawOk at hok
  simp only [Bool.and_eq_true] at hok
  obtain ⟨⟨⟨ho1, ho2⟩, ho3⟩, hm⟩ := hok
  have D := drawOk_of hc ⟨ho1, ho2⟩ g1 g2
  have htl : ∀ j i, (is.take (pivot is)).length ≤ j → j < ops.size → i < j → ((Region.before ops).getD j 0).testBit i = true := by
    have hp := pivot_le is
    rw [List.length_take, Nat.min_eq_left hp]
    exact tail_of ho3
  refine Fin.head step_region_draw ?_
  have hs : ∀ t, Region.schedule (C.P.follows .mixedOrders) ops t = Region.linearise.go .any ops ops.size t (Array.replicate ops.size false) [] := fun t => by
    simp only [Region.schedule, hm, Bool.true_or, if_true]
    rfl
  rw [hs]
  have f0 : ∀ m, (Array.replicate ops.size false).getD m false = false := fun m => by
    simp only [Array.getD_eq_getD_getElem?, Array.getElem?_replicate]
    split <;> rfl
  have e0 : envSel (fun m => (Array.replicate ops.size false).getD m false) 0 e (is.take (pivot is)) vals = e := envSel_false _ _ _ _ fun m _ => f0 m
  have S1 : SRel C e h w0 D0 tmps { w with drawn := w.drawn + 1 } := ⟨S.env.mono (Keeps.drew w _), S.size, S.heap.drew, S.ev.trans (Evolve.drew w _)⟩
  refine draw_go D htl (fun tmps' w' S' => hrest _ _ _ g4 (S'.weak g3)) ops.size _ _ tmps _ (by simp) ?_ ?_ (fun m _ => f0 m) (by rw [e0]; exact S1)
  · have : ∀ n, cnt (List.replicate n false) = 0 := fun n => by induction n with
      | zero => rfl
      | succ n ih => simp only [List.replicate_succ, cnt]; exact ih
    simp [this]
  · intro a b ha
    rw [f0 a] at ha; cases ha

/-! ## One operation after the other -/
theorem instr_sound2 (hp : Pure C.P C.orc) {n : Nat} {i : AI} {is : List AJ} {sk : List AItem} (ih : ∀ e h, vc2 C n is sk e h R → Go2 C is sk e h R) (hk : (known C (effR h e i.w i.op)).den C.P h fun v h' => vc2 C n is sk (kp (put e i.d v) i.ks) h' R)
    {ops : Array Oper} {j : Nat} {r : List Nat} {o : Oper} {k : List Item}
    (ho : ops[j]? = some o) (hc : cInstr C.P C.M C.nt ops o = some i.er) (ha : AllOps C ops (is.flatMap AJ.er) r) (hki : cItems C.P C.M C.nt k = some (sk.map AItem.er)) (S : SRel C e h w0 D0 tmps w) (hw : Region.wanted o (yielded ops tmps) = true) :
    Fin C w0 D0 R cs (lone ((bF C.fn).at ⟨tmps, []⟩ (.inRegion ops (j :: r) :: k)) cs w) := by
  have hk := known_den hp hk
  have rest : ∀ v h' tmps' w', vc2 C n is sk (kp (put e i.d v) i.ks) h' R → SRel C (put e i.er.dst v) h' w0 D0 tmps' w' → Fin C w0 D0 R cs (lone ((bF C.fn).at ⟨tmps', []⟩ (.inRegion ops r :: k)) cs w') :=
    fun v h' tmps' w' g S' => Go.cont (ih _ _ g) ha hki (S'.weak (kp_weak _ _))
  by_cases hcall : isCall i.op = true
  · cases hop : i.op <;> rw [hop] at hcall <;> simp only [isCall, reduceCtorEq] at hcall
    · rename_i g args
      rw [hop] at hk
      simp only [effR] at hk
      cases hw' : i.w <;> rw [hw'] at hk <;> exact call_step S ho hc hw (.inl ⟨args, hop, rfl⟩) hk rest
    · rename_i f args
      rw [hop] at hk
      simp only [effR] at hk
      cases hev : ev e f <;> rw [hev] at hk <;> first | (exact hk.elim) | skip
      rename_i g caps
      cases hw' : i.w <;> rw [hw'] at hk <;> exact call_step S ho hc hw (.inr ⟨f, args, caps, hop, hev, rfl⟩) hk rest
  · exact op_step S ho hc hw (effR_snd (op := i.op) (by simpa using hcall) hk) rest
theorem ops_sound2 (hp : Pure C.P C.orc) {n : Nat} {i : AI} {is : List AJ} {sk : List AItem} (ih : ∀ e h, vc2 C n is sk e h R → Go2 C is sk e h R) (hk : vc2 C (n + 1) (.o i :: is) sk e h R) : Go2 C (.o i :: is) sk e h R := by
  intro ops l k tmps w cs w0 D0 ha hki S
  obtain ⟨j, r, o, rfl, ho, hc, ha⟩ := ha
  obtain ⟨hd, hdst, hop, hg⟩ := cInstr_spec hc
  have skip : ∀ {e}, vc2 C n is sk (kp (put e i.d (.tup [])) i.ks) h R → Region.wanted o (yielded ops tmps) = false → SRel C e h w0 D0 tmps w → Fin C w0 D0 R cs (lone ((bF C.fn).at ⟨tmps, []⟩ (.inRegion ops (j :: r) :: k)) cs w) :=
    fun g hw S => op_skip S ho hc hw fun tmps' S' => Go.cont (ih _ _ g) ha hki (S'.weak (kp_weak _ _))
  rcases hg with ⟨hg, hgi⟩ | ⟨j', b, s, hg, hs, hlt, hgi⟩
  · have hgi : i.g = none := hgi
    simp only [vc2, hgi] at hk
    exact instr_sound2 hp ih hk ho hc ha hki S (by simp [Region.wanted, hg])
  · have hgi : i.g = some (s, b) := hgi
    simp only [vc2, hgi] at hk
    have hlt' : s < tmps.size := by rw [S.size]; exact hlt
    have hE := S.env s
    split at hk <;> first | (exact hk.elim) | skip
    · rename_i t ht
      rw [ht] at hE
      have hw := wanted_spec (tmps := tmps) hg hs hlt' (show tmps.getD s undef = .bool t from hE)
      simp only [boolIs] at hw
      by_cases htb : t = b
      · subst htb
        exact instr_sound2 hp ih (hk.1 rfl) ho hc ha hki (S.know hE) (by rw [hw]; simp)
      · have htb' : t = !b := by cases t <;> cases b <;> simp_all
        exact skip (hk.2 htb') (by rw [hw, htb']; cases b <;> rfl) (S.know (v := .bool !b) (by rw [← htb']; exact hE))
    · rename_i ht
      rw [ht] at hE
      obtain ⟨vs, hv, hvs⟩ := hE
      have hw := wanted_spec (tmps := tmps) hg hs hlt' hv
      exact skip hk (by rw [hw]; rfl) S
theorem wanted_none {ops : Array Oper} {o : Oper} {i : SI} {tm : Array Value} (hc : cInstr C.P C.M C.nt ops o = some i) (hg : i.guard = none) : Region.wanted o (yielded ops tm) = true := by
  obtain ⟨_, _, _, h1 | ⟨j, b, s, _, _, _, h2⟩⟩ := cInstr_spec hc
  · simp [Region.wanted, h1.1]
  · rw [h2] at hg; cases hg
theorem mvs_step {ops : Array Oper} {rest : List SI} {k : List Item} : ∀ (ms : List (Nat × Opd)) {e : Env} {tmps : Array Value} {w : World} {l : List Nat}, SRel C e h w0 D0 tmps w → AllOps C ops (ms.map mvSI ++ rest) l →
    (∀ l' tm' w', AllOps C ops rest l' → SRel C (mvs e ms) h w0 D0 tm' w' → Fin C w0 D0 R cs (lone ((bF C.fn).at ⟨tm', []⟩ (.inRegion ops l' :: k)) cs w')) →
    Fin C w0 D0 R cs (lone ((bF C.fn).at ⟨tmps, []⟩ (.inRegion ops l :: k)) cs w)
  | [], _, _, _, _, S, ha, hk => hk _ _ _ ha S
  | m :: ms, e, tmps, w, l, S, ha, hk => by
    obtain ⟨j, r, o, rfl, ho, hc, ha⟩ := ha
    refine op_step S ho hc (wanted_none hc rfl) (K := fun v h' => v = ev e m.2 ∧ h' = h) ?_ fun v h' tm' w' q S' => ?_
    · show effVC h e (.mv m.2) _
      exact ⟨rfl, rfl⟩
    rw [q.1, q.2] at S'
    exact mvs_step ms S' ha hk
theorem var_sound2 {n : Nat} {d sz : Nat} {z : AV} {ms : List (Nat × Opd)} {x : Opd} {ks : Option (List Nat)} {is : List AJ} {sk : List AItem} (ih : ∀ e h, vc2 C n is sk e h R → Go2 C is sk e h R) (hk : vc2 C (n + 1) (.v d sz z ms x ks :: is) sk e h R) : Go2 C (.v d sz z ms x ks :: is) sk e h R := by
  intro ops l k tmps w cs w0 D0 ha hki S
  have ha : AllOps C ops (⟨some d, none, .alloc true sz z⟩ :: (ms.map mvSI ++ (⟨none, none, .store sz (.t d) x⟩ :: is.flatMap AJ.er))) l := by
    have ha : AllOps C ops (AJ.er (.v d sz z ms x ks) ++ is.flatMap AJ.er) l := ha
    simpa only [AJ.er, List.cons_append, List.append_assoc, List.nil_append] using ha
  obtain ⟨j, r, o, rfl, ho, hc, ha⟩ := ha
  obtain ⟨p1, p2, p3, p4, p5, g⟩ := hk
  unfold varOk at p3
  rw [Bool.and_eq_true] at p3
  obtain ⟨hms, hz⟩ := p3
  have hz : x.uses.contains d = false := by simpa using hz
  refine op_step S ho hc (wanted_none hc rfl) (K := fun v h' => ∃ id, id ∉ dom h ∧ v = .ptr id sz 0 0 ∧ h' = (id, ⟨sz, [z]⟩) :: h) ?_ fun v1 h1 tm1 w1 q1 S1 => ?_
  · show effVC h e (.alloc true sz z) _
    simp only [effVC, if_true]
    exact ⟨p1, p2, fun id hid => ⟨id, hid, rfl, rfl⟩⟩
  obtain ⟨id, hid, rfl, rfl⟩ := q1
  refine mvs_step ms S1 ha fun l' tm' w' ha S1 => ?_
  obtain ⟨j', r', o', rfl, ho', hc', ha⟩ := ha
  obtain ⟨hd, hoth⟩ := mvs_get (d := d) (v := .ptr id sz 0 0) ms e (put e (some d) (.ptr id sz 0 0)) hms (by simp [put]) fun t ht => by simp only [put, eget]; rw [if_neg fun h => ht h.symm]
  have hx : ev (mvs (put e (some d) (.ptr id sz 0 0)) ms) x = ev (mvs e ms) x := ev_congr fun t ht => hoth t (by
    rintro rfl
    rw [List.contains_iff_mem.2 ht] at hz
    cases hz)
  refine op_step S1 ho' hc' (wanted_none hc' rfl) (K := fun v h' => h' = (id, ⟨sz, [ev (mvs e ms) x]⟩) :: h) ?_ fun v2 h2 tm2 w2 q2 S2 => ?_
  · show effVC _ _ (.store sz (.t d) x) _
    simp only [effVC]
    rw [hx, show ev (mvs (put e (some d) (.ptr id sz 0 0)) ms) (.t d) = .ptr id sz 0 0 from hd]
    exact ⟨p4, p5, ⟨sz, [z]⟩, by simp [hget], rfl, by simp, by omega, by simp [hset]⟩
  subst q2
  obtain ⟨H', Ev⟩ := S2.heap.del id
  have hdel : hdel ((id, ⟨sz, [ev (mvs e ms) x]⟩) :: h) id = h := by simp [Go.AG.hdel]
  rw [hdel] at H' Ev
  have hh := S2.heap.held (b := ⟨sz, [ev (mvs e ms) x]⟩) (D := dom h) (by simp [hget]) (fun t ht => by simp [dom] at ht ⊢; exact .inr ht) hid
  refine Go.cont (ih _ _ g) ha hki (SRel.weak ⟨fun t => ?_, S2.size, H', S2.ev.trans Ev⟩ (kp_weak _ _))
  have E := Rep.mono Ev.keeps _ _ (S2.env t)
  show Rep w2 (dom h) (eget (put (mvs e ms) (some d) (.ip (cellsOf (ev (mvs e ms) x)))) t) _
  have E : Rep w2 (dom h) (eget (mvs (put e (some d) (.ptr id sz 0 0)) ms) t) (tm2.getD t undef) := E
  simp only [put, eget]
  by_cases hdt : d = t
  · rw [if_pos hdt]
    subst hdt
    rw [hd] at E
    have := Rep.fz hh _ _ E
    simpa [fz] using this
  · rw [if_neg hdt]
    rw [hoth t fun h => hdt h.symm] at E
    exact E
theorem emp_sound2 {n : Nat} {d sz : Nat} {ks : Option (List Nat)} {is : List AJ} {sk : List AItem} (ih : ∀ e h, vc2 C n is sk e h R → Go2 C is sk e h R) (hk : vc2 C (n + 1) (.e d sz ks :: is) sk e h R) : Go2 C (.e d sz ks :: is) sk e h R := by
  intro ops l k tmps w cs w0 D0 ha hki S
  have ha : AllOps C ops (⟨some d, none, .bsl true sz []⟩ :: is.flatMap AJ.er) l := ha
  obtain ⟨j, r, o, rfl, ho, hc, ha⟩ := ha
  refine op_step S ho hc (wanted_none hc rfl) (K := fun v h' => ∃ id, id ∉ dom h ∧ v = .sl id sz 0 0 (some 0) ∧ h' = (id, ⟨sz, []⟩) :: h) ?_ fun v1 h1 tm1 w1 q1 S1 => ?_
  · show effVC h e (.bsl true sz []) _
    simp only [effVC, if_true]
    exact ⟨by simp, fun id hid => ⟨id, hid, rfl, rfl⟩⟩
  obtain ⟨id, hid, rfl, rfl⟩ := q1
  obtain ⟨H', Ev⟩ := S1.heap.del id
  have hdel : hdel ((id, ⟨sz, []⟩) :: h) id = h := by simp [Go.AG.hdel]
  rw [hdel] at H' Ev
  refine Go.cont (ih _ _ hk) ha hki (SRel.weak ⟨fun t => ?_, S1.size, H', S1.ev.trans Ev⟩ (kp_weak _ _))
  have E := Rep.mono Ev.keeps _ _ (S1.env t)
  simp only [put, eget] at E ⊢
  by_cases hdt : d = t
  · rw [if_pos hdt] at E ⊢
    obtain ⟨A, c, e1, _, _, e2⟩ := E
    exact ⟨A, by rw [e1, e2 0 rfl]⟩
  · rw [if_neg hdt] at E ⊢
    exact E
theorem exit2_er (id : Nat) : ∀ (sk : List AItem), sExit id (sk.map AItem.er) = (exit2 id sk).map (·.map AItem.er)
  | [] => rfl
  | .inBlock j :: sk => by
    simp only [List.map_cons, AItem.er, sExit, exit2]
    split
    · rfl
    · exact exit2_er id sk
  | .code _ :: sk => exit2_er id sk
  | .inLoop _ :: sk => exit2_er id sk
set_option maxHeartbeats 4000000 in
theorem code_sound2 {F : Func} (I : Is C F) {n : Nat} (ih : ∀ is sk e h, vc2 C n is sk e h R → Go2 C is sk e h R) (ihm : ∀ m, m ≤ n → ∀ sk e h, vc2 C m [] sk e h R → Run2 C sk e h R) {c : ACode} {sk : List AItem} (hk : vc2 C (n + 1) [] (.code c :: sk) e h R) : Run2 C (.code c :: sk) e h R := by
  intro k tmps w cs w0 D0 hki S
  obtain ⟨i, r, rfl, hi, hr⟩ := cItems_cons hki
  obtain ⟨c0, rfl, hc0⟩ := cItem_code hi
  cases c with
  | skip =>
    cases c0 <;> simp only [cCode, ACode.er, reduceCtorEq] at hc0
    case skip => exact Fin.head step_skip (ih [] sk e h hk r tmps w cs w0 D0 hr S)
    all_goals (repeat' (first | (cases hc0; done) | split at hc0))
  | region as =>
    cases c0 <;> simp only [cCode, ACode.er, reduceCtorEq] at hc0
    case region id ops dr =>
      split at hc0
      · rename_i is his
        split at hc0
        · repeat' (first | (cases hc0; done) | split at hc0)
        · rename_i hdr
          injection hc0 with hc0
          have hdr' : dr = false := by simpa using hdr
          subst hdr'
          refine Fin.head step_region ?_
          have hall := cInstrs_all (C := C) ops ops.toList is 0 his rfl
          have : List.range ops.size = List.range' 0 ops.toList.length := by rw [List.range_eq_range']; simp
          rw [this]
          rw [hc0] at hall
          exact Go.cont (ih as sk e h hk) hall hr S
      · cases hc0
    all_goals (repeat' (first | (cases hc0; done) | split at hc0))
  | draw as js hao =>
    cases c0 <;> simp only [cCode, ACode.er, reduceCtorEq] at hc0
    case region id ops dr =>
      split at hc0
      · rename_i is his
        split at hc0
        · rename_i hdr
          split at hc0
          · rename_i hcd
            injection hc0 with hc1 hc2
            rw [Bool.and_eq_true, Bool.and_eq_true] at hcd
            replace hcd := hcd.1.1
            subst hdr
            refine draw_sound2 I.pure his hcd hao hc1.symm hk S fun e' tmps' w' g S' => ?_
            have hl := (cInstrs_get ops _ _ his).1
            have hall := cInstrs_all (C := C) ops (ops.toList.drop (is.take (pivot is)).length) (is.drop (pivot is)) (is.take (pivot is)).length (cInstrs_drop ops _ _ his) rfl
            have e1 : ops.size - (is.take (pivot is)).length = (ops.toList.drop (is.take (pivot is)).length).length := by simp
            rw [e1]
            rw [hc2] at hall
            exact Go.cont (ih js sk e' h g) hall hr S'
          · repeat' (first | (cases hc0; done) | split at hc0)
        · cases hc0
      · cases hc0
    all_goals (repeat' (first | (cases hc0; done) | split at hc0))
  | drawT st js hok =>
    cases c0 <;> simp only [cCode, ACode.er, reduceCtorEq] at hc0
    case region id ops dr =>
      split at hc0
      · rename_i is his
        split at hc0
        · rename_i hdr
          subst hdr
          have key : ∀ st', SCode.drawT st' is = .drawT st (js.flatMap AJ.er) → anyOk C.P ops st' is = true → Fin C w0 D0 R cs (lone ((bF C.fn).at ⟨tmps, []⟩ (.code (.region id ops true) :: r)) cs w) := by
            intro st' hc1 hany
            injection hc1 with hc1 hc2
            subst hc1
            unfold tOk at hok
            simp only [Bool.and_eq_true, decide_eq_true_eq] at hok
            obtain ⟨⟨⟨k1, k2⟩, k3⟩, k4⟩ := hok
            obtain ⟨q1, q2⟩ := hk
            have ihm' : ∀ m, m ≤ n → ∀ e h, vc2 C m [] sk e h R → Run C (sk.map AItem.er) e h R := fun m hm e h g => ihm m hm sk e h g
            have hT := tvJ n js none e e h (by omega) k1 k2 (fun _ => .inl rfl) (fun _ _ => rfl) ihm' q2
            refine any_sound I.pure his hany KExt.run KHP.run (by rw [ais_er]; exact hc2.symm) (fun a ha => ?_) hT S fun e' h' tmps' w' g S' => Fin.head step_region_end (g r tmps' w' cs w0 D0 hr S')
            rw [List.all_eq_true] at k4
            have := k4 a ha
            simp only [Bool.and_eq_true, Bool.or_eq_true, decide_eq_true_eq, Bool.not_eq_true'] at this
            refine ⟨fun hst hcl => ?_, fun hst hcl => ?_⟩
            · rcases this.1 with (h | h) | h
              · rw [hst] at h; cases h
              · rw [hcl] at h; cases h
              · exact h
            · rcases this.2 with (h | h) | h
              · omega
              · rw [hcl] at h; cases h
              · exact h
          repeat' (first | (cases hc0; done) | (exact key _ hc0 (by assumption)) | (rename_i h3; rw [Bool.and_eq_true] at h3; exact key _ hc0 h3.2) | split at hc0)
        · cases hc0
      · cases hc0
    all_goals (repeat' (first | (cases hc0; done) | split at hc0))
  | drawE as jss ords hok hlk =>
    cases c0 <;> simp only [cCode, ACode.er, reduceCtorEq] at hc0
    case region id ops dr =>
      split at hc0
      · rename_i is his
        split at hc0
        · rename_i hdr
          subst hdr
          have key : SCode.drawE is (explOf ops is) = .drawE (as.map AI.er) ords → expOk C.P ops is = true → Fin C w0 D0 R cs (lone ((bF C.fn).at ⟨tmps, []⟩ (.code (.region id ops true) :: r)) cs w) := by
            intro hc1 hexp
            injection hc1 with hc1 hc2
            obtain ⟨q1, q2⟩ := hk
            have ihm' : ∀ m, m ≤ n → ∀ e h, vc2 C m [] sk e h R → Run C (sk.map AItem.er) e h R := fun m hm e h g => ihm m hm sk e h g
            refine exp_sound I.pure his hexp KExt.run KHP.run hc1.symm (fun o ho => ?_) S fun e' h' tmps' w' g S' => Fin.head step_region_end (g r tmps' w' cs w0 D0 hr S')
            rw [hc2] at ho
            have hm := List.mem_map_of_mem (f := fun o => o.map (aAt as)) ho
            rw [← hlk] at hm
            obtain ⟨js, hjs, hje⟩ := List.mem_map.1 hm
            have hje : (js.flatMap AJ.ais).map AI.nk = o.map (aAt as) := hje
            rw [← hje]
            have hokj := List.all_eq_true.1 hok js hjs
            unfold tOk at hokj
            simp only [Bool.and_eq_true, decide_eq_true_eq] at hokj
            obtain ⟨⟨⟨k1, k2⟩, k3⟩, k4⟩ := hokj
            exact TV_nk (tvJ n js none e e h (by omega) k1 k2 (fun _ => .inl rfl) (fun _ _ => rfl) ihm' (allK_mem q2 js hjs))
          repeat' (first | (cases hc0; done) | (exact key hc0 (by assumption)) | (rename_i h3; rw [Bool.and_eq_true] at h3; exact key hc0 h3.2) | split at hc0)
        · cases hc0
      · cases hc0
    all_goals (repeat' (first | (cases hc0; done) | split at hc0))
  | seq a b =>
    cases c0 <;> simp only [cCode, ACode.er, reduceCtorEq] at hc0
    case seq a0 b0 =>
      injection hc0 with h1 h2
      exact Fin.head step_seq (ih [] (.code a :: .code b :: sk) e h hk (.code a0 :: .code b0 :: r) tmps w cs w0 D0 (cItems_mk (by simp [cItem, h1, AItem.er]) (cItems_mk (by simp [cItem, h2, AItem.er]) hr)) S)
    all_goals (repeat' (first | (cases hc0; done) | split at hc0))
  | cond cd a b =>
    cases c0 <;> simp only [cCode, ACode.er, reduceCtorEq] at hc0
    case cond cd0 a0 b0 =>
      split at hc0
      · rename_i x hx
        injection hc0 with h0 h1 h2
        subst h0
        have hE := opd_rep (ds := []) S.env hx
        simp only [vc2] at hk
        split at hk <;> first | (exact hk.elim) | skip
        rename_i t ht
        rw [ht] at hE
        refine Fin.head (step_cond (t := t) hE) ?_
        cases t
        · exact ih [] (.code b :: sk) e h (hk.2 rfl) (.code b0 :: r) tmps w cs w0 D0 (cItems_mk (by simp [cItem, h2, AItem.er]) hr) S
        · exact ih [] (.code a :: sk) e h (hk.1 rfl) (.code a0 :: r) tmps w cs w0 D0 (cItems_mk (by simp [cItem, h1, AItem.er]) hr) S
      · cases hc0
    all_goals (repeat' (first | (cases hc0; done) | split at hc0))
  | block id a =>
    cases c0 <;> simp only [cCode, ACode.er, reduceCtorEq] at hc0
    case block id0 a0 =>
      injection hc0 with h0 h1
      subst h0
      exact Fin.head step_block (ih [] (.code a :: .inBlock id0 :: sk) e h hk (.code a0 :: .inBlock id0 :: r) tmps w cs w0 D0 (cItems_mk (by simp [cItem, h1, AItem.er]) (cItems_mk rfl hr)) S)
    all_goals (repeat' (first | (cases hc0; done) | split at hc0))
  | loop a =>
    cases c0 <;> simp only [cCode, ACode.er, reduceCtorEq] at hc0
    case loop a0 =>
      injection hc0 with h1
      have hk' : Run2 C (.code a :: .inLoop a :: sk) e h R := hk
      exact Fin.head step_loop (hk' (.code a0 :: .inLoop a0 :: r) tmps w cs w0 D0 (cItems_mk (by simp [cItem, h1, AItem.er]) (cItems_mk (by simp [cItem, h1, AItem.er]) hr)) S)
    all_goals (repeat' (first | (cases hc0; done) | split at hc0))
  | exit id =>
    cases c0 <;> simp only [cCode, ACode.er, reduceCtorEq] at hc0
    case exit id0 =>
      injection hc0 with h0
      subst h0
      simp only [vc2] at hk
      split at hk <;> first | (exact hk.elim) | skip
      rename_i sk' hs
      have hs' : sExit id0 (sk.map AItem.er) = some (sk'.map AItem.er) := by rw [exit2_er, hs]; rfl
      obtain ⟨k', g1, g2⟩ := sExit_spec hr hs'
      exact Fin.head (step_exit g1) (ih [] sk' e h hk k' tmps w cs w0 D0 g2 S)
    all_goals (repeat' (first | (cases hc0; done) | split at hc0))
  | bad => exact hk.elim
  | cut a =>
    have hk' : Run2 C (.code a :: sk) e h R := hk
    exact hk' (.code c0 :: r) tmps w cs w0 D0 (cItems_mk (by simpa [cItem, AItem.er, ACode.er] using hc0) hr) S
  | ret =>
    cases c0 <;> simp only [cCode, ACode.er, reduceCtorEq] at hc0
    case ret => exact Fin.head step_ret (ret_fin I.fn I.res S hk _)
    all_goals (repeat' (first | (cases hc0; done) | split at hc0))
theorem vc2_sound {F : Func} (I : Is C F) : ∀ (n : Nat) (is : List AJ) (sk : List AItem) (e : Env) (h : Heap), vc2 C n is sk e h R → Go2 C is sk e h R
  | 0, _, _, _, _, hk => hk
  | n + 1, .o i :: is, sk, e, h, hk => ops_sound2 I.pure (fun e h g => vc2_sound I n is sk e h g) hk
  | n + 1, .v .. :: is, sk, e, h, hk => var_sound2 (fun e h g => vc2_sound I n is sk e h g) hk
  | n + 1, .e .. :: is, sk, e, h, hk => emp_sound2 (fun e h g => vc2_sound I n is sk e h g) hk
  | n + 1, [], sk, e, h, hk => by
    cases sk with
    | nil =>
      intro k tmps w cs w0 D0 hki S
      have := cItems_nil hki
      subst this
      exact Fin.head step_end (ret_fin I.fn I.res S hk _)
    | cons x sk =>
      cases x with
      | code c => exact code_sound2 I (fun is sk e h g => vc2_sound I n is sk e h g) (fun m hm sk e h g => vc2_sound I m [] sk e h g) hk
      | inBlock id =>
        intro k tmps w cs w0 D0 hki S
        obtain ⟨i, r, rfl, hi, hr⟩ := cItems_cons hki
        obtain rfl := cItem_inBlock hi
        exact Fin.head step_inBlock (vc2_sound I n [] sk e h hk r tmps w cs w0 D0 hr S)
      | inLoop c =>
        intro k tmps w cs w0 D0 hki S
        obtain ⟨i, r, rfl, hi, hr⟩ := cItems_cons hki
        obtain ⟨c0, rfl, hc0⟩ := cItem_inLoop hi
        have hk' : Run2 C (.code c :: .inLoop c :: sk) e h R := hk
        exact Fin.head step_inLoop (hk' (.code c0 :: .inLoop c0 :: r) tmps w cs w0 D0 (cItems_mk (by simp [cItem, hc0, AItem.er]) (cItems_mk (by simp [cItem, hc0, AItem.er]) hr)) S)
termination_by n => n
decreasing_by all_goals omega
theorem Go2.of {F : Func} (I : Is C F) (n : Nat) {is : List AJ} {sk : List AItem} (hk : vc2 C n is sk e h R) : Go2 C is sk e h R := vc2_sound I n is sk e h hk
theorem Run2.of {F : Func} (I : Is C F) (n : Nat) {sk : List AItem} (hk : vc2 C n [] sk e h R) : Run2 C sk e h R := vc2_sound I n [] sk e h hk
theorem Run2.loop {sk : List AItem} {a : ACode} {α : Type} (E : α → Env) (H : α → Heap) (μ : α → Nat) (Inv : α → Prop) (x0 : α) (h0 : Inv x0)
    (round : ∀ x, Inv x → (∀ y, Inv y → μ y < μ x → Run2 C (.code a :: .inLoop a :: sk) (E y) (H y) R) → Run2 C (.code a :: .inLoop a :: sk) (E x) (H x) R) : Run2 C (.code a :: .inLoop a :: sk) (E x0) (H x0) R := by
  have key : ∀ n x, μ x = n → Inv x → Run2 C (.code a :: .inLoop a :: sk) (E x) (H x) R := by
    intro n
    induction n using Nat.strongRecOn with
    | _ n ih => exact fun x hn hx => round x hx fun y hy hlt => ih (μ y) (hn ▸ hlt) y rfl hy
  exact key _ x0 rfl h0
theorem Run2.loopE {sk : List AItem} {a : ACode} {α : Type} (E : α → Env) (H : α → Heap) (μ : α → Nat) (Inv : α → Prop) (x0 : α) (he : e = E x0) (hh : h = H x0) (h0 : Inv x0)
    (round : ∀ x, Inv x → (∀ y, Inv y → μ y < μ x → Run2 C (.code a :: .inLoop a :: sk) (E y) (H y) R) → Run2 C (.code a :: .inLoop a :: sk) (E x) (H x) R) : Run2 C (.code a :: .inLoop a :: sk) e h R := by
  subst he; subst hh; exact Run2.loop E H μ Inv x0 h0 round
theorem Run2.keep (ts : List Nat) {sk : List AItem} (g : Run2 C sk (keep e ts) h R) : Run2 C sk e h R := Run.keep ts g
theorem Run2.drop (id : Nat) {sk : List AItem} (g : Run2 C sk e (hdel h id) R) : Run2 C sk e h R := Run.drop id g
theorem Run2.sub {h' : Heap} (hs : ∀ p ∈ h', p ∈ h) (nd : (dom h).Nodup → (dom h').Nodup) {sk : List AItem} (g : Run2 C sk e h' R) : Run2 C sk e h R := by
  intro k tmps w cs w0 D0 hk S
  have hd : ∀ x, x ∈ dom h' → x ∈ dom h := fun x hx => by
    obtain ⟨p, hp, rfl⟩ := List.mem_map.1 hx
    exact List.mem_map.2 ⟨p, hs p hp, rfl⟩
  have K : Keeps w w (dom h) (dom h') := ⟨Nat.le_refl _, fun _ _ _ => rfl, fun b _ hb hm => hb (hd b hm), fun _ c _ _ h => ⟨c, h, rfl⟩⟩
  refine g k tmps w cs w0 D0 hk ⟨S.env.mono K, S.size, ⟨nd S.heap.nd, fun p hp => ?_, S.heap.fix.mono K⟩, S.ev.trans ⟨K, rfl, rfl, rfl, fun _ => Nat.le_refl _⟩⟩
  obtain ⟨c, el, e, hE⟩ := S.heap.all p (hs p hp)
  exact ⟨c, el, e, Elems.mono K _ _ _ _ (fun _ => rfl) hE⟩
theorem Run2.nd {sk : List AItem} (g : (dom h).Nodup → Run2 C sk e h R) : Run2 C sk e h R := by
  intro k tmps w cs w0 D0 hk S
  exact g S.heap.nd k tmps w cs w0 D0 hk S
theorem Run2.freeze (id : Nat) {b : Blk} (hb : hget h id = some b) {sk : List AItem} (g : Run2 C sk (fzE id b e) (hdel h id) R) : Run2 C sk e h R := Run.freeze id hb g
theorem Run2.freezeH (id : Nat) {b : Blk} (hb : hget h id = some b) {sk : List AItem} (g : Run2 C sk (fzE id b e) (fzH id b (hdel h id)) R) : Run2 C sk e h R := Run.freezeH id hb g
end
/-- A function's contract from its code with notes; nothing is frozen or given up at the end. -/
theorem contract20 {P : Program} (M : List Nat) {g : FuncId} {F : Func} {args : List AV} {h : Heap} {R : AV → Heap → Prop} (k : ACode) (res : List RV) (hf : P.funcs[g]? = some F) (hn : (F.name == "runtime.NumGoroutine") = false) {body : Code} (hb : F.body = some body) (hr : cRes P F.results.toList = some res)
    (hlen : args.length ≤ F.ntmps) (hcode : cCode P M F.ntmps body = k.er) {orc : Orc} (hp : Pure P orc) (hk : Is ⟨P, M, g, F.ntmps, res, orc⟩ F → Run2 ⟨P, M, g, F.ntmps, res, orc⟩ [.code k] (argEnv 0 args) h R) : ACalls P g args h R := by
  refine acalls (M := M) hf hn hb hr hlen hp fun I => ?_
  have := hk I
  unfold Run2 at this
  rw [hcode]
  exact this
/-- A function's contract from its code with notes. -/
theorem contract2 {P : Program} (M : List Nat) {g : FuncId} {F : Func} {args : List AV} {h : Heap} {R : AV → Heap → Prop} (k : ACode) (res : List RV) (hf : P.funcs[g]? = some F) (hn : (F.name == "runtime.NumGoroutine") = false) {body : Code} (hb : F.body = some body) (hr : cRes P F.results.toList = some res)
    (hlen : args.length ≤ F.ntmps) (hcode : cCode P M F.ntmps body = k.er) {orc : Orc} (hp : Pure P orc) (hk : Is ⟨P, M, g, F.ntmps, res, orc⟩ F → Run2 ⟨P, M, g, F.ntmps, res, orc⟩ [.code k] (argEnv 0 args) h (Post R)) : ACalls P g args h R := by
  refine ACalls.post (acalls (M := M) hf hn hb hr hlen hp fun I => ?_)
  have := hk I
  unfold Run2 at this
  rw [hcode]
  exact this
end Go.AG
