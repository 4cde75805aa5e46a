/- Regions whose order Go leaves open: the conditions told in the text's order are right for every order. No statement about the program is made here. -/
import Derived.Test.YtebkdegjiollbaaAGSnd
namespace Go.AG
open Go.RowKit
section
variable {C : Cx} {e e' : Env} {h : Heap} {w0 : World} {D0 : List Nat} {tmps : Array Value} {w : World} {R : AV → Heap → Prop} {cs : List Frame}

theorem ev_congr {x : Opd} (hx : ∀ t ∈ x.uses, eget e t = eget e' t) : ev e x = ev e' x := by
  cases x with
  | t n => exact hx n (by simp [Opd.uses])
  | c v => rfl
theorem evs_congr {xs : List Opd} (hx : ∀ t ∈ xs.flatMap Opd.uses, eget e t = eget e' t) : xs.map (ev e) = xs.map (ev e') :=
  List.map_congr_left fun x hxm => ev_congr fun t ht => hx t (List.mem_flatMap.2 ⟨x, hxm, ht⟩)
theorem bnd_congr {x : Option Opd} (hx : ∀ t ∈ optUses x, eget e t = eget e' t) : bnd e x = bnd e' x := by
  cases x with
  | none => rfl
  | some x => simp only [bnd]; rw [ev_congr hx]
theorem fill_congr : ∀ {ps : List (Nat × Nat × Opd)} {z : List AV}, (∀ t ∈ ps.flatMap fun p => p.2.2.uses, eget e t = eget e' t) → fillAV e z ps = fillAV e' z ps
  | [], _, _ => rfl
  | (o, n, x) :: r, z, hx => by
    have h1 : ev e x = ev e' x := ev_congr fun t ht => hx t (by simp [ht])
    simp only [fillAV, h1]
    split
    · exact fill_congr fun t ht => hx t (by simp only [List.flatMap_cons, List.mem_append]; exact .inr ht)
    · rfl
theorem opVC_congr {op : SOp} (hx : ∀ t ∈ op.uses, eget e t = eget e' t) {k : AV → Prop} (hk : opVC h e op k) : opVC h e' op k := by
  cases op <;> simp only [SOp.uses, List.mem_append] at hx <;> simp only [opVC] at hk ⊢ <;> first | (exact hk.elim) | exact hk | skip
  case pick c a b => rw [← ev_congr (x := c) fun t ht => hx t (.inl (.inl ht)), ← ev_congr (x := a) fun t ht => hx t (.inl (.inr ht)), ← ev_congr (x := b) fun t ht => hx t (.inr ht)]; exact hk
  case bin op x y => rw [← ev_congr (x := x) fun t ht => hx t (.inl ht), ← ev_congr (x := y) fun t ht => hx t (.inr ht)]; exact hk
  case beq n x y => rw [← ev_congr (x := x) fun t ht => hx t (.inl ht), ← ev_congr (x := y) fun t ht => hx t (.inr ht)]; exact hk
  case eqs n s x y => rw [← ev_congr (x := x) fun t ht => hx t (.inl ht), ← ev_congr (x := y) fun t ht => hx t (.inr ht)]; exact hk
  case idxA s x y => rw [← ev_congr (x := x) fun t ht => hx t (.inl ht), ← ev_congr (x := y) fun t ht => hx t (.inr ht)]; exact hk
  case idx x y => rw [← ev_congr (x := x) fun t ht => hx t (.inl ht), ← ev_congr (x := y) fun t ht => hx t (.inr ht)]; exact hk
  case slice s x lo hi mx =>
    rw [← ev_congr (x := x) fun t ht => hx t (.inl (.inl (.inl ht))), ← bnd_congr (x := lo) fun t ht => hx t (.inl (.inl (.inr ht))), ← bnd_congr (x := hi) fun t ht => hx t (.inl (.inr ht)), ← bnd_congr (x := mx) fun t ht => hx t (.inr ht)]
    exact hk
  case sslice x lo hi =>
    rw [← ev_congr (x := x) fun t ht => hx t (.inl (.inl ht)), ← bnd_congr (x := lo) fun t ht => hx t (.inl (.inr ht)), ← bnd_congr (x := hi) fun t ht => hx t (.inr ht)]
    exact hk
  case mkfn g xs => rw [← evs_congr hx]; exact hk
  case mx b xs => rw [← evs_congr hx]; exact hk
  case bsl m s xs => rw [← evs_congr hx]; exact hk
  case build z ps => rw [← fill_congr hx]; exact hk
  case extract x i => rw [← ev_congr (x := x) hx]; exact hk
  case mv x => rw [← ev_congr (x := x) hx]; exact hk
  case eqn kd n x => rw [← ev_congr (x := x) hx]; exact hk
  case un op x => rw [← ev_congr (x := x) hx]; exact hk
  case conv kd x => rw [← ev_congr (x := x) hx]; exact hk
  case fieldA o x => rw [← ev_congr (x := x) hx]; exact hk
  case field o n ag x => rw [← ev_congr (x := x) hx]; exact hk
  case load n ag x => rw [← ev_congr (x := x) hx]; exact hk
  case nilchk x => rw [← ev_congr (x := x) hx]; exact hk
  case len x => rw [← ev_congr (x := x) hx]; exact hk
  case slen x => rw [← ev_congr (x := x) hx]; exact hk
  case bstr x => rw [← ev_congr (x := x) hx]; exact hk
  case capk x => rw [← ev_congr (x := x) hx]; exact hk
  case box m s x => rw [← ev_congr (x := x) hx]; exact hk

def OpEval (C : Cx) (op : SOp) (e : Env) (h : Heap) (v : AV) : Prop := match op with
  | .call g args => ACalls C.P g (args.map (ev e)) h (fun v' h' => v' = v ∧ h' = h)
  | .callv f args => ∃ g caps, ev e f = .fn g caps ∧ ACalls C.P g (args.map (ev e) ++ caps) h (fun v' h' => v' = v ∧ h' = h)
  | op => opVC h e op (· = v)
def InstrEval (C : Cx) (i : SI) (e : Env) (h : Heap) (v : AV) : Prop := match i.guard with
  | none => OpEval C i.op e h v
  | some (s, b) => (eget e s = .bool b ∧ OpEval C i.op e h v) ∨ ((eget e s = .bool (!b) ∨ eget e s = .tup []) ∧ v = .tup [])
theorem OpEval.congr {op : SOp} (hx : ∀ t ∈ op.uses, eget e t = eget e' t) {v : AV} (hk : OpEval C op e h v) : OpEval C op e' h v := by
  unfold OpEval at hk ⊢
  split at hk
  · rename_i g args; simp only [SOp.uses] at hx; rw [← evs_congr hx]; exact hk
  · rename_i f args
    simp only [SOp.uses, List.mem_append] at hx
    obtain ⟨g, caps, h1, h2⟩ := hk
    refine ⟨g, caps, ?_, ?_⟩
    · rw [← ev_congr (x := f) fun t ht => hx t (.inl ht)]; exact h1
    · rw [← evs_congr (xs := args) fun t ht => hx t (.inr ht)]; exact h2
  · exact opVC_congr hx hk
theorem InstrEval.congr {i : SI} (hx : ∀ t ∈ i.uses, eget e t = eget e' t) {v : AV} (hk : InstrEval C i e h v) : InstrEval C i e' h v := by
  unfold InstrEval at hk ⊢
  unfold SI.uses at hx
  split at hk
  · exact hk.congr fun t ht => hx t (List.mem_append_left _ ht)
  · rename_i s b hg
    rw [hg] at hx
    have hs : eget e s = eget e' s := hx s (by simp)
    rw [← hs]
    rcases hk with ⟨h1, h2⟩ | ⟨h1, h2⟩
    · exact .inl ⟨h1, h2.congr fun t ht => hx t (List.mem_append_left _ ht)⟩
    · exact .inr ⟨h1, h2⟩

/-- The slots, where the operations that 'sel' names have been carried out. -/
def envSel (sel : Nat → Bool) : Nat → Env → List SI → List AV → Env
  | j, e, i :: is, v :: vs => envSel sel (j + 1) (if sel j then put e i.dst v else e) is vs
  | _, e, _, _ => e
theorem envSel_false {sel : Nat → Bool} : ∀ (is : List SI) (vs : List AV) (p : Nat) (e : Env), (∀ m, p ≤ m → sel m = false) → envSel sel p e is vs = e
  | [], _, _, _, _ => rfl
  | _ :: _, [], _, _, _ => rfl
  | i :: is, v :: vs, p, e, hs => by
    simp only [envSel, hs p (Nat.le_refl _), Bool.false_eq_true, if_false]
    exact envSel_false is vs (p + 1) e fun m hm => hs m (by omega)
theorem put_agree {e e' : Env} {d : Option Nat} {v : AV} (he : ∀ t, eget e t = eget e' t) (t : Nat) : eget (put e d v) t = eget (put e' d v) t := by
  cases d with
  | none => exact he t
  | some d => simp only [put, eget]; split; rfl; exact he t
theorem know_agree {e : Env} {s : Nat} {v : AV} (hs : eget e s = v) (t : Nat) : eget ((s, v) :: e) t = eget e t := by
  simp only [eget]
  split
  · rename_i h; subst h; exact hs.symm
  · rfl
theorem envSel_agree {sel sel' : Nat → Bool} {t : Nat} : ∀ (is : List SI) (vs : List AV) (p : Nat) (e e' : Env), eget e t = eget e' t → (∀ (j : Nat) (i : SI), is[j]? = some i → i.dst = some t → sel (p + j) = sel' (p + j)) →
    eget (envSel sel p e is vs) t = eget (envSel sel' p e' is vs) t
  | [], _, _, _, _, he, _ => he
  | _ :: _, [], _, _, _, he, _ => he
  | i :: is, v :: vs, p, e, e', he, hs => by
    simp only [envSel]
    refine envSel_agree is vs (p + 1) _ _ ?_ fun j i' hi hd => by
      have := hs (j + 1) i' (by simpa using hi) hd
      rwa [show p + (j + 1) = p + 1 + j by omega] at this
    have h0 := hs 0 i rfl
    rw [Nat.add_zero] at h0
    have hput : ∀ e, i.dst ≠ some t → eget (put e i.dst v) t = eget e t := by
      intro e hd
      cases hdd : i.dst with
      | none => rfl
      | some d =>
        have : d ≠ t := fun h => hd (by rw [hdd, h])
        simp [put, eget, this]
    have hput' : ∀ e, i.dst = some t → eget (put e i.dst v) t = v := by
      intro e hd; rw [hd]; simp [put, eget]
    by_cases hd : i.dst = some t
    · rw [h0 hd]
      split
      · rw [hput' _ hd, hput' _ hd]
      · exact he
    · split <;> split <;> first | exact he | (simp only [hput _ hd]; exact he)
theorem envSel_last {sel : Nat → Bool} {t : Nat} : ∀ (is : List SI) (vs : List AV) (p : Nat) (e : Env) (j : Nat) (i : SI) (v : AV), is[j]? = some i → vs[j]? = some v → i.dst = some t → sel (p + j) = true →
    (∀ (m : Nat) (i' : SI), j < m → is[m]? = some i' → i'.dst = some t → sel (p + m) = false) → eget (envSel sel p e is vs) t = v
  | [], _, _, _, j, _, _, hi, _, _, _, _ => by simp at hi
  | _ :: _, [], _, _, j, _, _, _, hv, _, _, _ => by simp at hv
  | i :: is, u :: vs, p, e, j, i', v, hi, hv, hd, hs, hm => by
    cases j with
    | zero =>
      simp at hi hv
      subst hi; subst hv
      rw [Nat.add_zero] at hs
      simp only [envSel, hs, if_true]
      have : eget (envSel sel (p + 1) (put e i.dst u) is vs) t = eget (envSel (fun _ => false) (p + 1) (put e i.dst u) is vs) t :=
        envSel_agree is vs (p + 1) _ _ rfl fun m i2 h2 d2 => by
          have := hm (m + 1) i2 (by omega) (by simpa using h2) d2
          rwa [show p + (m + 1) = p + 1 + m by omega] at this
      rw [this, envSel_false _ _ _ _ fun _ _ => rfl, hd]
      simp [put, eget]
    | succ j =>
      simp only [envSel]
      exact envSel_last is vs (p + 1) _ j i' v (by simpa using hi) (by simpa using hv) hd (by rw [← hs]; congr 1; omega) fun m i2 hlt h2 d2 => by
        have := hm (m + 1) i2 (by omega) (by simpa using h2) d2
        rwa [show p + (m + 1) = p + 1 + m by omega] at this

/-! ## What stands before an operation -/
def befF (acc : Array Nat) (o : Oper) : Array Nat := acc.push (o.after.foldl (fun s e => if Region.binds .any e then s ||| 2 ^ e.on ||| acc.getD e.on 0 else s) 0)
theorem bef_size : ∀ (l : List Oper) (acc : Array Nat), (l.foldl befF acc).size = acc.size + l.length
  | [], acc => rfl
  | o :: l, acc => by rw [List.foldl_cons, bef_size l]; simp [befF]; omega
theorem bef_old : ∀ (l : List Oper) (acc : Array Nat) (m : Nat), m < acc.size → (l.foldl befF acc).getD m 0 = acc.getD m 0
  | [], _, _, _ => rfl
  | o :: l, acc, m, hm => by
    rw [List.foldl_cons, bef_old l _ m (by simp [befF]; omega)]
    simp [befF, Array.getElem?_push, Nat.ne_of_lt hm]
theorem before_eq (ops : Array Oper) : Region.before ops = ops.toList.foldl befF #[] := by
  unfold Region.before
  rw [← Array.foldl_toList]
  rfl
theorem edges_bit {acc : Array Nat} {i : Nat} : ∀ (es : List Edge) (s : Nat), (es.foldl (fun s e => if Region.binds .any e then s ||| 2 ^ e.on ||| acc.getD e.on 0 else s) s).testBit i = true →
    s.testBit i = true ∨ ∃ e ∈ es, Region.binds .any e = true ∧ (e.on = i ∨ (acc.getD e.on 0).testBit i = true)
  | [], s, h => .inl h
  | e :: es, s, h => by
    rw [List.foldl_cons] at h
    rcases edges_bit es _ h with h | ⟨e', he, h⟩
    · split at h
      · rename_i hb
        simp only [Nat.testBit_or, Bool.or_eq_true] at h
        rcases h with (h | h) | h
        · exact .inl h
        · exact .inr ⟨e, List.mem_cons_self .., hb, .inl (by rw [Nat.testBit_two_pow] at h; simpa using h)⟩
        · exact .inr ⟨e, List.mem_cons_self .., hb, .inr h⟩
      · exact .inl h
    · exact .inr ⟨e', List.mem_cons_of_mem _ he, h⟩
theorem before_spec {ops : Array Oper} {j i : Nat} {o : Oper} (ho : ops[j]? = some o) (hedge : ∀ e ∈ o.after, Region.binds .any e = true → e.on < j) (hb : ((Region.before ops).getD j 0).testBit i = true) :
    ∃ e ∈ o.after, Region.binds .any e = true ∧ (e.on = i ∨ ((Region.before ops).getD e.on 0).testBit i = true) := by
  have hlt : j < ops.toList.length := by have := (Array.getElem?_eq_some_iff.1 ho).1; simpa using this
  have hsplit : ops.toList = ops.toList.take j ++ o :: ops.toList.drop (j + 1) := by
    have hg : ops.toList[j] = o := by have := (Array.getElem?_eq_some_iff.1 ho).2; simpa using this
    rw [← hg, List.getElem_cons_drop, List.take_append_drop]
  let acc := (ops.toList.take j).foldl befF #[]
  have hacc : acc.size = j := by
    simp only [acc, bef_size, List.length_take]
    simp only [List.size_toArray, List.length_nil]
    omega
  have hfin : Region.before ops = (ops.toList.drop (j + 1)).foldl befF (befF acc o) := by
    have : ops.toList.foldl befF #[] = (ops.toList.take j ++ o :: ops.toList.drop (j + 1)).foldl befF #[] := congrArg (fun l => List.foldl befF #[] l) hsplit
    rw [before_eq, this, List.foldl_append, List.foldl_cons]
  have hj : (Region.before ops).getD j 0 = (befF acc o).getD j 0 := by rw [hfin, bef_old _ _ _ (by simp [befF, hacc])]
  rw [hj] at hb
  have hX : (befF acc o).getD j 0 = o.after.foldl (fun s e => if Region.binds .any e then s ||| 2 ^ e.on ||| acc.getD e.on 0 else s) 0 := by
    have : ∀ (a : Array Nat) (x : Nat), (a.push x).getD a.size 0 = x := fun a x => by simp
    rw [← hacc]
    exact this acc _
  rw [hX, ← Array.foldl_toList] at hb
  rcases edges_bit _ _ hb with h | ⟨e, he, h1, h2⟩
  · simp at h
  · have he' : e ∈ o.after := by simpa using he
    refine ⟨e, he', h1, h2.imp id fun h => ?_⟩
    have hlt' := hedge e he' h1
    rw [hfin, bef_old _ _ _ (by simp [befF, hacc]; omega)]
    have : ∀ (a : Array Nat) (x m : Nat), m < a.size → (a.push x).getD m 0 = a.getD m 0 := fun a x m hm => by
      simp [Array.getElem?_push, Nat.ne_of_lt hm]
    rw [show befF acc o = acc.push _ from rfl, this _ _ _ (by omega)]; exact h

/-! ## Every order -/
theorem getD_set_eq {listed : Array Bool} {i : Nat} (hi : i < listed.size) (d : Bool) : (listed.setIfInBounds i true).getD i d = true := by simp [hi]
/-- What has been carried out is closed against what stands before. -/
def Closed (ops : Array Oper) (listed : Array Bool) : Prop := ∀ j i, listed.getD j false = true → ((Region.before ops).getD j 0).testBit i = true → listed.getD i false = true

structure DrawOk (C : Cx) (ops : Array Oper) (is : List SI) (vals : List AV) (e : Env) (h : Heap) : Prop where
  len : is.length ≤ ops.size
  vlen : vals.length = is.length
  each : ∀ (j : Nat) (o : Oper), j < is.length → ops[j]? = some o → ∃ i, is[j]? = some i ∧ cInstr C.P C.M C.nt ops o = some i
  eval : ∀ (j : Nat) (i : SI) (v : AV), is[j]? = some i → vals[j]? = some v → InstrEval C i (envSel (fun m => decide (m < j)) 0 e is vals) h v
  order : ∀ (i j : Nat) (p o : SI), is[i]? = some p → is[j]? = some o → i < j → ((Region.before ops).getD j 0).testBit i = true ∨ ((∀ d, p.dst = some d → d ∉ o.uses ∧ o.dst ≠ some d) ∧ ∀ d, o.dst = some d → d ∉ p.uses)
  edges : ∀ (j : Nat) (o : Oper), ops[j]? = some o → ∀ e ∈ o.after, Region.binds .any e = true → e.on < j

theorem draw_step {ops : Array Oper} {is : List SI} {vals : List AV} (D : DrawOk C ops is vals e h) {listed : Array Bool} (hls : listed.size = ops.size) (hcl : Closed ops listed)
    (S : SRel C (envSel (fun m => listed.getD m false) 0 e is vals) h w0 D0 tmps w) {j : Nat} {rest : List Nat} {k : List Item} (hj : j ∈ Region.ready .any ops listed) (hjp : j < is.length)
    (hrest : ∀ tmps' w', Closed ops (listed.setIfInBounds j true) → SRel C (envSel (fun m => (listed.setIfInBounds j true).getD m false) 0 e is vals) h w0 D0 tmps' w' → Fin C w0 D0 R cs (lone ((bF C.fn).at ⟨tmps', []⟩ (.inRegion ops rest :: k)) cs w')) :
    Fin C w0 D0 R cs (lone ((bF C.fn).at ⟨tmps, []⟩ (.inRegion ops (j :: rest) :: k)) cs w) := by
  obtain ⟨hnot, o, ho, hafter⟩ := mem_ready.1 hj
  have hjlt : j < ops.size := (Array.getElem?_eq_some_iff.1 ho).1
  obtain ⟨i, hi, hc⟩ := D.each j o hjp ho
  obtain ⟨hd, hdst, hop, hg⟩ := cInstr_spec hc
  obtain ⟨v, hv⟩ : ∃ v, vals[j]? = some v := ⟨vals[j]'(by rw [D.vlen]; exact hjp), List.getElem?_eq_getElem _⟩
  have hev := D.eval j i v hi hv
  have hnotf : listed.getD j false = false := by
    have : listed.getD j true = false := hnot
    have hjl : j < listed.size := by omega
    simpa [hjl] using this
  have hbef : ∀ m, ((Region.before ops).getD j 0).testBit m = true → listed.getD m false = true := by
    intro m hm
    obtain ⟨ed, he, hb, h⟩ := before_spec ho (fun e he => D.edges j o ho e he) hm
    have := hafter ed he hb
    rcases h with rfl | h
    · exact this
    · exact hcl _ _ this h
  have hcl' : Closed ops (listed.setIfInBounds j true) := by
    intro a b ha hb
    by_cases haj : a = j
    · subst haj
      have := hbef b hb
      by_cases hbj : b = a
      · subst hbj; rw [hnotf] at this; cases this
      · rw [getD_set_ne false (fun h => hbj h.symm)]; exact this
    · rw [getD_set_ne false (fun h => haj h.symm)] at ha
      have := hcl a b ha hb
      by_cases hbj : b = j
      · subst hbj; rw [hnotf] at this; cases this
      · rw [getD_set_ne false (fun h => hbj h.symm)]; exact this
  -- the slots that it reads are as in the text's own order
  have hagree : ∀ t ∈ i.uses, eget (envSel (fun m => decide (m < j)) 0 e is vals) t = eget (envSel (fun m => listed.getD m false) 0 e is vals) t := by
    intro t ht
    refine envSel_agree is vals 0 e e rfl fun m p hp hpd => ?_
    rw [Nat.zero_add]
    rcases Nat.lt_trichotomy m j with hlt | rfl | hgt
    · rcases D.order m j p i hp hi hlt with hb | ⟨h1, _⟩
      · rw [hbef m hb]; simp [hlt]
      · exact absurd ht (h1 t hpd).1
    · rw [hnotf]; simp
    · rcases D.order j m i p hi hp hgt with hb | ⟨_, h2⟩
      · cases hlm : listed.getD m false with
        | false => simp; omega
        | true => have := hcl m j hlm hb; rw [hnotf] at this; cases this
      · exact absurd ht (h2 t hpd)
  have hevl := hev.congr hagree
  -- behind it
  have hafterS : ∀ (tmps' : Array Value) (w' : World) (cv : Value), Rep w' (dom h) v cv → HRel w' h → Evolve w (dom h) w' (dom h) → tmps' = ((⟨tmps, []⟩ : Act).put o.dst cv).tmps →
      SRel C (envSel (fun m => (listed.setIfInBounds j true).getD m false) 0 e is vals) h w0 D0 tmps' w' := by
    intro tmps' w' cv hrep H' Ev htm
    subst htm
    obtain ⟨S', _⟩ := S.put (d := o.dst) hd hrep H' Ev
    refine ⟨fun t => ?_, S'.size, S'.heap, S'.ev⟩
    have hS := S'.env t
    have heq : eget (envSel (fun m => (listed.setIfInBounds j true).getD m false) 0 e is vals) t = eget (put (envSel (fun m => listed.getD m false) 0 e is vals) o.dst v) t := by
      by_cases htd : o.dst = some t
      · have hput : eget (put (envSel (fun m => listed.getD m false) 0 e is vals) o.dst v) t = v := by rw [htd]; simp [put, eget]
        rw [hput]
        refine envSel_last is vals 0 e j i v hi hv (by rw [hdst]; exact htd) (by rw [Nat.zero_add]; exact getD_set_eq (by omega) _) fun m p hlt hp hpd => ?_
        rw [Nat.zero_add, getD_set_ne false (by omega)]
        cases hlm : listed.getD m false with
        | false => rfl
        | true =>
          rcases D.order j m i p hi hp hlt with hb | ⟨h1, _⟩
          · have := hcl m j hlm hb; rw [hnotf] at this; cases this
          · exact absurd hpd (h1 t (by rw [hdst]; exact htd)).2
      · have hput : eget (put (envSel (fun m => listed.getD m false) 0 e is vals) o.dst v) t = eget (envSel (fun m => listed.getD m false) 0 e is vals) t := by
          cases hdd : o.dst with
          | none => rfl
          | some d =>
            have : d ≠ t := fun h => htd (by rw [hdd, h])
            simp [put, eget, this]
        rw [hput]
        refine envSel_agree is vals 0 e e rfl fun m p hp hpd => ?_
        rw [Nat.zero_add]
        by_cases hmj : m = j
        · subst hmj
          rw [hi] at hp
          cases hp
          exact absurd (hdst ▸ hpd) htd
        · exact getD_set_ne false (fun h => hmj h.symm)
    rw [heq]; exact hS
  -- it is carried out
  have run : OpEval C i.op (envSel (fun m => listed.getD m false) 0 e is vals) h v → Region.wanted o (yielded ops tmps) = true → Fin C w0 D0 R cs (lone ((bF C.fn).at ⟨tmps, []⟩ (.inRegion ops (j :: rest) :: k)) cs w) := by
    intro hoe hw
    have fin : ∀ (v' : AV) (h' : Heap) (cv : Value) (w' : World), v' = v → h' = h → Rep w' (dom h') v' cv → HRel w' h' → Evolve w (dom h) w' (dom h') → Fin C w0 D0 R cs (lone ((bF C.fn).at ((⟨tmps, []⟩ : Act).put o.dst cv) (.inRegion ops rest :: k)) cs w') := by
      intro v' h' cv w' hv' hh' g2 g3 g4
      subst hv'; subst hh'
      have := hafterS _ w' cv g2 g3 g4 rfl
      have e' : (⟨tmps, []⟩ : Act).put o.dst cv = ⟨((⟨tmps, []⟩ : Act).put o.dst cv).tmps, []⟩ := by cases o.dst <;> rfl
      rw [e']
      exact hrest _ _ hcl' this
    have callcase : ∀ (g : FuncId) (args : List AV), ((∃ xs, i.op = .call g xs ∧ args = xs.map (ev (envSel (fun m => listed.getD m false) 0 e is vals))) ∨ ∃ f xs caps, i.op = .callv f xs ∧ ev (envSel (fun m => listed.getD m false) 0 e is vals) f = .fn g caps ∧ args = xs.map (ev (envSel (fun m => listed.getD m false) 0 e is vals)) ++ caps) →
        ACalls C.P g args h (fun v' h' => v' = v ∧ h' = h) → Fin C w0 D0 R cs (lone ((bF C.fn).at ⟨tmps, []⟩ (.inRegion ops (j :: rest) :: k)) cs w) := by
      intro g args hia hk
      obtain ⟨hok, hcal⟩ := hk
      obtain ⟨vs, hr, hrun⟩ := call_run (a := ⟨tmps, []⟩) S.env hc hok hia
      obtain ⟨en, w', fr, ⟨cv, v', h', rfl, g2, g3, g4, g5, g6⟩, hsteps, _, hleave⟩ := hcal w vs S.heap hr ((bF C.fn).at ⟨tmps, []⟩ (.inRegion ops (j :: rest) :: k) :: cs)
      have henter : step C.P (lone ((bF C.fn).at ⟨tmps, []⟩ (.inRegion ops (j :: rest) :: k)) cs w) = .next (lone (Frame.enter C.P g ⟨vs⟩ .normal) ((bF C.fn).at ⟨tmps, []⟩ (.inRegion ops (j :: rest) :: k) :: cs) w) :=
        step_lone_go (by rw [stepG_op ho hw]; simp [stepG.apply, hrun, Frame.at])
      have hfin : ∀ v, ((bF C.fn).at ⟨tmps, []⟩ (.inRegion ops (j :: rest) :: k)).finish v = (bF C.fn).at ((⟨tmps, []⟩ : Act).put o.dst v) (.inRegion ops rest :: k) := by
        intro v; rw [Frame.finish_at, ho]; rfl
      refine Fin.steps (Steps.head henter (Steps.trans hsteps (.one (step_leave_returned hleave)))) ?_
      rw [hfin]
      exact fin v' h' cv w' g5 g6 g2 g3 g4
    unfold OpEval at hoe
    split at hoe
    · rename_i g args hopc
      exact callcase g _ (.inl ⟨args, hopc, rfl⟩) hoe
    · rename_i f args hopc
      obtain ⟨g, caps, hfe, hoe⟩ := hoe
      exact callcase g _ (.inr ⟨f, args, caps, hopc, hfe, rfl⟩) hoe
    · obtain ⟨cv, w', g1, g2, g3, g4⟩ := opVC_sound (ds := []) hop S.heap S.env hoe
      exact Fin.head (step_value ho hw g1) (fin v h cv w' rfl rfl g2 g3 g4)
  unfold InstrEval at hevl
  rcases hg with ⟨hg, hgi⟩ | ⟨j', b, s, hg, hs, hlt, hgi⟩
  · rw [hgi] at hevl
    exact run hevl (by simp [Region.wanted, hg])
  · rw [hgi] at hevl
    simp only at hevl
    have hlt' : s < tmps.size := by rw [S.size]; exact hlt
    have hE := S.env s
    have skip : Region.wanted o (yielded ops tmps) = false → v = .tup [] → Fin C w0 D0 R cs (lone ((bF C.fn).at ⟨tmps, []⟩ (.inRegion ops (j :: rest) :: k)) cs w) := by
      intro hw hvt
      subst hvt
      refine Fin.head (step_unwanted ho hw) ?_
      have := hafterS _ w undef (show Rep w (dom h) (.tup []) undef from ⟨[], rfl, rfl⟩) S.heap (.refl _ _) rfl
      have e' : (⟨tmps, []⟩ : Act).put o.dst undef = ⟨((⟨tmps, []⟩ : Act).put o.dst undef).tmps, []⟩ := by cases o.dst <;> rfl
      rw [e']
      exact hrest _ _ hcl' this
    rcases hevl with ⟨h1, h2⟩ | ⟨h1 | h1, h2⟩
    · rw [h1] at hE
      have hw := wanted_spec (tmps := tmps) hg hs hlt' (show tmps.getD s undef = .bool b from hE)
      exact run h2 (by rw [hw]; cases b <;> rfl)
    · rw [h1] at hE
      have hw := wanted_spec (tmps := tmps) hg hs hlt' (show tmps.getD s undef = .bool (!b) from hE)
      exact skip (by rw [hw]; cases b <;> rfl) h2
    · rw [h1] at hE
      obtain ⟨vs, hvv, _⟩ := hE
      have hw := wanted_spec (tmps := tmps) hg hs hlt' hvv
      exact skip (by rw [hw]; rfl) h2
end
end Go.AG
