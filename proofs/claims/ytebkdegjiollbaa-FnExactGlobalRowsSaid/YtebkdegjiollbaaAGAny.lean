/- Our own small layer, second form: regions whose order Go leaves open, with any operations: if the conditions told in the text's order hold, they are right for every order. No statement about the program is made here. -/
import Derived.Test.YtebkdegjiollbaaAGX
namespace Go.AG
open Go.RowKit
section
variable {C : Cx} {e : Env} {h : Heap} {w0 : World} {D0 : List Nat} {tmps : Array Value} {w : World} {R : AV → Heap → Prop} {cs : List Frame}

theorem kp_weak (e : Env) (ks : Option (List Nat)) (t : Nat) : eget (kp e ks) t = eget e t ∨ eget (kp e ks) t = .undef := by
  cases ks with
  | none => exact .inl rfl
  | some l => exact keep_get e l t
theorem known_den (hp : Pure C.P C.orc) {K : AV → Heap → Prop} {r : Res} (hk : (known C r).den C.P h K) : r.den C.P h K := by
  cases r <;> first | exact hk | skip
  case call g args =>
    simp only [known] at hk
    cases hv : C.orc false g args with
    | none => rw [hv] at hk; first | exact hk | exact hk.elim
    | some pv =>
      rw [hv] at hk
      exact (hp _ _ _ pv.1 pv.2 hv hk.1 h).mono fun v' h' ⟨e1, e2⟩ => by subst e1; subst e2; exact hk.2
  case callp g args =>
    simp only [known] at hk
    cases hv : C.orc true g args with
    | none => rw [hv] at hk; first | exact hk | exact hk.elim
    | some pv =>
      rw [hv] at hk
      exact (hp _ _ _ pv.1 pv.2 hv hk.1 h).mono fun v' h' ⟨e1, e2⟩ => by subst e1; subst e2; exact hk.2
theorem known_dend (hp : Pure C.P C.orc) {K : AV → Prop} {r : Res} (hk : (known C r).dend C.P h K) : r.dend C.P h K := by
  cases r <;> first | exact hk | skip
  case call g args =>
    simp only [known] at hk
    cases hv : C.orc false g args with
    | none => rw [hv] at hk; first | exact hk | exact hk.elim
    | some pv => rw [hv] at hk; exact ⟨pv.2, hp _ _ _ pv.1 pv.2 hv hk.1 h, hk.2⟩
  case callp g args =>
    simp only [known] at hk
    cases hv : C.orc true g args with
    | none => rw [hv] at hk; first | exact hk | exact hk.elim
    | some pv => rw [hv] at hk; exact ⟨pv.2, hp _ _ _ pv.1 pv.2 hv hk.1 h, hk.2⟩

/-! ## Drawn orders -/
def Weak (e e0 : Env) : Prop := ∀ t, eget e t = eget e0 t ∨ eget e t = .undef
def Agr (S : Option (List Nat)) (e e0 : Env) : Prop := ∀ t, (∀ l, S = some l → t ∈ l) → eget e t = eget e0 t
theorem Weak.put {e e0 : Env} (hw : Weak e e0) (d : Option Nat) (v : AV) : Weak (put e d v) (put e0 d v) := by
  cases d with
  | none => exact hw
  | some d => intro t; simp only [Go.AG.put, eget]; split; exact .inl rfl; exact hw t
theorem Agr.put {S : Option (List Nat)} {e e0 : Env} (ha : Agr S e e0) (d : Option Nat) (v : AV) : Agr (S.map (addK d)) (put e d v) (put e0 d v) := by
  cases d with
  | none => intro t ht; exact ha t fun l hl => by subst hl; exact ht l rfl
  | some d =>
    intro t ht
    simp only [Go.AG.put, eget]
    split
    · rfl
    · rename_i hdt
      exact ha t fun l hl => by
        subst hl
        rcases List.mem_cons.1 (ht (d :: l) rfl) with h | h
        · exact absurd h.symm hdt
        · exact h
theorem Weak.know {e e0 : Env} (hw : Weak e e0) {s : Nat} {v : AV} (hs : eget e0 s = v) : Weak ((s, v) :: e) e0 := by
  intro t
  simp only [eget]
  split
  · rename_i hst; subst hst; exact .inl hs.symm
  · exact hw t
theorem Agr.know {S : Option (List Nat)} {e e0 : Env} (ha : Agr S e e0) {s : Nat} {v : AV} (hs : eget e0 s = v) : Agr S ((s, v) :: e) e0 := by
  intro t ht
  simp only [eget]
  split
  · rename_i hst; subst hst; exact hs.symm
  · exact ha t ht
theorem keep_eq (e : Env) : ∀ (ts : List Nat) (t : Nat), t ∈ ts → eget (keep e ts) t = eget e t
  | s :: ts, t, ht => by
    simp only [keep, eget]
    by_cases hst : s = t
    · subst hst; rw [if_pos rfl]
    · rw [if_neg hst]
      rcases List.mem_cons.1 ht with h | h
      · exact absurd h.symm hst
      · exact keep_eq e ts t h
theorem Agr.sub {S : Option (List Nat)} {e e0 : Env} (ha : Agr S e e0) {ks : List Nat} (hs : ∀ l, S = some l → ∀ t ∈ ks, t ∈ l) : Agr (some ks) (keep e ks) e0 := by
  intro t ht
  have hm := ht ks rfl
  rw [keep_eq e ks t hm]
  exact ha t fun l hl => hs l hl t hm
theorem kOk_step {i : AI} {is : List AI} {S : Option (List Nat)} (hk : kOk (i :: is) S = true) : (∀ t ∈ i.er.uses, ∀ l, S = some l → t ∈ l) ∧
    ∀ {e e0 : Env} (v : AV), Weak e e0 → Agr S e e0 → ∃ S', kOk is S' = true ∧ Weak (kp (put e i.d v) i.ks) (put e0 i.d v) ∧ Agr S' (kp (put e i.d v) i.ks) (put e0 i.d v) := by
  simp only [kOk, Bool.and_eq_true] at hk
  obtain ⟨h1, h2⟩ := hk
  constructor
  · rintro t ht l rfl
    exact List.contains_iff_mem.1 (List.all_eq_true.1 h1 t ht)
  intro e e0 v hw ha
  cases hks : i.ks with
  | none =>
    rw [hks] at h2
    exact ⟨_, h2, hw.put _ _, ha.put _ _⟩
  | some ks =>
    rw [hks] at h2
    simp only [Bool.and_eq_true] at h2
    refine ⟨_, h2.2, fun t => ?_, ?_⟩
    · rcases keep_get (put e i.d v) ks t with g | g
      · rcases hw.put i.d v t with g' | g'
        · exact .inl (g.trans g')
        · exact .inr (g.trans g')
      · exact .inr g
    · refine (ha.put i.d v).sub fun l hl t ht => ?_
      cases hS : S with
      | none => rw [hS] at hl; cases hl
      | some S0 =>
        rw [hS] at hl
        cases hl
        rw [hS] at h2
        exact List.contains_iff_mem.1 (List.all_eq_true.1 h2.1 t ht)
theorem mvs_get {d : Nat} {v : AV} : ∀ (ms : List (Nat × Opd)) (e e' : Env), (ms.all (fun m => !(m.1 == d) && !(m.2.uses.contains d)) = true) → eget e' d = v → (∀ t, t ≠ d → eget e' t = eget e t) →
    eget (mvs e' ms) d = v ∧ ∀ t, t ≠ d → eget (mvs e' ms) t = eget (mvs e ms) t
  | [], _, _, _, h1, h2 => ⟨h1, h2⟩
  | m :: ms, e, e', hok, h1, h2 => by
    simp only [List.all_cons, Bool.and_eq_true, Bool.not_eq_true', beq_eq_false_iff_ne] at hok
    obtain ⟨⟨hm, hu⟩, hok⟩ := hok
    have hev : ev e' m.2 = ev e m.2 := ev_congr fun t ht => h2 t fun htd => by
      subst htd
      rw [List.contains_iff_mem.2 ht] at hu
      cases hu
    refine mvs_get ms _ _ (by simpa using hok) ?_ fun t ht => ?_
    · simp only [put, eget, if_neg hm]; exact h1
    · rw [hev]; simp only [put, eget]
      split
      · rfl
      · exact h2 t ht

/-! ## One operation, as a transformer -/
theorem Res.den_mono {P : Program} {K K' : AV → Heap → Prop} (hk : ∀ v h', K v h' → K' v h') : ∀ {r : Res}, r.den P h K → r.den P h K'
  | .val _, g => hk _ _ g
  | .vh _ _, g => hk _ _ g
  | .need _ _, g => ⟨g.1, Res.den_mono hk g.2⟩
  | .opt _ _, ⟨y, h1, h2⟩ => ⟨y, h1, Res.den_mono hk h2⟩
  | .two _ _, g => ⟨Res.den_mono hk g.1, Res.den_mono hk g.2⟩
  | .ite _ _ _, g => ⟨fun t => Res.den_mono hk (g.1 t), fun t => Res.den_mono hk (g.2 t)⟩
  | .fresh _ _, g => fun id hid => hk _ _ (g id hid)
  | .call _ _, g => ACalls.mono g hk
  | .callp _ _, g => ACalls.mono g hk
  | .no, g => g.elim
def Res.gives : Res → AV → Prop
  | .val v, u => u = v
  | .need p r, u => p ∧ r.gives u
  | .opt o f, u => ∃ y, o = some y ∧ (f y).gives u
  | .ite t r s, u => (t = true ∧ r.gives u) ∨ (t = false ∧ s.gives u)
  | _, _ => False
theorem Res.gives_den {P : Program} {K : AV → Heap → Prop} {u : AV} (hk : K u h) : ∀ {r : Res}, r.gives u → r.den P h K
  | .val _, g => by cases g; exact hk
  | .vh _ _, g => g.elim
  | .need _ _, g => ⟨g.1, Res.gives_den hk g.2⟩
  | .opt _ _, ⟨y, h1, h2⟩ => ⟨y, h1, Res.gives_den hk h2⟩
  | .two _ _, g => g.elim
  | .ite t _ _, g => by
    rcases g with ⟨rfl, g⟩ | ⟨rfl, g⟩
    · exact ⟨fun _ => Res.gives_den hk g, fun t => by cases t⟩
    · exact ⟨fun t => (by cases t), fun _ => Res.gives_den hk g⟩
  | .fresh _ _, g => g.elim
  | .call _ _, g => g.elim
  | .callp _ _, g => g.elim
  | .no, g => g.elim
theorem Res.den_gives {P : Program} {K : AV → Heap → Prop} : ∀ {r : Res}, r.plain → r.den P h K → ∃ u, r.gives u ∧ K u h
  | .val v, _, g => ⟨v, rfl, g⟩
  | .vh _ _, p, _ => p.elim
  | .need _ r, p, ⟨g1, g2⟩ => by obtain ⟨u, h1, h2⟩ := Res.den_gives (r := r) p g2; exact ⟨u, ⟨g1, h1⟩, h2⟩
  | .opt _ _, p, ⟨y, g1, g2⟩ => by obtain ⟨u, h1, h2⟩ := Res.den_gives (p y) g2; exact ⟨u, ⟨y, g1, h1⟩, h2⟩
  | .two _ _, p, _ => p.elim
  | .ite t _ _, p, g => by
    cases t
    · obtain ⟨u, h1, h2⟩ := Res.den_gives p.2 (g.2 rfl); exact ⟨u, .inr ⟨rfl, h1⟩, h2⟩
    · obtain ⟨u, h1, h2⟩ := Res.den_gives p.1 (g.1 rfl); exact ⟨u, .inl ⟨rfl, h1⟩, h2⟩
  | .fresh _ _, p, _ => p.elim
  | .call _ _, p, _ => p.elim
  | .callp _ _, p, _ => p.elim
  | .no, _, g => g.elim
theorem Res.gives_uniq {u v : AV} : ∀ {r : Res}, r.gives u → r.gives v → u = v
  | .val _, g, g' => g.trans g'.symm
  | .vh _ _, g, _ => g.elim
  | .need _ _, g, g' => Res.gives_uniq g.2 g'.2
  | .opt _ _, ⟨y, h1, h2⟩, ⟨y', h1', h2'⟩ => by rw [h1] at h1'; cases h1'; exact Res.gives_uniq h2 h2'
  | .two _ _, g, _ => g.elim
  | .ite _ _ _, g, g' => by
    rcases g with ⟨rfl, g⟩ | ⟨rfl, g⟩ <;> rcases g' with ⟨t, g'⟩ | ⟨t, g'⟩
    · exact Res.gives_uniq g g'
    · cases t
    · cases t
    · exact Res.gives_uniq g g'
  | .fresh _ _, g, _ => g.elim
  | .call _ _, g, _ => g.elim
  | .callp _ _, g, _ => g.elim
  | .no, g, _ => g.elim
theorem known_plain {r : Res} (hp : r.plain) : known C r = r := by
  cases r <;> first | rfl | exact hp.elim
theorem effR_congr {e' : Env} {wf : Bool} {op : SOp} (hx : ∀ t ∈ op.uses, eget e t = eget e' t) : effR h e wf op = effR h e' wf op := by
  cases op <;> simp only [SOp.uses, List.mem_append] at hx <;> simp only [effR]
  case pick c a b => rw [← ev_congr (x := c) fun t ht => hx t (.inl (.inl ht)), ← ev_congr (x := a) fun t ht => hx t (.inl (.inr ht)), ← ev_congr (x := b) fun t ht => hx t (.inr ht)]
  case bin op x y => rw [← ev_congr (x := x) fun t ht => hx t (.inl ht), ← ev_congr (x := y) fun t ht => hx t (.inr ht)]
  case beq n x y => rw [← ev_congr (x := x) fun t ht => hx t (.inl ht), ← ev_congr (x := y) fun t ht => hx t (.inr ht)]
  case eqs n s x y => rw [← ev_congr (x := x) fun t ht => hx t (.inl ht), ← ev_congr (x := y) fun t ht => hx t (.inr ht)]
  case idxA s x y => rw [← ev_congr (x := x) fun t ht => hx t (.inl ht), ← ev_congr (x := y) fun t ht => hx t (.inr ht)]
  case idx x y => rw [← ev_congr (x := x) fun t ht => hx t (.inl ht), ← ev_congr (x := y) fun t ht => hx t (.inr ht)]
  case slice s x lo hi mx =>
    rw [← ev_congr (x := x) fun t ht => hx t (.inl (.inl (.inl ht))), ← bnd_congr (x := lo) fun t ht => hx t (.inl (.inl (.inr ht))), ← bnd_congr (x := hi) fun t ht => hx t (.inl (.inr ht)), ← bnd_congr (x := mx) fun t ht => hx t (.inr ht)]
  case sslice x lo hi =>
    rw [← ev_congr (x := x) fun t ht => hx t (.inl (.inl ht)), ← bnd_congr (x := lo) fun t ht => hx t (.inl (.inr ht)), ← bnd_congr (x := hi) fun t ht => hx t (.inr ht)]
  case mkfn g xs => rw [← evs_congr hx]
  case mx b xs => rw [← evs_congr hx]
  case bsl m s xs => cases m <;> simp only [effR] <;> rw [← evs_congr hx]
  case build z ps => simp only [fill_congr hx]
  case extract x i => rw [← ev_congr (x := x) hx]
  case mv x => rw [← ev_congr (x := x) hx]
  case eqn kd n x => rw [← ev_congr (x := x) hx]
  case un op x => rw [← ev_congr (x := x) hx]
  case conv kd x => rw [← ev_congr (x := x) hx]
  case fieldA o x => rw [← ev_congr (x := x) hx]
  case field o n ag x => rw [← ev_congr (x := x) hx]
  case load n ag x => rw [← ev_congr (x := x) hx]
  case nilchk x => rw [← ev_congr (x := x) hx]
  case len x => rw [← ev_congr (x := x) hx]
  case slen x => rw [← ev_congr (x := x) hx]
  case bstr x => rw [← ev_congr (x := x) hx]
  case capk x => rw [← ev_congr (x := x) hx]
  case box m s x => cases m <;> simp only [effR] <;> rw [← ev_congr (x := x) hx]
  case alloc m s x => cases m <;> rfl
  case mksl sz bytes z len cap => rw [← ev_congr (x := len) fun t ht => hx t (.inl ht), ← ev_congr (x := cap) fun t ht => hx t (.inr ht)]
  case store n p x => rw [← ev_congr (x := p) fun t ht => hx t (.inl ht), ← ev_congr (x := x) fun t ht => hx t (.inr ht)]
  case clear sz z x => rw [← ev_congr (x := x) hx]
  case appendz sz bytes z s x => rw [← ev_congr (x := s) fun t ht => hx t (.inl ht), ← ev_congr (x := x) fun t ht => hx t (.inr ht)]
  case append sz bytes s x => rw [← ev_congr (x := s) fun t ht => hx t (.inl ht), ← ev_congr (x := x) fun t ht => hx t (.inr ht)]
  case call g xs => rw [← evs_congr hx]
  case callv f xs => rw [← ev_congr (x := f) fun t ht => hx t (.inl ht), ← evs_congr (xs := xs) fun t ht => hx t (.inr ht)]
theorem effR_pure {wf : Bool} {op : SOp} (hp : isPure op = true) : (effR h e wf op).plain ∧ ∀ h', effR h' e wf op = effR h e wf op := by
  have key : effR h e wf op = opR h e wf op → isCall op = false → (effR h e wf op).plain := fun he hc => by rw [he]; exact opR_plain hc
  cases op <;> simp only [isPure, reduceCtorEq, Bool.not_eq_true'] at hp
  case box m s x => subst hp; exact ⟨trivial, fun _ => rfl⟩
  case alloc m s x => subst hp; exact ⟨trivial, fun _ => rfl⟩
  case bsl m s x => subst hp; exact ⟨trivial, fun _ => rfl⟩
  all_goals exact ⟨key rfl rfl, fun _ => rfl⟩
def kR (C : Cx) (i : AI) (e : Env) (h : Heap) : Res := known C (effR h e i.w i.op)
/-- A note of those calls that must be known. -/
def wOk (st : Nat) (i : AI) : Prop := (cK st = true → callK0 i.op = true → i.w = true) ∧ (2 ≤ st → isLoad i.op = true → i.w = true)
theorem kR_det {st : Nat} {i : AI} (hd : detK st i.er = true) (hw : wOk st i) : (kR C i e h).plain ∧ ∀ h', kR C i e h' = kR C i e h := by
  unfold detK at hd
  simp only [Bool.or_eq_true, Bool.and_eq_true, decide_eq_true_eq] at hd
  have hP : ∀ {o : Option (Prop × AV)}, (callP o).plain := fun {o} => by cases o <;> trivial
  rcases hd with (hd | ⟨h1, h2⟩) | ⟨h1, h2⟩
  · have hd : isPure i.op = true := hd
    obtain ⟨g1, g2⟩ := effR_pure (h := h) (e := e) (wf := i.w) hd
    unfold kR
    exact ⟨by rw [known_plain g1]; exact g1, fun h' => by rw [g2 h']⟩
  · have h2 : callK0 i.op = true := h2
    have hwt := hw.1 h1 h2
    unfold kR
    rw [hwt]
    cases hop : i.op <;> rw [hop] at h2 <;> simp only [callK0, reduceCtorEq] at h2
    · exact ⟨hP, fun _ => rfl⟩
    · rename_i f xs
      refine ⟨?_, fun _ => rfl⟩
      simp only [effR]
      cases ev e f <;> first | exact hP | exact trivial
  · have h2 : isLoad i.op = true := h2
    have hwt := hw.2 h1 h2
    unfold kR
    rw [hwt]
    cases hop : i.op <;> rw [hop] at h2 <;> simp only [isLoad, reduceCtorEq] at h2
    rename_i n ag x
    have hd : ∀ h', effR h' e true (.load n ag x) = .opt (loadC [] true (ev e x)) fun cs => loadR n ag cs := fun h' => by
      simp only [effR]
      congr 1
      cases ev e x <;> rfl
    refine ⟨?_, fun h' => by rw [hd, hd]⟩
    have hpl : (Res.opt (loadC [] true (ev e x)) fun cs => loadR n ag cs).plain := fun cs => by unfold loadR; cases ag <;> cases cs <;> trivial
    rw [hd, known_plain hpl]
    exact hpl
def wp (C : Cx) (i : AI) (e : Env) (h : Heap) (K : Env → Heap → Prop) : Prop := match i.g with
  | none => (kR C i e h).den C.P h fun v h' => K (put e i.d v) h'
  | some (s, b) => (eget e s = .bool b ∧ (kR C i e h).den C.P h fun v h' => K (put e i.d v) h') ∨ ((eget e s = .bool (!b) ∨ eget e s = .tup []) ∧ K (put e i.d (.tup [])) h)
def TV (C : Cx) : List AI → Env → Heap → (Env → Heap → Prop) → Prop
  | [], e, h, K => K e h
  | i :: is, e, h, K => wp C i e h fun e' h' => TV C is e' h' K
def GV (C : Cx) (i : AI) (e : Env) (h : Heap) (v : AV) : Prop := match i.g with
  | none => (kR C i e h).gives v
  | some (s, b) => (eget e s = .bool b ∧ (kR C i e h).gives v) ∨ ((eget e s = .bool (!b) ∨ eget e s = .tup []) ∧ v = .tup [])
def KExt (K : Env → Heap → Prop) : Prop := ∀ e e' h, (∀ t, eget e t = eget e' t) → K e h → K e' h
theorem GV.wp {i : AI} {v : AV} {K : Env → Heap → Prop} (g : GV C i e h v) (hk : K (put e i.d v) h) : wp C i e h K := by
  unfold GV at g; unfold Go.AG.wp
  split at g
  · exact Res.gives_den hk g
  · rcases g with ⟨g1, g2⟩ | ⟨g1, rfl⟩
    · exact .inl ⟨g1, Res.gives_den hk g2⟩
    · exact .inr ⟨g1, hk⟩
theorem wp.gv {i : AI} {K : Env → Heap → Prop} (hp : (kR C i e h).plain) (g : wp C i e h K) : ∃ v, GV C i e h v ∧ K (put e i.d v) h := by
  unfold wp at g; unfold GV
  split at g
  · exact Res.den_gives hp g
  · rcases g with ⟨g1, g2⟩ | ⟨g1, g2⟩
    · obtain ⟨u, h1, h2⟩ := Res.den_gives hp g2
      exact ⟨u, .inl ⟨g1, h1⟩, h2⟩
    · exact ⟨_, .inr ⟨g1, rfl⟩, g2⟩
theorem GV.uniq {i : AI} {u v : AV} (g : GV C i e h u) (g' : GV C i e h v) : u = v := by
  unfold GV at g g'
  cases hg : i.g with
  | none => rw [hg] at g g'; exact Res.gives_uniq g g'
  | some sb =>
    obtain ⟨s, b⟩ := sb
    rw [hg] at g g'
    rcases g with ⟨g1, g2⟩ | ⟨g1, rfl⟩ <;> rcases g' with ⟨g1', g2'⟩ | ⟨g1', rfl⟩
    · exact Res.gives_uniq g2 g2'
    · rw [g1] at g1'; rcases g1' with h | h <;> simp at h
    · rw [g1'] at g1; rcases g1 with h | h <;> simp at h
    · rfl
theorem wp_none {i : AI} (hg : i.g = none) {K : Env → Heap → Prop} : wp C i e h K ↔ (kR C i e h).den C.P h fun v h' => K (put e i.d v) h' := by
  unfold wp; rw [hg]
theorem AI.uses_op {i : AI} {t : Nat} (ht : t ∈ i.op.uses) : t ∈ i.er.uses := List.mem_append_left _ ht
theorem AI.uses_g {i : AI} {s : Nat} {b : Bool} (hg : i.g = some (s, b)) : s ∈ i.er.uses := by
  unfold SI.uses AI.er; rw [hg]; simp
theorem kR_congr {e' : Env} {i : AI} (hx : ∀ t ∈ i.er.uses, eget e t = eget e' t) : kR C i e h = kR C i e' h := by
  unfold kR; rw [effR_congr fun t ht => hx t (AI.uses_op ht)]
theorem GV.congr {e' : Env} {i : AI} {v : AV} (hx : ∀ t ∈ i.er.uses, eget e t = eget e' t) (g : GV C i e h v) : GV C i e' h v := by
  unfold GV at g ⊢
  rw [← kR_congr hx]
  split at g
  · exact g
  · rename_i s b hg
    rw [← hx s (AI.uses_g hg)]
    exact g
theorem wp.congr {e' : Env} {i : AI} {K K' : Env → Heap → Prop} (hx : ∀ t ∈ i.er.uses, eget e t = eget e' t) (hk : ∀ v h', K (put e i.d v) h' → K' (put e' i.d v) h') (g : wp C i e h K) : wp C i e' h K' := by
  unfold wp at g ⊢
  rw [← kR_congr hx]
  split at g
  · exact Res.den_mono hk g
  · rename_i s b hg
    rw [← hx s (AI.uses_g hg)]
    rcases g with ⟨g1, g2⟩ | ⟨g1, g2⟩
    · exact .inl ⟨g1, Res.den_mono hk g2⟩
    · exact .inr ⟨g1, hk _ _ g2⟩
theorem GV.heap {st : Nat} {i : AI} {v : AV} (hd : detK st i.er = true) (hw : wOk st i) (g : GV C i e h v) (h' : Heap) : GV C i e h' v := by
  unfold GV at g ⊢
  rw [(kR_det hd hw).2 h']
  exact g
theorem TV.ext : ∀ {is : List AI} {e e' : Env} {h : Heap} {K : Env → Heap → Prop}, KExt K → (∀ t, eget e t = eget e' t) → TV C is e h K → TV C is e' h K
  | [], e, e', h, K, hK, he, g => hK e e' h he g
  | _ :: _, _, _, _, _, hK, he, g => wp.congr (fun t _ => he t) (fun _ _ g' => TV.ext hK (put_agree he) g') g
theorem put_off {d : Option Nat} {u : AV} {t : Nat} (ht : d ≠ some t) : eget (put e d u) t = eget e t := by
  cases d with
  | none => rfl
  | some d => simp only [put, eget]; rw [if_neg fun hh => ht (by rw [hh])]
theorem put_comm {d d' : Option Nat} {u v : AV} (hd : ∀ x, d = some x → d' ≠ some x) (t : Nat) : eget (put (put e d u) d' v) t = eget (put (put e d' v) d u) t := by
  by_cases h1 : d = some t
  · have h2 := hd t h1
    rw [put_off h2]; subst h1; simp [put, eget]
  · rw [put_off (d := d) h1]
    by_cases h2 : d' = some t
    · subst h2; simp [put, eget]
    · rw [put_off h2, put_off h2, put_off h1]

/-! ## Exchanging two operations -/
structure Disj (p o : AI) : Prop where
  a : ∀ t ∈ o.er.uses, p.d ≠ some t
  b : ∀ x, p.d = some x → o.d ≠ some x
  c : ∀ t ∈ p.er.uses, o.d ≠ some t
theorem swapK_spec {st : Nat} {md : Bool} {p o : AI} (hs : swapK st md p.er o.er = true) : Disj p o ∧ (detK st p.er = true ∨ detK st o.er = true ∨ (isLoad p.op = true ∧ isLoad o.op = true) ∨ (isAlloc p.op = true ∧ isLoad o.op = true ∧ p.g = none) ∨ (isLoad p.op = true ∧ isAlloc o.op = true ∧ o.g = none) ∨ (md = true ∧ isAlloc p.op = true ∧ isAlloc o.op = true ∧ p.g = none ∧ o.g = none)) := by
  unfold swapK at hs
  simp only [Bool.and_eq_true, Bool.or_eq_true, Option.isNone_iff_eq_none] at hs
  obtain ⟨⟨h1, h2⟩, h3⟩ := hs
  refine ⟨⟨fun t ht hd => ?_, fun x hd => ?_, fun t ht hd => ?_⟩, ?_⟩
  · have hd : p.er.dst = some t := hd
    rw [hd] at h1
    simp only [Bool.and_eq_true, Bool.not_eq_true'] at h1
    rw [List.contains_iff_mem.2 ht] at h1; cases h1.1
  · have hd : p.er.dst = some x := hd
    rw [hd] at h1
    simp only [Bool.and_eq_true, Bool.not_eq_true', decide_eq_false_iff_not] at h1
    exact h1.2
  · have hd : o.er.dst = some t := hd
    rw [hd] at h2
    simp only [Bool.not_eq_true'] at h2
    rw [List.contains_iff_mem.2 ht] at h2; cases h2
  · rcases h3 with ((((h | h) | h) | h) | h) | h
    · exact .inl h
    · exact .inr (.inl h)
    · exact .inr (.inr (.inl h))
    · exact .inr (.inr (.inr (.inl ⟨h.1.1, h.1.2, h.2⟩)))
    · exact .inr (.inr (.inr (.inr (.inl ⟨h.1.1, h.1.2, h.2⟩))))
    · exact .inr (.inr (.inr (.inr (.inr ⟨h.1.1.1.1, h.1.1.1.2, h.1.1.2, h.1.2, h.2⟩))))
/-- The same memory, told in another order. -/
structure HP (h h' : Heap) : Prop where
  get : ∀ id, hget h id = hget h' id
  mem : ∀ id, id ∈ dom h ↔ id ∈ dom h'
  nd : (dom h').Nodup → (dom h).Nodup
theorem HP.cons {h h' : Heap} (k : HP h h') (id : Nat) (b : Blk) : HP ((id, b) :: h) ((id, b) :: h') :=
  ⟨fun i => by simp only [hget]; rw [k.get], fun i => by simp only [dom, List.map_cons, List.mem_cons]; have := k.mem i; simp only [dom] at this; rw [this], fun nd => by
    have nd : (id :: dom h').Nodup := nd
    rw [List.nodup_cons] at nd
    exact (List.nodup_cons (a := id) (l := dom h)).2 ⟨fun hm => nd.1 ((k.mem id).1 hm), k.nd nd.2⟩⟩
theorem HP.swap {h : Heap} {i j : Nat} (hne : i ≠ j) (b c : Blk) : HP ((i, b) :: (j, c) :: h) ((j, c) :: (i, b) :: h) :=
  ⟨fun k => by
    simp only [hget]
    by_cases h1 : i = k
    · subst h1; rw [if_pos rfl, if_neg (Ne.symm hne), if_pos rfl]
    · rw [if_neg h1, if_neg h1], fun k => by simp only [dom, List.map_cons, List.mem_cons]; exact ⟨fun h => by rcases h with h | h | h <;> simp [h], fun h => by rcases h with h | h | h <;> simp [h]⟩, fun nd => by
    have nd : (j :: i :: dom h).Nodup := nd
    show (i :: j :: dom h).Nodup
    rw [List.nodup_cons, List.nodup_cons] at nd ⊢
    obtain ⟨n1, n2, n3⟩ := nd
    exact ⟨fun hm => by rcases List.mem_cons.1 hm with hm | hm; exact hne hm; exact n2 hm, fun hm => n1 (List.mem_cons_of_mem _ hm), n3⟩⟩
def KHP (K : Env → Heap → Prop) : Prop := ∀ e h h', HP h h' → K e h → K e h'
theorem load_R {i : AI} (hl : isLoad i.op = true) : ∃ n ag x, i.op = .load n ag x ∧ ∀ e h, kR C i e h = .opt (loadC h i.w (ev e x)) fun cs => loadR n ag cs := by
  cases hop : i.op <;> rw [hop] at hl <;> simp only [isLoad, reduceCtorEq] at hl
  exact ⟨_, _, _, rfl, fun e h => by unfold kR; rw [hop]; rfl⟩
theorem load_plain {i : AI} (hl : isLoad i.op = true) : (kR C i e h).plain := by
  obtain ⟨n, ag, x, _, hR⟩ := load_R (C := C) hl
  rw [hR]
  exact fun cs => by unfold loadR; cases ag <;> cases cs <;> trivial
theorem cellsAt_more {x : AV} {l : List AV} {id : Nat} {b : Blk} (hc : cellsAt h x = some l) (hid : id ∉ dom h) : cellsAt ((id, b) :: h) x = some l := by
  cases x <;> simp only [cellsAt, reduceCtorEq] at hc ⊢
  · rename_i i sz j o
    simp only [hget]
    by_cases hi : id = i
    · subst hi
      cases hg : hget h id with
      | none => rw [hg] at hc; cases hc
      | some blk => exact absurd (List.mem_map.2 ⟨_, hget_mem hg, rfl⟩) hid
    · rw [if_neg hi]; exact hc
  · exact hc
theorem cellsAt_back (x : AV) : ∃ id0, ∀ (h : Heap) (id : Nat) (b : Blk), id ≠ id0 → cellsAt ((id, b) :: h) x = cellsAt h x := by
  cases x <;> first | exact ⟨0, fun _ _ _ _ => rfl⟩ | skip
  rename_i i sz j o
  exact ⟨i, fun h id b hne => by simp only [cellsAt, hget]; rw [if_neg hne]⟩
theorem loadC_more {w : Bool} {x : AV} {l : List AV} {id : Nat} {b : Blk} (hc : loadC h w x = some l) (hid : id ∉ dom h) : loadC ((id, b) :: h) w x = some l := by
  cases w
  · exact cellsAt_more hc hid
  · cases x <;> exact hc
theorem loadC_back (w : Bool) (x : AV) : ∃ id0, ∀ (h : Heap) (id : Nat) (b : Blk), id ≠ id0 → loadC ((id, b) :: h) w x = loadC h w x := by
  cases w
  · exact cellsAt_back x
  · exact ⟨0, fun _ _ _ _ => by cases x <;> rfl⟩
theorem GV.more {i : AI} (hl : isLoad i.op = true) {v : AV} {id : Nat} {b : Blk} (hid : id ∉ dom h) (g : GV C i e h v) : GV C i e ((id, b) :: h) v := by
  obtain ⟨n, ag, x, _, hR⟩ := load_R (C := C) hl
  unfold GV at g ⊢
  rw [hR] at g ⊢
  have key : (Res.opt (loadC h i.w (ev e x)) fun cs => loadR n ag cs).gives v → (Res.opt (loadC ((id, b) :: h) i.w (ev e x)) fun cs => loadR n ag cs).gives v := fun ⟨y, h1, h2⟩ => ⟨y, loadC_more h1 hid, h2⟩
  split at g
  · exact key g
  · exact g.imp (fun g => ⟨g.1, key g.2⟩) fun g => g
theorem GV.back {i : AI} (hl : isLoad i.op = true) (e : Env) : ∃ id0, ∀ (h : Heap) (v : AV) (id : Nat) (b : Blk), id ≠ id0 → GV C i e ((id, b) :: h) v → GV C i e h v := by
  obtain ⟨n, ag, x, _, hR⟩ := load_R (C := C) hl
  obtain ⟨id0, h0⟩ := loadC_back i.w (ev e x)
  refine ⟨id0, fun h v id b hne g => ?_⟩
  unfold GV at g ⊢
  rw [hR] at g ⊢
  rw [h0 h id b hne] at g
  exact g
theorem alloc_R {i : AI} (ha : isAlloc i.op = true) (e : Env) : ∃ (p : Prop) (f : Nat → AV) (b : Blk), ∀ (h : Heap) (K : AV → Heap → Prop), (kR C i e h).den C.P h K ↔ (p ∧ ∀ id, id ∉ dom h → K (f id) ((id, b) :: h)) := by
  unfold kR
  cases hop : i.op <;> rw [hop] at ha <;> simp only [isAlloc, reduceCtorEq] at ha
  case box m sz x =>
    subst ha
    exact ⟨storable (ev e x) = true ∧ (cellsOf (ev e x)).length = sz, fun id => .ptr id sz 0 0, ⟨sz, [ev e x]⟩, fun h K => ⟨fun ⟨a, b, c⟩ => ⟨⟨a, b⟩, c⟩, fun ⟨⟨a, b⟩, c⟩ => ⟨a, b, c⟩⟩⟩
  case alloc m sz z =>
    subst ha
    exact ⟨storable z = true ∧ (cellsOf z).length = sz, fun id => .ptr id sz 0 0, ⟨sz, [z]⟩, fun h K => ⟨fun ⟨a, b, c⟩ => ⟨⟨a, b⟩, c⟩, fun ⟨⟨a, b⟩, c⟩ => ⟨a, b, c⟩⟩⟩
  case bsl m sz parts =>
    subst ha
    exact ⟨∀ x ∈ parts.map (ev e), storable x = true ∧ (cellsOf x).length = sz, fun id => .sl id sz 0 parts.length (some parts.length), ⟨sz, parts.map (ev e)⟩, fun h K => ⟨fun g => g, fun g => g⟩⟩
  case mksl sz bytes z len cap =>
    simp only [effR]
    have no : ∀ (x y : AV), (∀ h : Heap, known C (mkslR h sz bytes z x y) = .no) → ∃ (p : Prop) (f : Nat → AV) (b : Blk), ∀ (h : Heap) (K : AV → Heap → Prop), (known C (mkslR h sz bytes z x y)).den C.P h K ↔ (p ∧ ∀ id, id ∉ dom h → K (f id) ((id, b) :: h)) :=
      fun x y hn => ⟨False, fun _ => .undef, ⟨0, []⟩, fun h K => by rw [hn]; exact ⟨fun g => g.elim, fun g => g.1.elim⟩⟩
    generalize ev e len = x
    generalize ev e cap = y
    cases x <;> first | exact no _ _ fun _ => rfl | skip
    rename_i kd l
    cases y <;> first | (cases kd <;> exact no _ _ fun _ => rfl) | skip
    rename_i kd' c
    cases kd <;> first | exact no _ _ fun _ => rfl | skip
    cases kd' <;> first | exact no _ _ fun _ => rfl | skip
    exact ⟨0 ≤ l ∧ l ≤ c ∧ bytes * c ≤ 281474976710656 ∧ storable z = true ∧ (cellsOf z).length = sz, fun id => .sl id sz 0 l.toNat (some c.toNat), ⟨sz, List.replicate c.toNat z⟩,
      fun h K => ⟨fun ⟨a, b, c, d, e, f⟩ => ⟨⟨a, b, c, d, e⟩, f⟩, fun ⟨⟨a, b, c, d, e⟩, f⟩ => ⟨a, b, c, d, e, f⟩⟩⟩
theorem fresh_nat (l : List Nat) : ∃ n, n ∉ l := by
  refine ⟨l.foldr max 0 + 1, fun hm => ?_⟩
  have : ∀ (l : List Nat) (x : Nat), x ∈ l → x ≤ l.foldr max 0 := by
    intro l
    induction l with
    | nil => simp
    | cons a l ih =>
      intro x hx
      rcases List.mem_cons.1 hx with rfl | hx
      · simp only [List.foldr_cons]; omega
      · have := ih x hx; simp only [List.foldr_cons]; omega
  have := this l _ hm
  omega
theorem cellsAt_hp {h' : Heap} (k : HP h h') (x : AV) : cellsAt h x = cellsAt h' x := by
  cases x <;> simp only [cellsAt]
  rw [k.get]
theorem loadC_hp {h h' : Heap} (k : HP h h') {w : Bool} {x : AV} : loadC h w x = loadC h' w x := by
  cases w
  · exact cellsAt_hp k _
  · cases x <;> rfl
theorem wp.hp {st : Nat} {i : AI} (hm : mildK st i.er = true) (hw : wOk st i) {K : Env → Heap → Prop} (hK : KHP K) : KHP (wp C i · · K) := by
  intro e h h' k g
  unfold mildK at hm
  simp only [Bool.or_eq_true, Bool.and_eq_true, Option.isNone_iff_eq_none] at hm
  rcases hm with (hm | hm) | ⟨hm, hg⟩
  · obtain ⟨u, g1, g2⟩ := wp.gv (kR_det hm hw).1 g
    exact (g1.heap hm hw h').wp (hK _ _ _ k g2)
  · have hm : isLoad i.op = true := hm
    obtain ⟨u, g1, g2⟩ := wp.gv (load_plain hm) g
    refine GV.wp (v := u) ?_ (hK _ _ _ k g2)
    obtain ⟨n, ag, x, _, hR⟩ := load_R (C := C) hm
    unfold GV at g1 ⊢
    rw [hR] at g1 ⊢
    rw [← loadC_hp k]
    exact g1
  · have hm : isAlloc i.op = true := hm
    have hg : i.g = none := hg
    obtain ⟨p, f, b, hA⟩ := alloc_R (C := C) hm e
    obtain ⟨g1, g2⟩ := (hA h _).1 ((wp_none hg).1 g)
    exact (wp_none hg).2 ((hA h' _).2 ⟨g1, fun id hid => hK _ _ _ (k.cons id b) (g2 id fun hm => hid ((k.mem id).1 hm))⟩)
theorem TV.hp {st : Nat} {K : Env → Heap → Prop} (hK : KHP K) : ∀ {is : List AI}, (∀ i ∈ is, mildK st i.er = true ∧ wOk st i) → KHP (TV C is · · K)
  | [], _ => hK
  | i :: is, hm => fun e h h' k g => wp.hp (C := C) (hm i (List.mem_cons_self ..)).1 (hm i (List.mem_cons_self ..)).2 (K := fun e h => TV C is e h K) (TV.hp hK fun i hi => hm i (List.mem_cons_of_mem _ hi)) e h h' k g
theorem swap1 {st : Nat} {md : Bool} {i j : AI} (hs : swapK st md i.er j.er = true) (hwi : wOk st i) (hnj : detK st j.er = false) {K : Env → Heap → Prop} (hK : KExt K) (hKP : md = true → KHP K) (g : wp C i e h fun e1 h1 => wp C j e1 h1 K) : wp C j e h fun e2 h2 => wp C i e2 h2 K := by
  obtain ⟨D, hc⟩ := swapK_spec hs
  have ag1 : ∀ u, ∀ t ∈ j.er.uses, eget (put e i.d u) t = eget e t := fun u t ht => put_off (D.a t ht)
  have ag2 : ∀ u, ∀ t ∈ i.er.uses, eget e t = eget (put e j.d u) t := fun u t ht => (put_off (D.c t ht)).symm
  have fin : ∀ u v h', K (put (put e i.d u) j.d v) h' → K (put (put e j.d v) i.d u) h' := fun u v h' g => hK _ _ _ (put_comm D.b) g
  rcases hc with hc | hc | ⟨h1, h2⟩ | ⟨h1, h2, h3⟩ | ⟨h1, h2, h3⟩ | ⟨hmd, h1, h2, h3, h4⟩
  · obtain ⟨u, g1, g2⟩ := g.gv (kR_det hc hwi).1
    exact wp.congr (ag1 u) (fun v h' g3 => ((g1.congr (ag2 v)).heap hc hwi h').wp (fin u v h' g3)) g2
  · rw [hnj] at hc; cases hc
  · obtain ⟨u, g1, g2⟩ := g.gv (load_plain h1)
    obtain ⟨v, g3, g4⟩ := g2.gv (load_plain h2)
    exact (g3.congr (ag1 u)).wp ((g1.congr (ag2 v)).wp (fin u v _ g4))
  · obtain ⟨p, f, b, hA⟩ := alloc_R (C := C) h1 e
    obtain ⟨g1, g2⟩ := (hA h _).1 ((wp_none h3).1 g)
    obtain ⟨id0, hb⟩ := GV.back (C := C) h2 e
    obtain ⟨id1, hid⟩ := fresh_nat (id0 :: dom h)
    have hid0 : id1 ≠ id0 := fun hh => hid (by rw [hh]; exact List.mem_cons_self ..)
    have hid1 : id1 ∉ dom h := fun hh => hid (List.mem_cons_of_mem _ hh)
    obtain ⟨v, g3, _⟩ := (g2 id1 hid1).gv (load_plain h2)
    have g3 := hb h v id1 b hid0 (g3.congr (ag1 _))
    refine g3.wp ?_
    have hR : kR C i (put e j.d v) h = kR C i e h := (kR_congr (ag2 v)).symm
    refine (wp_none h3).2 ?_
    rw [hR]
    refine (hA h _).2 ⟨g1, fun id hid => ?_⟩
    obtain ⟨v', g4, g5⟩ := (g2 id hid).gv (load_plain h2)
    have : v' = v := (g4.congr (ag1 _)).uniq (g3.more h2 hid)
    subst this
    exact fin _ _ _ g5
  · obtain ⟨u, g1, g2⟩ := g.gv (load_plain h1)
    obtain ⟨p, f, b, hA⟩ := alloc_R (C := C) h2 e
    have g2 := (wp_none h3).1 g2
    rw [kR_congr (ag1 u)] at g2
    obtain ⟨g3, g4⟩ := (hA h _).1 g2
    refine (wp_none h3).2 ((hA h _).2 ⟨g3, fun id hid => ?_⟩)
    exact ((g1.more h1 hid).congr (ag2 _)).wp (fin _ _ _ (g4 id hid))
  · obtain ⟨p, f, b, hA⟩ := alloc_R (C := C) h1 e
    obtain ⟨p', f', b', hA'⟩ := alloc_R (C := C) h2 e
    obtain ⟨g1, g2⟩ := (hA h _).1 ((wp_none h3).1 g)
    have g3 : ∀ id, id ∉ dom h → p' ∧ ∀ id', id' ∉ dom ((id, b) :: h) → K (put (put e i.d (f id)) j.d (f' id')) ((id', b') :: (id, b) :: h) := by
      intro id hid
      have := (wp_none h4).1 (g2 id hid)
      rw [kR_congr (ag1 _)] at this
      exact (hA' _ _).1 this
    obtain ⟨id1, hid1⟩ := fresh_nat (dom h)
    refine (wp_none h4).2 ((hA' h _).2 ⟨(g3 id1 hid1).1, fun id' hid' => ?_⟩)
    refine (wp_none h3).2 ?_
    rw [← kR_congr (ag2 (f' id'))]
    refine (hA _ _).2 ⟨g1, fun id hid => ?_⟩
    have hne : id' ≠ id := fun hh => hid (by rw [← hh]; exact List.mem_cons_self ..)
    have hidh : id ∉ dom h := fun hh => hid (List.mem_cons_of_mem _ hh)
    exact hKP hmd _ _ _ (HP.swap hne b' b) (fin _ _ _ ((g3 id hidh).2 id' fun hm => by
      rcases List.mem_cons.1 hm with hm | hm
      · exact hne hm
      · exact hid' hm))
theorem front_nd {st : Nat} {md : Bool} {j : AI} {post : List AI} (hnj : detK st j.er = false) {K : Env → Heap → Prop} (hK : KExt K) (hKP : KHP K) (hpost : md = true → ∀ i ∈ post, mildK st i.er = true ∧ wOk st i) : ∀ (pre : List AI) (e : Env) (h : Heap), (∀ i ∈ pre, swapK st md i.er j.er = true ∧ wOk st i ∧ (md = true → mildK st i.er = true)) → TV C (pre ++ j :: post) e h K → wp C j e h fun e' h' => TV C (pre ++ post) e' h' K
  | [], _, _, _, g => g
  | i :: pre, e, h, hp, g => by
    have g : wp C i e h fun e' h' => TV C (pre ++ j :: post) e' h' K := g
    have hi := hp i (List.mem_cons_self ..)
    exact swap1 hi.1 hi.2.1 hnj (K := fun e' h' => TV C (pre ++ post) e' h' K) (fun _ _ _ he g => g.ext hK he) (fun hmd => TV.hp hKP fun i' hi' => by
      rcases List.mem_append.1 hi' with hi' | hi'
      · exact ⟨(hp i' (List.mem_cons_of_mem _ hi')).2.2 hmd, (hp i' (List.mem_cons_of_mem _ hi')).2.1⟩
      · exact hpost hmd i' hi') (wp.congr (fun _ _ => rfl) (fun v h' g' => front_nd hnj hK hKP hpost pre _ _ (fun i hi => hp i (List.mem_cons_of_mem _ hi)) g') g)

/-! ## Carrying it out -/
theorem wp_ex (hp : Pure C.P C.orc) {ops : Array Oper} {o : Oper} {i : AI} (hc : cInstr C.P C.M C.nt ops o = some i.er) (S : SRel C e h w0 D0 tmps w) {K : Env → Heap → Prop} (g : wp C i e h K) : ∃ v h' tmps' w', K (put e i.d v) h' ∧ SRel C (put e i.d v) h' w0 D0 tmps' w' := by
  obtain ⟨hd, hdst, hop, _⟩ := cInstr_spec hc
  have hd : dstOk C.nt i.d = true := by have : i.er.dst = o.dst := hdst; rw [show i.d = o.dst from this]; exact hd
  have run : ((kR C i e h).den C.P h fun v h' => K (put e i.d v) h') → ∃ v h' tmps' w', K (put e i.d v) h' ∧ SRel C (put e i.d v) h' w0 D0 tmps' w' := by
    intro g
    have g := known_den hp g
    have call : ∀ (f : FuncId) (args : List AV), ((∃ xs, i.er.op = .call f xs ∧ args = xs.map (ev e)) ∨ ∃ f' xs caps, i.er.op = .callv f' xs ∧ ev e f' = .fn f caps ∧ args = xs.map (ev e) ++ caps) → ACalls C.P f args h (fun v h' => K (put e i.d v) h') → ∃ v h' tmps' w', K (put e i.d v) h' ∧ SRel C (put e i.d v) h' w0 D0 tmps' w' := by
      intro f args hia hk
      obtain ⟨hok, hcal⟩ := hk
      obtain ⟨vs, hr, _⟩ := call_run (a := ⟨tmps, []⟩) S.env hc hok hia
      obtain ⟨en, w', fr, ⟨cv, v, h', rfl, g2, g3, g4, g5⟩, _⟩ := hcal w vs S.heap hr []
      exact ⟨v, h', _, w', g5, (S.put hd g2 g3 g4).1⟩
    by_cases hcall : isCall i.op = true
    · cases hop' : i.op <;> rw [hop'] at hcall <;> simp only [isCall, reduceCtorEq] at hcall
      · rename_i f args
        rw [hop'] at g
        simp only [effR] at g
        cases hw : i.w <;> rw [hw] at g <;> exact call f _ (.inl ⟨args, hop', rfl⟩) g
      · rename_i f args
        rw [hop'] at g
        simp only [effR] at g
        cases hev : ev e f <;> rw [hev] at g <;> first | (exact g.elim) | skip
        rename_i g' caps
        cases hw : i.w <;> rw [hw] at g <;> exact call g' _ (.inr ⟨f, args, caps, hop', hev, rfl⟩) g
    · obtain ⟨v, h', cv, w', _, g2, g3, g4, g5⟩ := effVC_sound (tmps := tmps) (ds := []) hop S.heap S.env (effR_snd (op := i.op) (by simpa using hcall) g)
      exact ⟨v, h', _, w', g5, (S.put hd g2 g3 g4).1⟩
  unfold wp at g
  split at g
  · exact run g
  · rcases g with ⟨_, g⟩ | ⟨_, g⟩
    · exact run g
    · exact ⟨_, h, _, w, g, (S.put hd (show Rep w (dom h) (.tup []) undef from ⟨[], rfl, rfl⟩) S.heap (.refl _ _)).1⟩
/-- An operation with a value of its own can come first: that value. -/
theorem pull_gv (hp : Pure C.P C.orc) {st : Nat} {j : AI} {post : List AI} (hd : detK st j.er = true) (hw : wOk st j) {K : Env → Heap → Prop} : ∀ (pre : List AI) {e : Env} {h : Heap} {tmps : Array Value} {w : World}, SRel C e h w0 D0 tmps w →
    (∀ i ∈ pre, (∃ ops o, cInstr C.P C.M C.nt ops o = some i.er) ∧ ∀ t ∈ j.er.uses, i.d ≠ some t) → TV C (pre ++ j :: post) e h K → ∃ v, ∀ h, GV C j e h v
  | [], e, h, _, _, _, _, g => by
    have g : wp C j e h fun e' h' => TV C post e' h' K := g
    obtain ⟨v, g1, _⟩ := g.gv (kR_det hd hw).1
    exact ⟨v, g1.heap hd hw⟩
  | i :: pre, e, h, tmps, w, S, hpre, g => by
    have g : wp C i e h fun e' h' => TV C (pre ++ j :: post) e' h' K := g
    obtain ⟨⟨ops, o, hc⟩, hu⟩ := hpre i (List.mem_cons_self ..)
    obtain ⟨v, h', tmps', w', g1, S'⟩ := wp_ex hp hc S g
    obtain ⟨u, g2⟩ := pull_gv hp hd hw pre S' (fun i hi => hpre i (List.mem_cons_of_mem _ hi)) g1
    exact ⟨u, fun h => (g2 h).congr fun t ht => put_off (hu t ht)⟩
theorem pull_rest {j : AI} {post : List AI} {K : Env → Heap → Prop} (hK : KExt K) {v : AV} : ∀ (pre : List AI) {e : Env} {h : Heap}, (∀ h, GV C j e h v) → (∀ i ∈ pre, Disj i j) → (∀ {e h} {K : Env → Heap → Prop}, (∀ h, GV C j e h v) → wp C j e h K → K (put e j.d v) h) → TV C (pre ++ j :: post) e h K → TV C (pre ++ post) (put e j.d v) h K
  | [], _, _, hv, _, hj, g => hj hv g
  | i :: pre, e, h, hv, hD, hj, g => by
    have g : wp C i e h fun e' h' => TV C (pre ++ j :: post) e' h' K := g
    have D := hD i (List.mem_cons_self ..)
    refine wp.congr (fun t ht => (put_off (D.c t ht)).symm) (fun u h' g' => ?_) g
    exact (pull_rest hK pre (fun h => (hv h).congr fun t ht => (put_off (D.a t ht)).symm) (fun i hi => hD i (List.mem_cons_of_mem _ hi)) hj g').ext hK (put_comm D.b)
theorem TV.front (hp : Pure C.P C.orc) {st : Nat} {md : Bool} {j : AI} {pre post : List AI} (hw : wOk st j) {K : Env → Heap → Prop} (hK : KExt K) (hKP : KHP K) (hpost : md = true → ∀ i ∈ post, mildK st i.er = true ∧ wOk st i) (S : SRel C e h w0 D0 tmps w)
    (hpre : ∀ i ∈ pre, (∃ ops o, cInstr C.P C.M C.nt ops o = some i.er) ∧ swapK st md i.er j.er = true ∧ wOk st i ∧ (md = true → mildK st i.er = true)) (g : TV C (pre ++ j :: post) e h K) : wp C j e h fun e' h' => TV C (pre ++ post) e' h' K := by
  cases hd : detK st j.er with
  | false => exact front_nd hd hK hKP hpost pre e h (fun i hi => (hpre i hi).2) g
  | true =>
    have hD : ∀ i ∈ pre, Disj i j := fun i hi => (swapK_spec (hpre i hi).2.1).1
    obtain ⟨v, hv⟩ := pull_gv hp hd hw pre S (fun i hi => ⟨(hpre i hi).1, (hD i hi).a⟩) g
    refine (hv h).wp (pull_rest hK pre hv hD (fun {e h K} hv g => ?_) g)
    obtain ⟨v', g1, g2⟩ := g.gv (kR_det hd hw).1
    rwa [g1.uniq (hv h)] at g2
theorem wp_step (hp : Pure C.P C.orc) {i : AI} {ops : Array Oper} {j : Nat} {r : List Nat} {o : Oper} {k : List Item} {K : Env → Heap → Prop} (ho : ops[j]? = some o) (hc : cInstr C.P C.M C.nt ops o = some i.er) (S : SRel C e h w0 D0 tmps w) (hk : wp C i e h K)
    (rest : ∀ e' h' tmps' w', K e' h' → SRel C e' h' w0 D0 tmps' w' → Fin C w0 D0 R cs (lone ((bF C.fn).at ⟨tmps', []⟩ (.inRegion ops r :: k)) cs w')) : Fin C w0 D0 R cs (lone ((bF C.fn).at ⟨tmps, []⟩ (.inRegion ops (j :: r) :: k)) cs w) := by
  have run : ((kR C i e h).den C.P h fun v h' => K (put e i.d v) h') → Region.wanted o (yielded ops tmps) = true → Fin C w0 D0 R cs (lone ((bF C.fn).at ⟨tmps, []⟩ (.inRegion ops (j :: r) :: k)) cs w) := by
    intro hk hw
    have hk := known_den hp hk
    by_cases hcall : isCall i.op = true
    · cases hop : i.op <;> rw [hop] at hcall <;> simp only [isCall, reduceCtorEq] at hcall
      · rename_i g args
        rw [hop] at hk
        simp only [effR] at hk
        cases hw' : i.w <;> rw [hw'] at hk <;> exact call_step S ho hc hw (.inl ⟨args, hop, rfl⟩) hk fun v h' tmps' w' g S' => rest _ _ _ _ g S'
      · rename_i f args
        rw [hop] at hk
        simp only [effR] at hk
        cases hev : ev e f <;> rw [hev] at hk <;> first | (exact hk.elim) | skip
        rename_i g caps
        cases hw' : i.w <;> rw [hw'] at hk <;> exact call_step S ho hc hw (.inr ⟨f, args, caps, hop, hev, rfl⟩) hk fun v h' tmps' w' g S' => rest _ _ _ _ g S'
    · exact op_step S ho hc hw (effR_snd (op := i.op) (by simpa using hcall) hk) fun v h' tmps' w' g S' => rest _ _ _ _ g S'
  obtain ⟨hd, hdst, hop, hg⟩ := cInstr_spec hc
  unfold wp at hk
  rcases hg with ⟨hg, hgi⟩ | ⟨j', b, s, hg, hs, hlt, hgi⟩
  · have hgi : i.g = none := hgi
    rw [hgi] at hk
    exact run hk (by simp [Region.wanted, hg])
  · have hgi : i.g = some (s, b) := hgi
    rw [hgi] at hk
    have hlt' : s < tmps.size := by rw [S.size]; exact hlt
    have hE := S.env s
    rcases hk with ⟨h1, h2⟩ | ⟨h1 | h1, h2⟩
    · rw [h1] at hE
      have hw := wanted_spec (tmps := tmps) hg hs hlt' (show tmps.getD s undef = .bool b from hE)
      exact run h2 (by rw [hw]; cases b <;> rfl)
    · rw [h1] at hE
      have hw := wanted_spec (tmps := tmps) hg hs hlt' (show tmps.getD s undef = .bool (!b) from hE)
      exact op_skip S ho hc (by rw [hw]; cases b <;> rfl) fun tmps' S' => rest _ _ _ _ h2 S'
    · rw [h1] at hE
      obtain ⟨vs, hv, _⟩ := hE
      have hw := wanted_spec (tmps := tmps) hg hs hlt' hv
      exact op_skip S ho hc (by rw [hw]; rfl) fun tmps' S' => rest _ _ _ _ h2 S'

/-! ## Every order -/
theorem any_go (hp : Pure C.P C.orc) {ops : Array Oper} {st : Nat} {md : Bool} {k : List Item} {K : Env → Heap → Prop} (hK : KExt K) (hKP : KHP K) (A : Nat → AI) (edges : ∀ (j : Nat) (o : Oper), ops[j]? = some o → ∀ e ∈ o.after, Region.binds .any e = true → e.on < j)
    (hA : ∀ (j : Nat) (o : Oper), ops[j]? = some o → cInstr C.P C.M C.nt ops o = some (A j).er) (hw : ∀ j, wOk st (A j)) (hmd : md = true → ∀ j, j < ops.size → mildK st (A j).er = true) (hsw : ∀ i j, i < j → j < ops.size → ((Region.before ops).getD j 0).testBit i = true ∨ swapK st md (A i).er (A j).er = true)
    (hrest : ∀ e' h' tmps' w', K e' h' → SRel C e' h' w0 D0 tmps' w' → Fin C w0 D0 R cs (lone ((bF C.fn).at ⟨tmps', []⟩ (.inRegion ops [] :: k)) cs w')) :
    ∀ (n : Nat) (rem : List Nat) (t : Nat) (listed : Array Bool) (e : Env) (h : Heap) (tmps : Array Value) (w : World), rem.length = n → listed.size = ops.size → Closed ops listed → rem.Pairwise (· < ·) → (∀ j, j ∈ rem ↔ j < ops.size ∧ listed.getD j false = false) →
      TV C (rem.map A) e h K → SRel C e h w0 D0 tmps w → Fin C w0 D0 R cs (lone ((bF C.fn).at ⟨tmps, []⟩ (.inRegion ops (Region.linearise.go .any ops n t listed []) :: k)) cs w) := by
  intro n
  induction n with
  | zero =>
    intro rem t listed e h tmps w hn _ _ _ _ g S
    have := List.eq_nil_of_length_eq_zero hn
    subst this
    exact hrest e h tmps w g S
  | succ n ih =>
    intro rem t listed e h tmps w hn hls hcl hpw hmem g S
    obtain ⟨jr, hjr⟩ : ∃ j, j ∈ Region.ready .any ops listed := by
      cases rem with
      | nil => cases hn
      | cons r0 rs =>
        obtain ⟨hr0, hl0⟩ := (hmem r0).1 (List.mem_cons_self ..)
        have hjl : r0 < listed.size := by omega
        refine ⟨r0, mem_ready.2 ⟨by simpa [hjl] using hl0, ops[r0], Array.getElem?_eq_getElem hr0, fun ed he hb => ?_⟩⟩
        have hlt := edges r0 _ (Array.getElem?_eq_getElem hr0) ed he hb
        cases hl2 : listed.getD ed.on false with
        | true => rfl
        | false =>
          rcases List.mem_cons.1 ((hmem ed.on).2 ⟨by omega, hl2⟩) with h | h
          · omega
          · have := (List.pairwise_cons.1 hpw).1 _ h; omega
    simp only [Region.linearise.go]
    change Fin C w0 D0 R cs (lone ((bF C.fn).at ⟨tmps, []⟩ (.inRegion ops (match (Region.ready .any ops listed)[t % (Region.ready .any ops listed).length]? with
      | some i => Region.linearise.go .any ops n (t / (Region.ready .any ops listed).length) (listed.setIfInBounds i true) [i]
      | none => [].reverse) :: k)) cs w)
    have hlen : 0 < (Region.ready .any ops listed).length := List.length_pos_of_mem hjr
    have hlt : t % (Region.ready .any ops listed).length < (Region.ready .any ops listed).length := Nat.mod_lt _ hlen
    cases hi : (Region.ready .any ops listed)[t % (Region.ready .any ops listed).length]? with
    | none => rw [List.getElem?_eq_getElem hlt] at hi; cases hi
    | some j =>
      simp only []
      rw [linearise_go_acc, List.reverse_singleton, List.singleton_append]
      have hj := List.mem_of_getElem? hi
      obtain ⟨hnot, o, ho, _⟩ := mem_ready.1 hj
      have hjo : j < ops.size := (Array.getElem?_eq_some_iff.1 ho).1
      have hjl : j < listed.size := by omega
      have hnotf : listed.getD j false = false := by
        have : listed.getD j true = false := hnot
        simpa [hjl] using this
      obtain ⟨pre, post, rfl⟩ := List.append_of_mem ((hmem j).2 ⟨hjo, hnotf⟩)
      have hpw' := List.pairwise_append.1 hpw
      have hpwj := List.pairwise_cons.1 hpw'.2.1
      have hbef : ∀ m, ((Region.before ops).getD j 0).testBit m = true → listed.getD m false = true := fun m hm => ready_bef edges hcl hj hm
      rw [List.map_append, List.map_cons] at g
      have g' := TV.front (md := md) hp (hw j) hK hKP (fun hm i hi => by
        obtain ⟨i0, hi0, rfl⟩ := List.mem_map.1 hi
        exact ⟨hmd hm i0 ((hmem i0).1 (List.mem_append_right _ (List.mem_cons_of_mem _ hi0))).1, hw i0⟩) S (fun i hi => by
        obtain ⟨i0, hi0, rfl⟩ := List.mem_map.1 hi
        obtain ⟨hio, hil⟩ := (hmem i0).1 (List.mem_append_left _ hi0)
        refine ⟨⟨ops, ops[i0], hA i0 _ (Array.getElem?_eq_getElem hio)⟩, ?_, hw i0, fun hm => hmd hm i0 hio⟩
        rcases hsw i0 j (hpw'.2.2 i0 hi0 j (List.mem_cons_self ..)) hjo with hb | hb
        · rw [hbef i0 hb] at hil; cases hil
        · exact hb) g
      refine wp_step hp ho (hA j o ho) S g' fun e' h' tmps' w' g'' S' => ?_
      refine ih (pre ++ post) _ _ e' h' tmps' w' (by simp at hn ⊢; omega) (by simp [hls]) ?_ ?_ ?_ (by rw [List.map_append]; exact g'') S'
      · intro a b ha hb
        by_cases haj : a = j
        · subst haj
          have := hbef b hb
          by_cases hbj : b = a
          · subst hbj; rw [hnotf] at this; cases this
          · rw [getD_set_ne false (fun h => hbj h.symm)]; exact this
        · rw [getD_set_ne false (fun h => haj h.symm)] at ha
          have := hcl a b ha hb
          by_cases hbj : b = j
          · subst hbj; rw [hnotf] at this; cases this
          · rw [getD_set_ne false (fun h => hbj h.symm)]; exact this
      · exact List.pairwise_append.2 ⟨hpw'.1, hpwj.2, fun a ha b hb => hpw'.2.2 a ha b (List.mem_cons_of_mem _ hb)⟩
      · intro m
        by_cases hmj : m = j
        · subst hmj
          refine ⟨fun hm => ?_, fun hm => ?_⟩
          · exfalso
            rcases List.mem_append.1 hm with hm | hm
            · exact Nat.lt_irrefl _ (hpw'.2.2 m hm m (List.mem_cons_self ..))
            · exact Nat.lt_irrefl _ (hpwj.1 m hm)
          · rw [getD_set_eq hjl] at hm; cases hm.2
        · rw [getD_set_ne false (fun h => hmj h.symm), ← hmem m]
          simp only [List.mem_append, List.mem_cons]
          exact ⟨fun h => h.elim .inl fun h => .inr (.inr h), fun h => h.elim .inl fun h => h.elim (fun h => absurd h hmj) .inr⟩

/-! ## From the conditions -/
theorem mvs_kOk : ∀ (ms : List (Nat × Opd)) {rest : List AI} {S : Option (List Nat)} {e e0 : Env}, kOk (ms.map (fun m => (⟨some m.1, none, false, .mv m.2, none⟩ : AI)) ++ rest) S = true → Weak e e0 → Agr S e e0 → ∃ S', kOk rest S' = true ∧ Weak (mvs e ms) (mvs e0 ms) ∧ Agr S' (mvs e ms) (mvs e0 ms)
  | [], _, S, _, _, hk, hw, ha => ⟨S, hk, hw, ha⟩
  | m :: ms, rest, S, e, e0, hk, hw, ha => by
    have hk : kOk ((⟨some m.1, none, false, .mv m.2, none⟩ : AI) :: (ms.map (fun m => (⟨some m.1, none, false, .mv m.2, none⟩ : AI)) ++ rest)) S = true := hk
    obtain ⟨huse, hnext⟩ := kOk_step hk
    have hev : ev e m.2 = ev e0 m.2 := ev_congr fun t ht => ha t fun l hl => huse t (AI.uses_op (i := ⟨some m.1, none, false, .mv m.2, none⟩) ht) l hl
    obtain ⟨S', q1, q2, q3⟩ := hnext (ev e m.2) hw ha
    have := mvs_kOk ms q1 q2 q3
    simp only [mvs]
    rw [← hev]
    exact this
theorem TV_mvs {rest : List AI} {K : Env → Heap → Prop} : ∀ (ms : List (Nat × Opd)) {e : Env}, TV C rest (mvs e ms) h K → TV C (ms.map (fun m => (⟨some m.1, none, false, .mv m.2, none⟩ : AI)) ++ rest) e h K
  | [], _, g => g
  | _ :: ms, _, g => TV_mvs ms g
theorem hget_of_in : ∀ {h : Heap} {p : Nat × Blk}, (dom h).Nodup → p ∈ h → hget h p.1 = some p.2
  | (i, b) :: h, p, nd, hp => by
    have nd : (i :: dom h).Nodup := nd
    rw [List.nodup_cons] at nd
    simp only [hget]
    rcases List.mem_cons.1 hp with rfl | hp
    · rw [if_pos rfl]
    · rw [if_neg fun hi => nd.1 (by rw [hi]; exact List.mem_map.2 ⟨p, hp, rfl⟩)]
      exact hget_of_in nd.2 hp
theorem KHP.run {sk : List SItem} : KHP fun e h => Run C sk e h R := by
  intro e h h' k g ks tmps w cs w0 D0 hk S
  have nd := k.nd S.heap.nd
  have hm : ∀ p ∈ h, p ∈ h' := fun p hp => by
    have : hget h p.1 = some p.2 := hget_of_in nd hp
    rw [k.get] at this
    exact hget_mem this
  obtain ⟨H, Ks⟩ := S.heap.perm nd hm
  exact g ks tmps w cs w0 D0 hk ⟨S.env.mono Ks, S.size, H, S.ev.trans ⟨Ks, rfl, rfl, rfl, fun _ => Nat.le_refl _⟩⟩
theorem KExt.run {sk : List SItem} : KExt fun e h => Run C sk e h R := fun _ _ _ he g => g.weak fun t => .inl (he t)
theorem tvJ {sk : List AItem} : ∀ (n : Nat) (js : List AJ) (S : Option (List Nat)) (e e0 : Env) (h : Heap), js.length ≤ n → anyShape js = true → kOk (js.flatMap AJ.ais) S = true → Weak e e0 → Agr S e e0 →
    (∀ m, m ≤ n → ∀ e h, vc2 C m [] sk e h R → Run C (sk.map AItem.er) e h R) → vc2 C n js sk e h R → TV C (js.flatMap AJ.ais) e0 h fun e' h' => Run C (sk.map AItem.er) e' h' R
  | n, [], S, e, e0, h, _, _, _, hw, _, ih, hk => (ih n (Nat.le_refl _) e h hk).weak hw
  | 0, _ :: _, _, _, _, _, hl, _, _, _, _, _, _ => by simp at hl
  | n + 1, .o i :: js, S, e, e0, h, hl, hs, hok, hw, ha, ih, hk => by
    have hok : kOk (i :: js.flatMap AJ.ais) S = true := hok
    obtain ⟨huse, hnext⟩ := kOk_step hok
    have next : ∀ e2 v h', Weak e2 e0 → Agr S e2 e0 → vc2 C n js sk (kp (put e2 i.d v) i.ks) h' R → TV C (js.flatMap AJ.ais) (put e0 i.d v) h' fun e' h' => Run C (sk.map AItem.er) e' h' R := by
      intro e2 v h' hw ha g
      obtain ⟨S', q1, q2, q3⟩ := hnext v hw ha
      exact tvJ n js S' _ _ h' (by simpa using hl) (by simpa [anyShape] using hs) q1 q2 q3 (fun m hm => ih m (by omega)) g
    have den : ∀ e2, Weak e2 e0 → Agr S e2 e0 → ((known C (effR h e2 i.w i.op)).den C.P h fun v h' => vc2 C n js sk (kp (put e2 i.d v) i.ks) h' R) → (kR C i e0 h).den C.P h fun v h' => TV C (js.flatMap AJ.ais) (put e0 i.d v) h' fun e' h' => Run C (sk.map AItem.er) e' h' R := by
      intro e2 hw ha g
      rw [← kR_congr (e := e2) (e' := e0) fun t ht => ha t fun l hl => huse t ht l hl]
      exact Res.den_mono (fun v h' g => next e2 v h' hw ha g) g
    show wp C i e0 h fun e' h' => TV C (js.flatMap AJ.ais) e' h' fun e' h' => Run C (sk.map AItem.er) e' h' R
    simp only [vc2] at hk
    unfold wp
    split at hk
    · rename_i hg
      rw [hg]
      exact den e hw ha hk
    · rename_i s b hg
      rw [hg]
      have hs : eget e s = eget e0 s := ha s fun l hl => huse s (AI.uses_g hg) l hl
      split at hk <;> first | (exact hk.elim) | skip
      · rename_i t ht
        by_cases htb : t = b
        · have hs' : eget e0 s = .bool b := by rw [← hs, ht, htb]
          exact .inl ⟨hs', den _ (hw.know hs') (ha.know hs') (hk.1 htb)⟩
        · have htb' : t = !b := by cases t <;> cases b <;> simp_all
          have hs' : eget e0 s = .bool (!b) := by rw [← hs, ht, htb']
          exact .inr ⟨.inl hs', next _ _ _ (hw.know hs') (ha.know hs') (hk.2 htb')⟩
      · rename_i ht
        exact .inr ⟨.inr (by rw [← hs]; exact ht), next _ _ _ hw ha hk⟩
  | n + 1, .e .. :: js, _, _, _, _, _, hs, _, _, _, _, _ => by simp [anyShape] at hs
  | n + 1, .v d sz z ms x ks :: j' :: js, _, _, _, _, _, hs, _, _, _, _, _ => by simp [anyShape] at hs
  | n + 1, [.v d sz z ms x ks], S, e, e0, h, _, _, hok, hw, ha, ih, hk => by
    obtain ⟨p1, p2, p3, p4, p5, g⟩ := hk
    have g := ih n (Nat.le_succ _) _ _ g
    unfold varOk at p3
    rw [Bool.and_eq_true] at p3
    obtain ⟨hms, hz⟩ := p3
    have hz : x.uses.contains d = false := by simpa using hz
    have hok : kOk ((⟨some d, none, false, .alloc true sz z, none⟩ : AI) :: (ms.map (fun m => (⟨some m.1, none, false, .mv m.2, none⟩ : AI)) ++ [⟨none, none, false, .store sz (.t d) x, ks⟩])) S = true := by
      have e1 : ([AJ.v d sz z ms x ks].flatMap AJ.ais) = (⟨some d, none, false, .alloc true sz z, none⟩ : AI) :: (ms.map (fun m => (⟨some m.1, none, false, .mv m.2, none⟩ : AI)) ++ [⟨none, none, false, .store sz (.t d) x, ks⟩]) := by simp [AJ.ais]
      rw [← e1]; exact hok
    have e1 : ([AJ.v d sz z ms x ks].flatMap AJ.ais) = (⟨some d, none, false, .alloc true sz z, none⟩ : AI) :: (ms.map (fun m => (⟨some m.1, none, false, .mv m.2, none⟩ : AI)) ++ [⟨none, none, false, .store sz (.t d) x, ks⟩]) := by simp [AJ.ais]
    rw [e1]
    refine (wp_none rfl).2 ?_
    refine ⟨p1, p2, fun id hid => ?_⟩
    obtain ⟨_, hnext⟩ := kOk_step hok
    obtain ⟨S1, q1, q2, q3⟩ := hnext (.ptr id sz 0 0) hw ha
    have q2 : Weak (put e (some d) (.ptr id sz 0 0)) (put e0 (some d) (.ptr id sz 0 0)) := q2
    have q3 : Agr S1 (put e (some d) (.ptr id sz 0 0)) (put e0 (some d) (.ptr id sz 0 0)) := q3
    obtain ⟨S2, r1, r2, r3⟩ := mvs_kOk ms q1 q2 q3
    refine TV_mvs ms ?_
    obtain ⟨hd1, ho1⟩ := mvs_get (d := d) (v := .ptr id sz 0 0) ms e (put e (some d) (.ptr id sz 0 0)) hms (by simp [put]) fun t ht => by simp only [put, eget]; rw [if_neg fun h => ht h.symm]
    obtain ⟨hd0, ho0⟩ := mvs_get (d := d) (v := .ptr id sz 0 0) ms e0 (put e0 (some d) (.ptr id sz 0 0)) hms (by simp [put]) fun t ht => by simp only [put, eget]; rw [if_neg fun h => ht h.symm]
    have hxd : ∀ t ∈ x.uses, t ≠ d := by
      rintro t ht rfl
      rw [List.contains_iff_mem.2 ht] at hz
      cases hz
    have hx1 : ev (mvs e ms) x = ev (mvs (put e (some d) (.ptr id sz 0 0)) ms) x := ev_congr fun t ht => (ho1 t (hxd t ht)).symm
    have hx2 : ev (mvs (put e (some d) (.ptr id sz 0 0)) ms) x = ev (mvs (put e0 (some d) (.ptr id sz 0 0)) ms) x := ev_congr fun t ht => r3 t fun l hl => (kOk_step r1).1 t (AI.uses_op (i := ⟨none, none, false, .store sz (.t d) x, ks⟩) (by simp [SOp.uses, ht])) l hl
    have hx : ev (mvs (put e0 (some d) (.ptr id sz 0 0)) ms) x = ev (mvs e ms) x := by rw [hx1, hx2]
    refine (wp_none rfl).2 ?_
    show (known C (storeR ((id, ⟨sz, [z]⟩) :: h) sz (eget (mvs (put e0 (some d) (.ptr id sz 0 0)) ms) d) (ev (mvs (put e0 (some d) (.ptr id sz 0 0)) ms) x))).den C.P _ _
    rw [hd0, hx]
    refine ⟨p4, p5, ⟨sz, [z]⟩, by simp [hget], rfl, by omega, ?_⟩
    rw [if_pos rfl]
    refine ⟨by simp, ?_⟩
    show Run C (sk.map AItem.er) (mvs (put e0 (some d) (.ptr id sz 0 0)) ms) (hset ((id, ⟨sz, [z]⟩) :: h) id ⟨sz, [ev (mvs e ms) x]⟩) R
    have hset : hset ((id, ⟨sz, [z]⟩) :: h) id ⟨sz, [ev (mvs e ms) x]⟩ = (id, ⟨sz, [ev (mvs e ms) x]⟩) :: h := by simp [Go.AG.hset]
    rw [hset]
    intro k tmps w cs w0 D0 hki S2
    obtain ⟨H', Ev⟩ := S2.heap.del id
    have hdel : hdel ((id, ⟨sz, [ev (mvs e ms) x]⟩) :: h) id = h := by simp [Go.AG.hdel]
    rw [hdel] at H' Ev
    have hh := S2.heap.held (b := ⟨sz, [ev (mvs e ms) x]⟩) (D := dom h) (by simp [hget]) (fun t ht => by simp [dom] at ht ⊢; exact .inr ht) hid
    refine g k tmps w cs w0 D0 hki (SRel.weak (e := put (mvs e ms) (some d) (.ip (cellsOf (ev (mvs e ms) x)))) ⟨fun t => ?_, S2.size, H', S2.ev.trans Ev⟩ (kp_weak _ _))
    have E := Rep.mono Ev.keeps _ _ (S2.env t)
    simp only [put, eget]
    by_cases hdt : d = t
    · rw [if_pos hdt]
      subst hdt
      rw [hd0] at E
      have := Rep.fz hh _ _ E
      simpa [fz] using this
    · rw [if_neg hdt]
      rw [← ho1 t fun h => hdt h.symm]
      rcases r2 t with hr | hr
      · rw [hr]; exact E
      · rw [hr]; exact trivial
theorem ais_er : ∀ js : List AJ, (js.flatMap AJ.ais).map AI.er = js.flatMap AJ.er
  | [] => rfl
  | j :: js => by
    rw [List.flatMap_cons, List.flatMap_cons, List.map_append, ais_er js]
    congr 1
    cases j <;> simp [AJ.ais, AJ.er, AI.er, mvSI, List.map_map, Function.comp_def]
theorem any_sound (hp : Pure C.P C.orc) {ops : Array Oper} {is : List SI} {id : Nat} {k : List Item} {st : Nat} (hc : cInstrs C.P C.M C.nt ops ops.toList = some is) (hok : anyOk C.P ops st is = true) {K : Env → Heap → Prop} (hK : KExt K) (hKP : KHP K) {as : List AI} (has : as.map AI.er = is)
    (hw : ∀ a ∈ as, wOk st a) (hk : TV C as e h K) (S : SRel C e h w0 D0 tmps w)
    (hrest : ∀ e' h' tmps' w', K e' h' → SRel C e' h' w0 D0 tmps' w' → Fin C w0 D0 R cs (lone ((bF C.fn).at ⟨tmps', []⟩ (.inRegion ops [] :: k)) cs w')) :
    Fin C w0 D0 R cs (lone ((bF C.fn).at ⟨tmps, []⟩ (.code (.region id ops true) :: k)) cs w) := by
  unfold anyOk at hok
  simp only [Bool.and_eq_true] at hok
  obtain ⟨⟨h1, h2⟩, hm⟩ := hok
  obtain ⟨g1, g2⟩ := cInstrs_get (C := C) ops _ _ hc
  have hlen : as.length = ops.size := by rw [← List.length_map (f := AI.er), has, g1]; simp
  refine Fin.head step_region_draw ?_
  have hs : ∀ t, Region.schedule (C.P.follows .mixedOrders) ops t = Region.linearise.go .any ops ops.size t (Array.replicate ops.size false) [] := fun t => by
    simp only [Region.schedule, hm, Bool.true_or, if_true]
    rfl
  rw [hs]
  have f0 : ∀ m, (Array.replicate ops.size false).getD m false = false := fun m => by
    simp only [Array.getD_eq_getD_getElem?, Array.getElem?_replicate]
    split <;> rfl
  have S1 : SRel C e h w0 D0 tmps { w with drawn := w.drawn + 1 } := ⟨S.env.mono (Keeps.drew w _), S.size, S.heap.drew, S.ev.trans (Evolve.drew w _)⟩
  let A : Nat → AI := fun j => as.getD j ⟨none, none, true, .mv (.c .undef), none⟩
  have hAe : ∀ j, j < ops.size → is[j]? = some (A j).er := fun j hj => by
    have hj' : j < as.length := by omega
    rw [← has]
    simp [A, hj']
  have hmapA : (List.range ops.size).map A = as := by
    apply List.ext_getElem?
    intro j
    by_cases hj : j < ops.size
    · have hj' : j < as.length := by omega
      simp [A, hj, hj']
    · have hj' : ¬ j < as.length := by omega
      simp [hj, hj']
  refine any_go (st := st) (md := is.all (mildK st)) hp hK hKP A (fun j o hj ed hed => ?_) (fun j o hj => ?_) (fun j => ?_) (fun hm j hj => (List.all_eq_true.1 hm) _ (List.mem_of_getElem? (hAe j hj))) (fun i j hij hj => ?_) hrest ops.size (List.range ops.size) _ _ e h tmps _ (by simp) (by simp) (fun a b ha => by rw [f0 a] at ha; cases ha) List.pairwise_lt_range (fun j => by rw [f0 j]; simp) (by rw [hmapA]; exact hk) S1
  · unfold edgesOk at h2
    rw [List.all_eq_true] at h2
    have h1 := h2 (o, j) (by rw [List.mem_zipIdx_iff_getElem?]; simpa using hj)
    simp only [List.all_eq_true] at h1
    have h2 := h1 ed (by simpa using hed)
    intro hb
    simp only [Bool.or_eq_true, Bool.not_eq_true', decide_eq_true_eq] at h2
    rcases h2 with h2 | h2
    · rw [hb] at h2; cases h2
    · exact h2
  · obtain ⟨i, q1, q2⟩ := g2 j o (by simpa using hj)
    have := hAe j (Array.getElem?_eq_some_iff.1 hj).1
    rw [q1] at this
    cases this
    exact q2
  · by_cases hj : j < as.length
    · have : A j ∈ as := by simp [A, hj]
      exact hw _ this
    · have : A j = ⟨none, none, true, .mv (.c .undef), none⟩ := by simp [A, hj]
      rw [this]
      exact ⟨fun _ _ => rfl, fun _ _ => rfl⟩
  · unfold swapsOk at h1
    rw [List.all_eq_true] at h1
    have q := h1 ((A j).er, j) (by rw [List.mem_zipIdx_iff_getElem?]; exact hAe j hj)
    simp only [List.all_eq_true] at q
    have q := q ((A i).er, i) (by rw [List.mem_zipIdx_iff_getElem?]; exact hAe i (by omega))
    simp only [Bool.or_eq_true, Bool.not_eq_true', decide_eq_false_iff_not] at q
    rcases q with (q | q) | q
    · exact absurd hij q
    · exact .inl q
    · exact .inr q
end
end Go.AG
