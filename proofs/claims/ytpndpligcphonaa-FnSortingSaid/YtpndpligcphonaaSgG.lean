/- Drawn values. No statement is made here. -/
import Derived.Test.YtpndpligcphonaaSgD
import Derived.Test.YtpndpligcphonaaCtGS
namespace Go.AG
open Go.Proofs Go.Proofs.Ytpndpligcphonaa
set_option linter.unusedSimpArgs false
set_option linter.unusedVariables false
set_option maxRecDepth 4000
theorem fzs_out {us : List AV} {rs : List (List Int)} {hi : Heap} (h : GrowLs us rs hi) {id : Nat} {b : Blk} (hid : id ∉ dom hi) : fzs id b us = us ∧ fzH id b hi = hi := by
  induction h with
  | nil => exact ⟨rfl, rfl⟩
  | @cons u r h1 us rs h2 g os d ih =>
    rw [dom_append, List.mem_append, not_or] at hid
    obtain ⟨i1, i2⟩ := ih hid.2
    generalize hL : r.map iv = L at g
    cases g with
    | nil => exact ⟨by simp [fzs, fz, i1], by simpa using i2⟩
    | emp => exact ⟨by simp [fzs, fz, i1], by simpa using i2⟩
    | sl idw _ n hn =>
      have hne : ¬ idw = id := fun e => hid.1 (by simp [dom, e])
      subst hL
      exact ⟨by simp [fzs, fz, i1, hne], by simp [fzH, i2, fzs_iv]⟩
theorem fzs_il (id : Nat) (b : Blk) (rs : List (List Int)) : fzs id b (rs.map il) = rs.map il := by
  induction rs with
  | nil => rfl
  | cons r rs ih => simp only [List.map_cons, fzs, ih, il_eq, fz, fzs_iv]
theorem fzs_append (id : Nat) (b : Blk) (l m : List AV) : fzs id b (l ++ m) = fzs id b l ++ fzs id b m := by
  induction l with
  | nil => rfl
  | cons x l ih => simp only [List.cons_append, fzs, ih]
/-- Blocks frozen, in such other blocks as one likes. -/
inductive PostS (R : AV → Heap → Prop) : AV → Heap → Prop where
  | base {v h} : R v h → PostS R v h
  | frz {v h h'} (id : Nat) {b : Blk} : hget h id = some b → dom h' = dom (hdel h id) → (∀ p ∈ h', p ∈ hdel h id ∨ ∃ c, (p.1, c) ∈ hdel h id ∧ p.2 = ⟨c.sz, fzs id b c.l⟩) → PostS R (fz id b v) h' → PostS R v h
theorem PostS.spec {R : AV → Heap → Prop} {v : AV} {h : Heap} (p : PostS R v h) : ∀ {w0 : World} {D0 : List Nat} {w : World} {cv : Value}, Rep w (dom h) v cv → HRel w h → Evolve w0 D0 w (dom h) → ∃ v' h', Rep w (dom h') v' cv ∧ HRel w h' ∧ Evolve w0 D0 w (dom h') ∧ R v' h' := by
  induction p with
  | base hr => exact fun r H E => ⟨_, _, r, H, E, hr⟩
  | frz id hb hd hs _ ih =>
    intro w0 D0 w cv r H E
    obtain ⟨H', Ev⟩ := H.del id
    have hd2 := H.held hb (fun _ => dom_hdel_sub) (hdel_out H.nd)
    refine ih (by rw [hd]; exact Rep.fz hd2 _ _ (Rep.mono Ev.keeps _ _ r)) ⟨by rw [hd]; exact H'.nd, fun p hp => ?_, by rw [hd]; exact H'.fix⟩ (by rw [hd]; exact E.trans Ev)
    rw [hd]
    rcases hs p hp with h1 | ⟨c, h1, h2⟩
    · exact H'.all p h1
    · obtain ⟨cs', el, e1, hE⟩ := H'.all _ h1
      refine ⟨cs', el, e1, ?_⟩
      rw [h2]
      exact Elems.fz hd2 _ _ _ _ hE
theorem ACalls.postS {P : Program} {g : FuncId} {args : List AV} {h : Heap} {R : AV → Heap → Prop} (H : ACalls P g args h (PostS R)) : ACalls P g args h R :=
  ⟨H.1, fun w vs hw hv => (H.2 w vs hw hv).mono fun en w' ⟨cv, v, h', e1, e2, e3, e4, e5⟩ => by
    obtain ⟨v', h'', g1, g2, g3, g4⟩ := e5.spec e2 e3 e4
    exact ⟨cv, v', h'', e1, g1, g2, g3, g4⟩⟩
/-- Rows that are only appended to are frozen one after the other. -/
theorem frzLs_post {R : AV → Heap → Prop} {us : List AV} {rs : List (List Int)} {hi H : Heap} (h : GrowLs us rs hi) : ∀ {done : List (List Int)} {idw n : Nat}, (∀ r ∈ rs, r ≠ []) → (idw ∉ dom hi) → (dom hi).Nodup → PostS R (.sl idw 1 0 n none) ((idw, ⟨1, (done ++ rs).map il⟩) :: H) → PostS R (.sl idw 1 0 n none) ((idw, ⟨1, done.map il ++ us⟩) :: (hi ++ H)) := by
  induction h with
  | nil => intro done idw n _ _ _ k; simpa using k
  | @cons u r h1 us rs h2 g os d ih =>
    intro done idw n hne hid nd k
    have hr := hne r (List.mem_cons_self ..)
    obtain ⟨idr, rfl, rfl⟩ := g.ne (by simpa using hr)
    simp only [dom_append, dom_cons, List.mem_append, List.mem_cons, not_or, List.nodup_append] at hid nd
    have hw : ¬ idw = idr := fun e => hid.1.1 e
    have hw' : ¬ idr = idw := fun e => hw e.symm
    have hr2 : idr ∉ dom h2 := d idr (by simp [dom])
    obtain ⟨e1, e2⟩ := fzs_out os (b := ⟨1, r.map iv⟩) hr2
    have e4 : fz idr ⟨1, r.map iv⟩ (.sl idw 1 0 n none) = .sl idw 1 0 n none := by simp [fz, hw]
    refine .frz idr (b := ⟨1, r.map iv⟩) (h' := (idw, ⟨1, (done ++ [r]).map il ++ us⟩) :: (h2 ++ H)) (by simp [hget, hw]) (by simp [hdel, hw, dom]) (fun p hp => ?_) ?_
    · have e3 : hdel ((idw, ⟨1, done.map il ++ .sl idr 1 0 (r.map iv).length none :: us⟩) :: ([(idr, ⟨1, r.map iv⟩)] ++ h2 ++ H)) idr = (idw, ⟨1, done.map il ++ .sl idr 1 0 (r.map iv).length none :: us⟩) :: (h2 ++ H) := by
        simp [hdel, hw]
      rw [e3]
      rcases List.mem_cons.1 hp with rfl | hp
      · refine .inr ⟨_, List.mem_cons_self .., ?_⟩
        simp only [fzs_append, fzs_il, fzs, e1, fz]
        simp
        exact (List.take_of_length_le (by simp)).symm
      · exact .inl (List.mem_cons_of_mem _ hp)
    · rw [e4]
      exact ih (done := done ++ [r]) (fun r hr => hne r (List.mem_cons_of_mem _ hr)) hid.2 nd.2.1 (by simpa using k)
theorem Gr.greedy_ne (x : Gr) : ∀ n, ∀ r ∈ x.greedy n, r ≠ []
  | 0, r, h => by simp [Gr.greedy] at h
  | n + 1, r, h => by
    unfold Gr.greedy Gr.gStep at h
    simp only at h
    split at h
    · rcases List.mem_or_eq_of_mem_set h with h | rfl
      · exact x.greedy_ne n r h
      · simp
    · rcases List.mem_append.1 h with h | h
      · exact x.greedy_ne n r h
      · rw [List.mem_singleton.1 h]; simp
theorem GrowLs.nodup {us : List AV} {rs : List (List Int)} {hi : Heap} (h : GrowLs us rs hi) : (dom hi).Nodup := h.own.nodup
theorem l24Greedy_f (x : Gr) (h24 : x.ts.length ≤ 24) (id4 : Nat) (H : Heap) (hm : (id4, (⟨2, [x.av]⟩ : Blk)) ∈ H) : ACalls Try.prog 26 [.ptr id4 2 0 0] H (fun v h'' => ∃ h', Grow 1 v ((x.greedy x.ts.length).map il) h' ∧ (∀ i, i ∈ dom h' → i ∉ dom H) ∧ h'' = h' ++ H) := by
  have hL : lend [(id4, (⟨2, [x.av]⟩ : Blk))] [.ptr id4 2 0 0] = [.ip [.int .i64 x.n, .snap 3 (x.ts.map T.av)]] := by simp [lend, fz, fzs, cellsOf]
  have hG := l24Greedy_g x h24
  rw [← hL] at hG
  refine ACalls.postS ((ACalls.gives (h := H) [(id4, ⟨2, [x.av]⟩)] (fun p hp => by rw [List.mem_singleton.1 hp]; exact hm) hG (fun v h' hv => ?_)).monoN ?_)
  · obtain ⟨us, hp, hi, hg, ho, hd, e⟩ := hv
    subst e
    exact (OwnLL.of_grow' hg ho.own hd).own
  rintro v h' ⟨_, ⟨us, hp, hi, hg, ho, hd, rfl⟩, hdH, rfl⟩ nd
  have hn := x.greedy_ne x.ts.length
  generalize x.greedy x.ts.length = rs at *
  have hl := ho.own.len
  by_cases hrs : rs = []
  · subst hrs
    cases ho
    exact .base ⟨hp, by simpa using hg, by simpa using hdH, by simp⟩
  · obtain ⟨idw, rfl, rfl⟩ := hg.ne (fun e => by subst e; simp at hl; exact hrs (List.length_eq_zero_iff.1 hl.symm))
    have h1 : idw ∉ dom hi := hd idw (by simp [dom])
    have := frzLs_post (R := fun v h'' => ∃ h', Grow 1 v (rs.map il) h' ∧ (∀ i, i ∈ dom h' → i ∉ dom H) ∧ h'' = h' ++ H) (H := H) ho (done := []) (idw := idw) (n := us.length) hn h1 ho.nodup (.base ⟨[(idw, ⟨1, rs.map il⟩)], .sl idw _ _ (by simp [hl]), fun i hi => hdH i (by
      rw [dom_append]
      exact List.mem_append_left _ hi), by simp⟩)
    simpa using this
end Go.AG
namespace Go.AG
open Go.Proofs Go.Proofs.Ytpndpligcphonaa
set_option linter.unusedSimpArgs false
set_option linter.unusedVariables false
set_option maxRecDepth 4000
/-- A drawn graph, frozen. -/
def grOk (x : Gr) : Prop := (0 ≤ x.n ∧ x.n ≤ 100) ∧ esOk x.ts
theorem grOk.ok {x : Gr} (h : grOk x) : x.ok ∧ x.ts.length ≤ 60 := by
  refine ⟨⟨by have := h.1; unfold in64; omega, fun t ht => ?_⟩, h.2.1⟩
  have := h.2.2 t ht
  unfold eOk at this
  unfold T.ok in64
  omega
/-- A drawn graph with rounds, frozen. -/
def DrR (code : List UInt8) (ids : Nat) (k : Int) (h : Heap) (v : AV) (h' : Heap) : Prop := ∃ (x : Gr) (rs : List (List Int)) (b' : Blk), v = .tup [x.av, .snap 1 (rs.map il)] ∧ grOk x ∧ ssTot rs ≤ 1000 ∧ isSrc code k b' ∧ h' = (ids, b') :: h
theorem ACalls.freezeS {P : Program} {g : FuncId} {args : List AV} {h h' : Heap} {R : AV → Heap → Prop} (id : Nat) {b : Blk} (hb : hget h id = some b) (hd : dom h' = dom (hdel h id)) (hs : ∀ p ∈ h', p ∈ hdel h id ∨ ∃ c, (p.1, c) ∈ hdel h id ∧ p.2 = ⟨c.sz, fzs id b c.l⟩)
    (H : ACalls P g (fzs id b args) h' R) : ACalls P g args h R :=
  ⟨H.1, fun w vs hw hv => by
    obtain ⟨H', Ev⟩ := hw.del id
    have hd2 : Held w (dom (hdel h id)) id b := hw.held hb (fun _ => dom_hdel_sub) (hdel_out hw.nd)
    have hh : HRel w h' := ⟨by rw [hd]; exact H'.nd, fun p hp => by
      rw [hd]
      rcases hs p hp with h1 | ⟨c, h1, h2⟩
      · exact H'.all p h1
      · obtain ⟨cs', el, e1, hE⟩ := H'.all _ h1
        refine ⟨cs', el, e1, ?_⟩
        rw [h2]
        exact Elems.fz hd2 _ _ _ _ hE, by rw [hd]; exact H'.fix⟩
    rw [← hd] at Ev
    have hv2 : Reps w (dom h') (fzs id b args) vs := by
      rw [hd]
      rw [hd] at Ev
      exact Reps.fz hd2 _ _ (Reps.mono Ev.keeps _ _ hv)
    exact (H.2 w vs hh hv2).mono fun _ _ ⟨cv, v, h', e1, e2, e3, e4, e5⟩ => ⟨cv, v, h', e1, e2, e3, Ev.trans e4, e5⟩⟩
theorem ACalls.wkB {P : Program} {f : FuncId} {args : List AV} {R : AV → Heap → Prop} {g rest : Heap} {id sz : Nat} {l l' : List AV} (hw : ∀ w D b o, Elems w D sz l b o → Elems w D sz l' b o) (H : ACalls P f args (g ++ (id, ⟨sz, l'⟩) :: rest) R) : ACalls P f args (g ++ (id, ⟨sz, l⟩) :: rest) R :=
  ⟨H.1, fun w vs hh hv => by
    have hd : dom (g ++ (id, (⟨sz, l'⟩ : Blk)) :: rest) = dom (g ++ (id, ⟨sz, l⟩) :: rest) := by simp [dom]
    have h2 : HRel w (g ++ (id, ⟨sz, l'⟩) :: rest) := ⟨by rw [hd]; exact hh.nd, fun p hp => by
      rw [hd]
      rcases List.mem_append.1 hp with hp | hp
      · exact hh.all p (List.mem_append_left _ hp)
      · rcases List.mem_cons.1 hp with rfl | hp
        · obtain ⟨c, el, e1, hE⟩ := hh.all (id, ⟨sz, l⟩) (List.mem_append_right _ (List.mem_cons_self ..))
          exact ⟨c, el, e1, hw _ _ _ _ hE⟩
        · exact hh.all p (List.mem_append_right _ (List.mem_cons_of_mem _ hp)), by rw [hd]; exact hh.fix⟩
    have := H.2 w vs h2 (by rw [hd]; exact hv)
    rw [hd] at this
    exact this⟩
theorem fzs_T (i : Nat) (b : Blk) (ts : List T) : fzs i b (ts.map T.av) = ts.map T.av := by
  induction ts with
  | nil => rfl
  | cons t ts ih => simp only [List.map_cons, fzs, ih]; simp [T.av, fz, fzs]
theorem ssTot_put (rs : List (List Int)) (r : List Int) : ssTot (rs ++ [r]) = ssTot rs + 1 + r.length := by
  simp [ssTot, sumL]; omega
theorem ssTot_swap (r0 r1 : List Int) (rt : List (List Int)) : ssTot (r1 :: r0 :: rt) = ssTot (r0 :: r1 :: rt) := by
  simp [ssTot, sumL]; omega
theorem wk_gr (n : Int) {u u' : AV} (hu : Wk u u') : ∀ w D b o, Elems w D 2 [.agg [.int .i64 n, u]] b o → Elems w D 2 [.agg [.int .i64 n, u']] b o := by
  intro w D b o ⟨⟨h1, h2, ⟨v, h4, h5, h6⟩, h7⟩, h8⟩
  exact ⟨⟨rfl, h2, ⟨v, h4, h5, hu _ _ _ h6⟩, h7⟩, h8⟩
/-- A graph in a block, whose edges are frozen. -/
theorem frz_gr {P : Program} {f : FuncId} {args : List AV} {R : AV → Heap → Prop} {n : Int} {ts : List T} {w : AV} {g rest : Heap} {id : Nat} (hg : Grow 3 w (ts.map T.av) g) (hid : id ∉ dom g) (ha : ∀ i b, ¬ id = i → fzs i b args = args) (H : ACalls P f args ((id, ⟨2, [(⟨n, ts⟩ : Gr).av]⟩) :: rest) R) : ACalls P f args ((id, ⟨2, [.agg [.int .i64 n, w]]⟩) :: (g ++ rest)) R := by
  simp only [Gr.av] at H
  generalize hL : ts.map T.av = L at hg H
  cases hg with
  | nil => exact ACalls.wkB (g := []) (wk_gr n (Wk.nil 3)) H
  | emp => exact ACalls.wkB (g := []) (wk_gr n (Wk.emp 3)) H
  | sl idw _ m hm =>
    simp only [dom_cons, List.mem_cons, not_or] at hid
    have hne : ¬ id = idw := hid.1
    refine ACalls.freezeS idw (h' := (id, ⟨2, [.agg [.int .i64 n, .snap 3 L]]⟩) :: rest) (b := ⟨3, L⟩) (by simp [hget, hne]) (by simp [hdel, hne, dom]) (fun p hp => ?_) (by rw [ha _ _ hne]; exact H)
    simp only [List.cons_append, List.nil_append, hdel, if_neg hne, if_true]
    rcases List.mem_cons.1 hp with rfl | hp
    · refine .inr ⟨⟨2, [.agg [.int .i64 n, .sl idw 3 0 m none]]⟩, List.mem_cons_self .., ?_⟩
      subst hm
      simp [fzs, fz]
    · exact .inl (List.mem_cons_of_mem _ hp)
abbrev k13_o0 : List AJ := [.o ⟨(some 2), none, false, .alloc true 2 (.agg [(.int .i64 0), .nilsl]), none⟩, .o ⟨(some 3), none, false, .mv (.c .nilsl), (some [0, 2])⟩]
abbrev k13_o1 : List AJ := [.o ⟨(some 8), none, false, .mv (.t 0), none⟩, .o ⟨(some 9), none, false, .call 22 [(.t 8)], none⟩, .o ⟨(some 4), none, false, .alloc true 2 (.agg [(.int .i64 0), .nilsl]), none⟩, .o ⟨none, none, false, .store 2 (.t 4) (.t 9), (some [0, 2, 4])⟩]
abbrev k13_o2 : List AJ := [.o ⟨(some 10), none, false, .mv (.t 0), none⟩, .o ⟨(some 11), none, false, .call 23 [(.t 10), (.c (.int .i64 3))], (some [0, 2, 4, 11])⟩]
abbrev k13_o3 : List AJ := [.o ⟨(some 12), none, false, .mv (.t 0), none⟩, .o ⟨(some 13), none, false, .call 24 [(.t 12), (.c (.int .i64 4))], none⟩, .o ⟨(some 14), none, true, .bin .add (.c (.int .i64 2)) (.t 13), none⟩, .o ⟨(some 15), none, false, .build [(.int .i64 0), .nilsl] [(0, 1, (.t 14))], none⟩, .o ⟨none, none, false, .store 2 (.t 4) (.t 15), (some [0, 2, 4])⟩]
abbrev k13_o4 : List AJ := [.o ⟨(some 5), none, false, .mv (.c (.int .i64 0)), (some [0, 2, 4, 5])⟩]
abbrev k13_o5 : List AJ := [.o ⟨(some 16), none, false, .mv (.t 5), none⟩, .o ⟨(some 17), none, true, .bin .add (.t 16) (.c (.int .i64 1)), none⟩, .o ⟨(some 18), none, false, .fieldA 0 (.t 4), none⟩, .o ⟨(some 19), none, false, .load 1 false (.t 18), none⟩, .o ⟨(some 20), none, false, .bin .lss (.t 17) (.t 19), (some [0, 2, 4, 5, 20])⟩]
def k13_6 : ACode := .cond (.t 20) .skip (.exit 0)
def k13_7 : ACode := .seq (.region k13_o5) k13_6
abbrev k13_o6 : List AJ := [.o ⟨(some 23), none, false, .fieldA 1 (.t 4), none⟩, .o ⟨(some 24), none, false, .load 1 false (.t 23), none⟩, .o ⟨(some 25), none, false, .mv (.t 5), none⟩, .o ⟨(some 26), none, false, .mv (.t 5), none⟩, .o ⟨(some 27), none, true, .bin .add (.t 26) (.c (.int .i64 1)), none⟩, .o ⟨(some 28), none, false, .build [(.int .i64 0), (.int .i64 0), (.int .i64 0)] [(0, 1, (.t 25)), (1, 1, (.t 27)), (2, 1, (.c (.int .i64 1)))], none⟩, .o ⟨(some 29), none, false, .bsl false 3 [(.t 28)], none⟩, .o ⟨(some 30), none, false, .append 3 24 (.t 24) (.t 29), none⟩, .o ⟨(some 31), none, false, .fieldA 1 (.t 4), none⟩, .o ⟨none, none, false, .store 1 (.t 31) (.t 30), (some [0, 2, 4, 5])⟩]
def k13_8 : ACode := .region k13_o6
abbrev k13_o7 : List AJ := [.o ⟨(some 21), none, false, .mv (.t 5), none⟩, .o ⟨(some 22), none, true, .bin .add (.t 21) (.c (.int .i64 1)), none⟩, .o ⟨(some 5), none, false, .mv (.t 22), (some [0, 2, 4, 5])⟩]
def k13_10 : ACode := .region k13_o7
def k13_11 : ACode := .seq (.block 1 k13_8) k13_10
def k13_12 : ACode := .seq k13_7 k13_11
def k13_13 : ACode := .loop k13_12
def k13_14 : ACode := .block 0 k13_13
def k13_15 : ACode := .seq (.region k13_o4) k13_14
def k13_16 : ACode := .seq (.region k13_o3) k13_15
def k13_17 : ACode := .cond (.t 11) k13_16 .skip
def k13_18 : ACode := .seq (.region k13_o2) k13_17
abbrev k13_o8 : List AJ := [.o ⟨(some 32), none, false, .call 25 [(.t 4)], none⟩, .o ⟨(some 33), none, false, .un .not (.t 32), (some [0, 2, 4, 33])⟩]
abbrev k13_o9 : List AJ := [.o ⟨(some 34), none, false, .load 2 true (.t 4), none⟩, .o ⟨(some 35), none, false, .bsl false 1 [], none⟩, .o ⟨none, none, false, .store 2 (.t 2) (.t 34), none⟩, .o ⟨(some 3), none, false, .mv (.t 35), (some [2, 3])⟩]
def k13_21 : ACode := .seq (.region k13_o9) .ret
def k13_22 : ACode := .cond (.t 33) k13_21 .skip
def k13_23 : ACode := .seq (.region k13_o8) k13_22
abbrev k13_o10 : List AJ := [.o ⟨(some 36), none, false, .call 26 [(.t 4)], none⟩, .o ⟨(some 6), none, false, .mv (.t 36), (some [0, 2, 4, 6])⟩]
abbrev k13_o11 : List AJ := [.o ⟨(some 37), none, false, .mv (.t 6), none⟩, .o ⟨(some 38), none, false, .len (.t 37), none⟩, .o ⟨(some 39), none, false, .bin .gtr (.t 38) (.c (.int .i64 1)), none⟩, .o ⟨(some 40), none, false, .mv (.t 39), none⟩, .o ⟨(some 41), (some (40, true)), false, .mv (.t 0), none⟩, .o ⟨(some 42), (some (40, true)), false, .call 23 [(.t 41), (.c (.int .i64 3))], none⟩, .o ⟨(some 43), none, false, .pick (.t 40) (.t 42) (.c (.bool false)), (some [0, 2, 4, 6, 43])⟩]
abbrev k13_o12 : List AJ := [.o ⟨(some 44), none, false, .mv (.t 6), none⟩, .o ⟨(some 45), none, false, .idxA 1 (.t 44) (.c (.int .i64 0)), none⟩, .o ⟨(some 46), none, false, .load 1 false (.t 45), none⟩, .o ⟨(some 7), none, false, .mv (.t 46), (some [0, 2, 4, 6, 7])⟩]
abbrev k13_o13 : List AJ := [.o ⟨(some 47), none, false, .mv (.t 6), none⟩, .o ⟨(some 48), none, false, .mv (.t 6), none⟩, .o ⟨(some 49), none, false, .idxA 1 (.t 48) (.c (.int .i64 1)), none⟩, .o ⟨(some 50), none, false, .load 1 false (.t 49), none⟩, .o ⟨(some 51), none, false, .idxA 1 (.t 47) (.c (.int .i64 0)), none⟩, .o ⟨none, none, false, .store 1 (.t 51) (.t 50), (some [0, 2, 4, 6, 7])⟩]
abbrev k13_o14 : List AJ := [.o ⟨(some 52), none, false, .mv (.t 6), none⟩, .o ⟨(some 53), none, false, .mv (.t 7), none⟩, .o ⟨(some 54), none, false, .idxA 1 (.t 52) (.c (.int .i64 1)), none⟩, .o ⟨none, none, false, .store 1 (.t 54) (.t 53), (some [0, 2, 4, 6])⟩]
def k13_28 : ACode := .region k13_o14
def k13_29 : ACode := .seq (.region k13_o13) k13_28
def k13_30 : ACode := .seq (.region k13_o12) k13_29
def k13_31 : ACode := .cond (.t 43) k13_30 .skip
def k13_32 : ACode := .seq (.region k13_o11) k13_31
abbrev k13_o15 : List AJ := [.o ⟨(some 55), none, false, .mv (.t 0), none⟩, .o ⟨(some 56), none, false, .call 24 [(.t 55), (.c (.int .i64 16))], (some [0, 2, 4, 6, 56])⟩]
abbrev k13_o16 : List AJ := [.o ⟨(some 58), none, false, .bin .eql (.t 56) (.c (.int .i64 0)), none⟩, .o ⟨(some 57), none, false, .mv (.t 58), (some [0, 2, 4, 6, 56, 57])⟩]
abbrev k13_o17 : List AJ := [.o ⟨(some 59), none, false, .mv (.t 6), none⟩, .o ⟨(some 60), none, false, .mv (.t 0), none⟩, .o ⟨(some 61), none, false, .bsl false 1 [(.c (.int .i64 (-1))), (.c (.int .i64 0)), (.c (.int .i64 24))], none⟩, .o ⟨(some 62), none, false, .call 20 [(.t 60), (.t 61)], none⟩, .o ⟨(some 63), none, false, .bsl false 1 [(.t 62)], none⟩, .o ⟨(some 64), none, false, .bsl false 1 [(.t 63)], none⟩, .o ⟨(some 65), none, false, .append 1 24 (.t 59) (.t 64), none⟩, .o ⟨(some 6), none, false, .mv (.t 65), (some [2, 4, 6])⟩]
def k13_35 : ACode := .region k13_o17
abbrev k13_o18 : List AJ := [.o ⟨(some 67), none, false, .bin .eql (.t 56) (.c (.int .i64 1)), none⟩, .o ⟨(some 66), none, false, .mv (.t 67), (some [2, 4, 6, 56, 66])⟩]
abbrev k13_o19 : List AJ := [.o ⟨(some 68), none, false, .mv (.t 6), none⟩, .o ⟨(some 69), none, false, .bsl false 1 [], none⟩, .o ⟨(some 70), none, false, .bsl false 1 [(.t 69)], none⟩, .o ⟨(some 71), none, false, .append 1 24 (.t 68) (.t 70), none⟩, .o ⟨(some 6), none, false, .mv (.t 71), (some [2, 4, 6])⟩]
def k13_37 : ACode := .region k13_o19
abbrev k13_o20 : List AJ := [.o ⟨(some 73), none, false, .bin .eql (.t 56) (.c (.int .i64 2)), none⟩, .o ⟨(some 72), none, false, .mv (.t 73), (some [2, 4, 6, 72])⟩]
abbrev k13_o21 : List AJ := [.o ⟨(some 74), none, false, .mv (.t 6), none⟩, .o ⟨(some 75), none, false, .len (.t 74), none⟩, .o ⟨(some 76), none, false, .bin .gtr (.t 75) (.c (.int .i64 0)), (some [2, 4, 6, 76])⟩]
abbrev k13_o22 : List AJ := [.o ⟨(some 77), none, false, .mv (.t 6), none⟩, .o ⟨(some 78), none, false, .slice 1 (.t 77) (some (.c (.int .i64 1))) none none, none⟩, .o ⟨(some 6), none, false, .mv (.t 78), (some [2, 4, 6])⟩]
def k13_40 : ACode := .region k13_o22
def k13_41 : ACode := .cond (.t 76) k13_40 .skip
def k13_42 : ACode := .seq (.region k13_o21) k13_41
def k13_43 : ACode := .cond (.t 72) k13_42 .skip
def k13_44 : ACode := .seq (.region k13_o20) k13_43
def k13_45 : ACode := .cond (.t 66) k13_37 k13_44
def k13_46 : ACode := .seq (.region k13_o18) k13_45
def k13_47 : ACode := .cond (.t 57) k13_35 k13_46
def k13_48 : ACode := .seq (.region k13_o16) k13_47
def k13_49 : ACode := .block 2 k13_48
def k13_50 : ACode := .seq (.region k13_o15) k13_49
abbrev k13_o23 : List AJ := [.o ⟨(some 79), none, false, .load 2 true (.t 4), none⟩, .o ⟨(some 80), none, false, .mv (.t 6), none⟩, .o ⟨none, none, false, .store 2 (.t 2) (.t 79), none⟩, .o ⟨(some 3), none, false, .mv (.t 80), (some [2, 3])⟩]
def k13_52 : ACode := .seq (.region k13_o23) .ret
def k13_53 : ACode := .seq k13_50 k13_52
def k13_54 : ACode := .seq k13_32 k13_53
def k13_55 : ACode := .seq (.region k13_o10) k13_54
def k13_56 : ACode := .seq k13_23 k13_55
def k13_57 : ACode := .seq k13_18 k13_56
def k13_58 : ACode := .seq (.region k13_o1) k13_57
def k13_59 : ACode := .seq (.region k13_o0) k13_58
@[simp, simp ↓] theorem k13_6r : rC k13_6 (.t 20) .skip (.exit 0) := zC rfl
@[simp, simp ↓] theorem k13_7r : sR k13_7 k13_o5 k13_6 := yR rfl
@[simp, simp ↓] theorem k13_8r : rR k13_8 k13_o6 := zR rfl
@[simp, simp ↓] theorem k13_10r : rR k13_10 k13_o7 := zR rfl
@[simp, simp ↓] theorem k13_11r : sB k13_11 1 k13_8 k13_10 := yB rfl
@[simp, simp ↓] theorem k13_12r : rS k13_12 k13_7 k13_11 := zS rfl
@[simp, simp ↓] theorem k13_13r : rL k13_13 k13_12 := zL rfl
@[simp, simp ↓] theorem k13_14r : rB k13_14 0 k13_13 := zB rfl
@[simp, simp ↓] theorem k13_15r : sR k13_15 k13_o4 k13_14 := yR rfl
@[simp, simp ↓] theorem k13_16r : sR k13_16 k13_o3 k13_15 := yR rfl
@[simp, simp ↓] theorem k13_17r : rC k13_17 (.t 11) k13_16 .skip := zC rfl
@[simp, simp ↓] theorem k13_18r : sR k13_18 k13_o2 k13_17 := yR rfl
@[simp, simp ↓] theorem k13_21r : sR k13_21 k13_o9 .ret := yR rfl
@[simp, simp ↓] theorem k13_22r : rC k13_22 (.t 33) k13_21 .skip := zC rfl
@[simp, simp ↓] theorem k13_23r : sR k13_23 k13_o8 k13_22 := yR rfl
@[simp, simp ↓] theorem k13_28r : rR k13_28 k13_o14 := zR rfl
@[simp, simp ↓] theorem k13_29r : sR k13_29 k13_o13 k13_28 := yR rfl
@[simp, simp ↓] theorem k13_30r : sR k13_30 k13_o12 k13_29 := yR rfl
@[simp, simp ↓] theorem k13_31r : rC k13_31 (.t 43) k13_30 .skip := zC rfl
@[simp, simp ↓] theorem k13_32r : sR k13_32 k13_o11 k13_31 := yR rfl
@[simp, simp ↓] theorem k13_35r : rR k13_35 k13_o17 := zR rfl
@[simp, simp ↓] theorem k13_37r : rR k13_37 k13_o19 := zR rfl
@[simp, simp ↓] theorem k13_40r : rR k13_40 k13_o22 := zR rfl
@[simp, simp ↓] theorem k13_41r : rC k13_41 (.t 76) k13_40 .skip := zC rfl
@[simp, simp ↓] theorem k13_42r : sR k13_42 k13_o21 k13_41 := yR rfl
@[simp, simp ↓] theorem k13_43r : rC k13_43 (.t 72) k13_42 .skip := zC rfl
@[simp, simp ↓] theorem k13_44r : sR k13_44 k13_o20 k13_43 := yR rfl
@[simp, simp ↓] theorem k13_45r : rC k13_45 (.t 66) k13_37 k13_44 := zC rfl
@[simp, simp ↓] theorem k13_46r : sR k13_46 k13_o18 k13_45 := yR rfl
@[simp, simp ↓] theorem k13_47r : rC k13_47 (.t 57) k13_35 k13_46 := zC rfl
@[simp, simp ↓] theorem k13_48r : sR k13_48 k13_o16 k13_47 := yR rfl
@[simp, simp ↓] theorem k13_49r : rB k13_49 2 k13_48 := zB rfl
@[simp, simp ↓] theorem k13_50r : sR k13_50 k13_o15 k13_49 := yR rfl
@[simp, simp ↓] theorem k13_52r : sR k13_52 k13_o23 .ret := yR rfl
@[simp, simp ↓] theorem k13_53r : rS k13_53 k13_50 k13_52 := zS rfl
@[simp, simp ↓] theorem k13_54r : rS k13_54 k13_32 k13_53 := zS rfl
@[simp, simp ↓] theorem k13_55r : sR k13_55 k13_o10 k13_54 := yR rfl
@[simp, simp ↓] theorem k13_56r : rS k13_56 k13_23 k13_55 := zS rfl
@[simp, simp ↓] theorem k13_57r : rS k13_57 k13_18 k13_56 := zS rfl
@[simp, simp ↓] theorem k13_58r : sR k13_58 k13_o1 k13_57 := yR rfl
@[simp, simp ↓] theorem k13_59r : sR k13_59 k13_o0 k13_58 := yR rfl
noncomputable abbrev k13_C : Orc → Cx := mkC Try.prog [2, 4, 99998] 13 81 [.cell 2 2 true, .tmp 3]
theorem k13_of : OfP Try.prog Try.f13 13 81 k13_C k13_59 := @ofP _ _ _ _ _ _ _ _ Try.func13 (by decide +kernel) rfl (by kernel_rfl) rfl (by kernel_rfl)
theorem l24Draw_m {ids : Nat} {code : List UInt8} {k : Int} {b : Blk} {h : Heap} (hid : ids ∉ dom h) (hb : isSrc code k b) (hk : k ≤ 10000) (hl : code.length ≤ 1048576) :
    ACalls Try.prog 13 [.ptr ids 3 0 0] ((ids, b) :: h) (DrR code ids (k + 3000) h) := by
  obtain ⟨R, hR⟩ : ∃ R, R = DrR code ids (k + 3000) h := ⟨_, rfl⟩
  rw [← hR]
  refine k13_of rfl noPure fun I => ?_
  refine Run2.of I 1000 ?_
  simp -implicitDefEqProofs
  intro id2 a1 a2
  have a1' : ¬ ids = id2 := fun e => a1 e.symm
  refine gK.go ?_
  simp -implicitDefEqProofs
  refine ACalls.inSub' (List.Perm.swap ..) ((l16Draw_m (h := (id2, ⟨2, [.agg [.int .i64 0, .nilsl]]⟩) :: h) (by simp only [dom_cons, List.mem_cons, not_or]; exact ⟨a1', hid⟩) hb (by omega) hl).monoN ?_)
  rintro v h' ⟨n, ts, w, g, b1, rfl, hn, hts, _, hg, hb1, rfl⟩ nd
  have hc := hg.cell
  simp only [dom_append, dom_cons, List.nodup_append, List.nodup_cons, List.mem_cons, not_or] at nd
  have gs : ids ∉ dom g := fun h => nd.2.2 ids h ids (.inl rfl) rfl
  have g2 : id2 ∉ dom g := fun h => nd.2.2 id2 h id2 (.inr (.inl rfl)) rfl
  refine gK.go ?_
  simp -implicitDefEqProofs [hc]
  intro id4 c1 c2 c3 c4
  have c2' : ¬ ids = id4 := fun e => c2 e.symm
  have c3' : ¬ id2 = id4 := fun e => c3 e.symm
  refine gK.go ?_
  simp -implicitDefEqProofs [hc, c1, c2, c3, c2', c3', a1, a1', hget_app gs, hget_app g2, hget_app c1]
  refine (one_m (b := b1) (by simp [hget, c2, hget_app gs]) hb1 (by omega) hl (by omega)).mono ?_
  rintro v h' ⟨q, b2, rfl, hb2, rfl⟩
  simp only [hset, if_neg c2, hset_app gs, if_true]
  have tail2 : ∀ (N : Nat) (w : AV) (E : Env), ((((N = 955 ∨ N = 962) ∧ E = [(55, .ptr ids 3 0 0), (0, .ptr ids 3 0 0), (2, .ptr id2 2 0 0), (4, .ptr id4 2 0 0), (6, w), (43, .bool false)]) ∨ ((N = 937 ∨ N = 944) ∧ E = [(55, .ptr ids 3 0 0), (0, .ptr ids 3 0 0), (2, .ptr id2 2 0 0), (4, .ptr id4 2 0 0), (6, w)]))) → ∀ (x : Gr) (rs : List (List Int)) (hp : Heap) (b2 : Blk), grOk x → isSrc code (k + 2020) b2 → Grow 1 w (rs.map il) hp → ssTot rs ≤ 48 → id4 ∉ dom hp → ids ∉ dom hp → id2 ∉ dom hp → ACalls Try.prog 24 [.ptr ids 3 0 0, .int .i64 16] (hp ++ (id4, ⟨2, [x.av]⟩) :: (ids, b2) :: (id2, ⟨2, [.agg [.int .i64 0, .nilsl]]⟩) :: h)
      (gK (k13_C noOrc) N (some 56) (some [0, 2, 4, 6, 56]) [] [.code k13_49, .code k13_52] (Post R) E) := by
    clear hb1 hb2 hg hts hn hc nd gs g2 c1
    intro N w E hNE x rs hp b2 hx hb2 hg hss s4 ss s2
    have hc := hg.cell
    have hlen := hg.len
    have fin0 : ∀ (x' : AV) (rs' : List (List Int)) (b' : Blk) (bx : Blk), ssTot rs' ≤ 100 → isSrc code (k + 2030) b' → Post R (.tup [.agg [.int .i64 x.n, .snap 3 (x.ts.map T.av)], .snap 1 (rs'.map il)]) ((id4, bx) :: (ids, b') :: (id2, ⟨2, [x']⟩) :: h) := by
      intro x' rs' b' bx hs' hb'
      refine .drop id4 ?_
      simp only [hdel, if_true]
      refine .drop id2 ?_
      simp only [hdel, if_neg a1', if_true]
      rw [hR]
      exact .base ⟨x, rs', b', rfl, hx, by omega, hb'.mono (by omega), rfl⟩
    have fin : ∀ (x' : AV) (w' : AV) (rs' : List (List Int)) (hp' : Heap) (b' : Blk) (bx : Blk), Grow 1 w' (rs'.map il) hp' → ssTot rs' ≤ 100 → id2 ∉ dom hp' → id4 ∉ dom hp' → isSrc code (k + 2030) b' → Post R (.tup [.agg [.int .i64 x.n, .snap 3 (x.ts.map T.av)], w']) (hp' ++ (id4, bx) :: (ids, b') :: (id2, ⟨2, [x']⟩) :: h) := by
      intro x' w' rs' hp' b' bx hg' hs' d2 d4 hb'
      have fin1 := fin0 x' rs' b' bx hs' hb'
      generalize hL : rs'.map il = L at hg' fin1
      cases hg' with
      | nil => exact .wk (Wk.tup (.cons (.refl _) (.cons (Wk.nil 1) .nil))) fin1
      | emp => exact .wk (Wk.tup (.cons (.refl _) (.cons (Wk.emp 1) .nil))) fin1
      | sl idw _ m hm =>
        refine .freeze idw (b := ⟨1, L⟩) (by simp [hget]) ?_
        subst hm
        have e1 : fz idw ⟨1, L⟩ (.tup [.agg [.int .i64 x.n, .snap 3 (x.ts.map T.av)], .sl idw 1 0 L.length none]) = .tup [.agg [.int .i64 x.n, .snap 3 (x.ts.map T.av)], .snap 1 L] := by
          simp only [fz, fzs, fzs_T]
          simp
        rw [e1]
        simpa [hdel] using fin1
    refine (pick_m (b := b2) (by simp [hget, c2, hget_app ss]) hb2 (by omega) hl (by omega)).mono ?_
    rintro v h' ⟨q, b3, rfl, hq, hb3, rfl⟩
    rw [hset_app ss]
    simp only [hset, if_neg c2, if_true]
    have hq3 : q = 0 ∨ q = 1 ∨ q = 2 ∨ (¬ q = 0 ∧ ¬ q = 1 ∧ ¬ q = 2) := by omega
    rcases hNE with ⟨rfl | rfl, rfl⟩ | ⟨rfl | rfl, rfl⟩
    all_goals
      rcases hq3 with rfl | rfl | rfl | ⟨q0, q1, q2⟩
      · refine gK.go ?_
        simp -implicitDefEqProofs [hc, hlen, c2, c3, c2', c3', a1, a1']
        refine (among_m (l := [-1, 0, 24]) (b := b3) (by simp [hget, c2, hget_app ss]) hb3 (by omega) hl (by simp)).mono ?_
        rintro v h' ⟨c, b4, rfl, hcm, hb4, rfl⟩
        rw [hset_app ss]
        simp only [hset, if_neg c2, if_true]
        refine gK.go ?_
        simp -implicitDefEqProofs [hc, hlen, c2, c3, c2', c3', a1, a1']
        refine hg.app_mid (pre := []) (by simp [dom]) (by simp; unfold ssTot at hss; omega) (by simp) fun w2 g2 hg2 hd2 => ?_
        have q4 : id4 ∉ dom g2 := fun h => hd2 _ h (by simp [dom])
        have q2 : id2 ∉ dom g2 := fun h => hd2 _ h (by simp [dom])
        have qs : ids ∉ dom g2 := fun h => hd2 _ h (by simp [dom])
        have hc2 := hg2.cell
        simp -implicitDefEqProofs [hget_app q4, hget_app q2, hget_app qs, hset_app q2, hc2, cells_of hc2, stor_of hc2, c2, c3, c2', c3', a1, a1']
        exact fin _ w2 (rs ++ [[c]]) g2 b4 _ (by simpa using hg2) (by have e := ssTot_put rs ([c] : List Int); simp at e; omega) q2 q4 (hb4.mono (by omega))
      · refine gK.go ?_
        simp -implicitDefEqProofs [hc, hlen, c2, c3, c2', c3', a1, a1']
        refine hg.app_mid (pre := []) (by simp [dom]) (by simp; unfold ssTot at hss; omega) (by simp) fun w2 g2 hg2 hd2 => ?_
        have q4 : id4 ∉ dom g2 := fun h => hd2 _ h (by simp [dom])
        have q2 : id2 ∉ dom g2 := fun h => hd2 _ h (by simp [dom])
        have qs : ids ∉ dom g2 := fun h => hd2 _ h (by simp [dom])
        have hc2 := hg2.cell
        simp -implicitDefEqProofs [hget_app q4, hget_app q2, hget_app qs, hset_app q2, hc2, cells_of hc2, stor_of hc2, c2, c3, c2', c3', a1, a1']
        exact fin _ w2 (rs ++ [[]]) g2 b3 _ (by simpa using hg2) (by have e := ssTot_put rs ([] : List Int); simp at e; omega) q2 q4 (hb3.mono (by omega))
      · by_cases hrs : rs = []
        · subst hrs
          refine gK.go ?_
          simp -implicitDefEqProofs [hc, hlen, c2, c3, c2', c3', a1, a1', hget_app s4, hget_app s2, hset_app s2]
          exact fin _ w [] hp b3 _ hg (by simp [ssTot, sumL]) s2 s4 (hb3.mono (by omega))
        · obtain ⟨idw, rfl, rfl⟩ := hg.ne (by simpa using hrs)
          obtain ⟨r0, rt, rfl⟩ : ∃ r0 rt, rs = r0 :: rt := by
            cases rs with
            | nil => exact absurd rfl hrs
            | cons r0 rt => exact ⟨r0, rt, rfl⟩
          simp only [dom, List.map_cons, List.map_nil, List.mem_singleton] at s4 s2 ss
          refine gK.go ?_
          have s4' : ¬ idw = id4 := fun e => s4 e.symm
          have s2' : ¬ idw = id2 := fun e => s2 e.symm
          have ss' : ¬ idw = ids := fun e => ss e.symm
          simp -implicitDefEqProofs [hc, hlen, c2, c3, c2', c3', a1, a1', s4, s2, ss, s4', s2', ss']
          refine ⟨by omega, ?_⟩
          refine .freeze idw (b := ⟨1, .snap 1 (r0.map iv) :: rt.map il⟩) (by simp [hget]) ?_
          have e1 : fz idw ⟨1, .snap 1 (r0.map iv) :: rt.map il⟩ (.tup [.agg [.int .i64 x.n, .snap 3 (x.ts.map T.av)], .sl idw 1 1 rt.length none]) = .tup [.agg [.int .i64 x.n, .snap 3 (x.ts.map T.av)], .snap 1 (rt.map il)] := by
            simp only [fz, fzs, fzs_T]
            simp [Nat.add_comm]
            exact List.take_of_length_le (by simp)
          rw [e1]
          have e2 : ssTot rt ≤ 100 := by
            have : ssTot (r0 :: rt) = ssTot rt + 1 + r0.length := by (simp [ssTot, sumL]; omega)
            omega
          simpa [hdel] using fin0 _ rt b3 _ e2 (hb3.mono (by omega))
      · refine gK.go ?_
        simp -implicitDefEqProofs [hc, hlen, q0, q1, q2, c2, c3, c2', c3', a1, a1', hget_app s4, hget_app s2, hset_app s2]
        exact fin _ w rs hp b3 _ hg (by omega) s2 s4 (hb3.mono (by omega))
  have tail : ∀ (N : Nat) (E : Env), ((N = 979 ∧ E = [(0, .ptr ids 3 0 0), (2, .ptr id2 2 0 0), (4, .ptr id4 2 0 0), (11, .bool false)]) ∨ (N = 986 ∧ ∃ a c, E = [(0, .ptr ids 3 0 0), (2, .ptr id2 2 0 0), (4, .ptr id4 2 0 0), (5, .int .i64 a), (20, .bool c)])) → ∀ (x : Gr) (b2 : Blk), grOk x → isSrc code (k + 2010) b2 → ACalls Try.prog 25 [.ptr id4 2 0 0] ((id4, ⟨2, [x.av]⟩) :: (ids, b2) :: (id2, ⟨2, [.agg [.int .i64 0, .nilsl]]⟩) :: h)
      (gK (k13_C noOrc) N (some 32) none [.o { d := some 33, g := none, w := false, op := .un .not (.t 32), ks := some [0, 2, 4, 33] }] [.code k13_22, .code k13_55] (Post R) E) := by
    clear hb1 hb2 hg hts hn hc nd gs g2 c1
    intro N E hNE x b2 hx hb2
    obtain ⟨hok, hl60⟩ := hx.ok
    have hcall : ∀ (H : Heap), (id4, (⟨2, [x.av]⟩ : Blk)) ∈ H → ACalls Try.prog 25 [.ptr id4 2 0 0] H (fun v h' => v = .bool (decide x.valid) ∧ h' = H) := fun H hm => by
      refine ACalls.reads [(id4, ⟨2, [x.av]⟩)] (fun p hp => by rw [List.mem_singleton.1 hp]; exact hm) ?_ rfl
      simpa [lend, fz, fzs, cellsOf] using l16Ok_c x [] (by omega) hok
    refine (hcall _ (List.mem_cons_self ..)).mono ?_
    rintro v h' ⟨rfl, rfl⟩
    by_cases hv : x.valid
    · have h24 := hv.2.2.2
      have hcall2 := l24Greedy_f x h24 id4
      have hss : ssTot (x.greedy x.ts.length) ≤ 48 := by
        obtain ⟨q1, q2, _⟩ := x.greedy_inv x.ts.length
        unfold ssTot; omega
      generalize x.greedy x.ts.length = rs at *
      rcases hNE with ⟨rfl, rfl⟩ | ⟨rfl, a, c, rfl⟩
      all_goals
        refine gK.go ?_
        simp -implicitDefEqProofs [hv, c2, c3, c2', c3', a1, a1']
        refine (hcall2 _ (List.mem_cons_self ..)).mono ?_
        rintro v h' ⟨hp, hg, hd, rfl⟩
        have hc := hg.cell
        have hlen := hg.len
        refine gK.go ?_
        simp -implicitDefEqProofs [hc, hlen, c2, c3, c2', c3', a1, a1']
        have s4 : id4 ∉ dom hp := fun hm => hd _ hm (by simp [dom])
        have ss : ids ∉ dom hp := fun hm => hd _ hm (by simp [dom])
        have s2 : id2 ∉ dom hp := fun hm => hd _ hm (by simp [dom])
        refine ⟨fun h1 => ?_, fun h1 => ?_⟩
        · refine (one_m (b := b2) (by simp [hget, c2, hget_app ss]) hb2 (by omega) hl (by omega)).mono ?_
          rintro v h' ⟨q, b3, rfl, hb3, rfl⟩
          rw [hset_app ss]
          simp only [hset, if_neg c2, if_true]
          cases q with
          | false =>
            refine gK.go ?_
            simp -implicitDefEqProofs [hc, hlen, c2, c3, c2', c3', a1, a1']
            exact tail2 _ v _ (by simp) x rs hp b3 hx (hb3.mono (by omega)) hg hss s4 ss s2
          | true =>
            obtain ⟨r0, r1, rt, rfl⟩ : ∃ r0 r1 rt, rs = r0 :: r1 :: rt := by
              match rs, h1 with
              | [], h1 => simp at h1
              | [_], h1 => simp at h1
              | r0 :: r1 :: rt, _ => exact ⟨r0, r1, rt, rfl⟩
            obtain ⟨idw, rfl, rfl⟩ := hg.ne (by simp)
            refine gK.go ?_
            simp -implicitDefEqProofs [hc, hlen, c2, c3, c2', c3', a1, a1']
            exact tail2 _ (.sl idw 1 0 (rt.length + 1 + 1) none) _ (by simp) x (r1 :: r0 :: rt) [(idw, ⟨1, (r1 :: r0 :: rt).map il⟩)] b3 hx (hb3.mono (by omega)) (.sl idw _ _ (by simp)) (by rw [ssTot_swap]; exact hss) s4 ss s2
        · exact tail2 _ v _ (by simp) x rs hp b2 hx (hb2.mono (by omega)) hg hss s4 ss s2
    · rcases hNE with ⟨rfl, rfl⟩ | ⟨rfl, a, c, rfl⟩
      all_goals
        refine gK.go ?_
        simp -implicitDefEqProofs [hv, c2, c3, c2', c3', a1, a1']
        refine .drop id4 ?_
        simp only [hdel, if_true]
        refine .drop id2 ?_
        simp only [hdel, if_neg a1', if_true]
        rw [hR]
        exact .base ⟨x, [], b2, rfl, hx, by simp [ssTot, sumL], hb2.mono (by omega), rfl⟩
  cases q with
  | false =>
    refine gK.go ?_
    simp -implicitDefEqProofs [hc, c1, c2, c3, c2', c3', a1, a1', hget_app gs, hget_app g2, hget_app c1]
    refine frz_gr (rest := (ids, b2) :: (id2, _) :: h) hg c1 (fun i b h => by simp [fzs, fz, h]) (tail _ _ (.inl ⟨rfl, rfl⟩) ⟨n, ts⟩ b2 ⟨hn, hts⟩ (hb2.mono (by omega)))
  | true =>
    refine gK.go ?_
    simp -implicitDefEqProofs [hc, c1, c2, c3, c2', c3', a1, a1', hget_app gs, hget_app g2, hget_app c1]
    refine (pick_m (b := b2) (by simp [hget, c2, hget_app gs]) hb2 (by omega) hl (by omega)).mono ?_
    rintro v h' ⟨m0, b3, rfl, hm0, hb3, rfl⟩
    obtain ⟨m, rfl⟩ : ∃ m : Nat, m0 = (m : Int) := ⟨m0.toNat, by omega⟩
    simp only [hset, if_neg c2, hset_app gs, if_true]
    refine gK.go ?_
    simp -implicitDefEqProofs [hc, c1, c2, c3, c2', c3', a1, a1', hget_app gs, hget_app g2, hget_app c1]
    refine ⟨by omega, ?_⟩
    refine Run2.sub (h' := (id4, ⟨2, [.agg [.int .i64 (2 + m), .nilsl]]⟩) :: (ids, b3) :: (id2, ⟨2, [.agg [.int .i64 0, .nilsl]]⟩) :: h) (fun p hp => ?_) (fun nd2 => ?_) ?_
    · simp only [List.mem_cons, List.mem_append] at hp ⊢
      rcases hp with hp | hp
      · exact .inl hp
      · exact .inr (.inr hp)
    · simp only [dom_append, dom_cons, List.nodup_cons, List.nodup_append, List.mem_append, List.mem_cons, not_or] at nd2 ⊢
      exact ⟨nd2.1.2, nd2.2.2.1⟩
    refine Run2.loopE (α := Nat × List T × AV × Heap) (fun s => [(0, .ptr ids 3 0 0), (2, .ptr id2 2 0 0), (4, .ptr id4 2 0 0), (5, .int .i64 (s.1 : Nat))])
      (fun s => s.2.2.2 ++ (id4, ⟨2, [.agg [.int .i64 (2 + m), s.2.2.1]]⟩) :: (ids, b3) :: (id2, ⟨2, [.agg [.int .i64 0, .nilsl]]⟩) :: h) (fun s => m + 1 - s.1)
      (fun s => s.1 ≤ m + 1 ∧ esOk s.2.1 ∧ s.2.1.length = s.1 ∧ Grow 3 s.2.2.1 (s.2.1.map T.av) s.2.2.2) (0, [], .nilsl, []) (by simp) (by simp) ⟨Nat.zero_le _, ⟨by simp, by simp⟩, rfl, .nil⟩ ?_
    rintro ⟨i, es, w', gt⟩ ⟨hi, hes, hel, hgt⟩ ih
    replace hi : i ≤ m + 1 := hi
    simp only at hes hel hgt ih ⊢
    refine Run2.nd fun nd2 => ?_
    simp only [dom_append, dom_cons, List.nodup_append, List.nodup_cons, List.mem_cons, not_or] at nd2
    have p4 : id4 ∉ dom gt := fun h => nd2.2.2 id4 h id4 (.inl rfl) rfl
    have ps : ids ∉ dom gt := fun h => nd2.2.2 ids h ids (.inr (.inl rfl)) rfl
    have p2 : id2 ∉ dom gt := fun h => nd2.2.2 id2 h id2 (.inr (.inr (.inl rfl))) rfl
    have hc' := hgt.cell
    by_cases hlt : i + 1 < 2 + m
    · have go := fun es' w'' g' q1 q2 q3 => ih (i + 1, es', w'', g') ⟨by simp only; omega, q1, q2, q3⟩ (by simp only; omega)
      clear ih
      simp only at go
      have hlt' : (i : Int) + 1 < 2 + m := by omega
      refine Run2.of I 1000 ?_
      simp -implicitDefEqProofs [hlt', hget_app p4, hget_app p2, hget_app ps, hc', cells_of hc', stor_of hc', c2, c3, c2', c3', a1, a1']
      refine ⟨by omega, ?_⟩
      refine hgt.app_mid (pre := []) (by simp [dom]) (by simp; omega) (by simp) fun w2 g2 hg2 hd2 => ?_
      have q4 : id4 ∉ dom g2 := fun h => hd2 _ h (by simp [dom])
      have q2 : id2 ∉ dom g2 := fun h => hd2 _ h (by simp [dom])
      have qs : ids ∉ dom g2 := fun h => hd2 _ h (by simp [dom])
      have hc2 := hg2.cell
      have go3 := go (es ++ [⟨i, i + 1, 1⟩]) w2 g2 (hes.put (by omega) (by unfold eOk; simp only; omega)) (by simp; omega) (by simpa using hg2)
      simp -implicitDefEqProofs [hget_app q4, hget_app q2, hget_app qs, hset_app q4, hc2, cells_of hc2, stor_of hc2, c2, c3, c2', c3', a1, a1']
      exact ⟨by omega, by simpa using go3⟩
    · obtain rfl : i = m + 1 := by omega
      have hlt' : ¬ ((m : Int) + 1 + 1 < 2 + m) := by omega
      clear ih
      refine Run2.of I 1000 ?_
      simp -implicitDefEqProofs [hlt', hget_app p4, hget_app p2, hget_app ps, hset_app p2, hc', cells_of hc', stor_of hc', c2, c3, c2', c3', a1, a1']
      refine ⟨by omega, ?_⟩
      refine ACalls.inSub' (h' := (id4, ⟨2, [.agg [.int .i64 (2 + m), w']]⟩) :: (gt ++ (ids, b3) :: (id2, _) :: h)) List.perm_middle ?_
      exact frz_gr (rest := (ids, b3) :: (id2, _) :: h) hgt p4 (fun i b h => by simp [fzs, fz, h]) (tail _ _ (.inr ⟨rfl, _, _, rfl⟩) ⟨2 + m, es⟩ b3 ⟨by simp only; omega, hes⟩ (hb3.mono (by omega)))
end Go.AG
namespace Go.AG
open Go.Proofs Go.Proofs.Ytpndpligcphonaa
set_option linter.unusedSimpArgs false
set_option linter.unusedVariables false
set_option maxRecDepth 4000
def vOk (v : List Int) : Prop := v.length ≤ 21 ∧ ∀ a ∈ v, -1000001 ≤ a ∧ a ≤ 1000001
theorem vOk.put {v : List Int} {a : Int} (h : vOk v) (hl : v.length < 21) (ha : -1000001 ≤ a ∧ a ≤ 1000001) : vOk (v ++ [a]) := by
  refine ⟨by simp; omega, fun x hx => ?_⟩
  rcases List.mem_append.1 hx with hx | hx
  · exact h.2 x hx
  · rw [List.mem_singleton.1 hx]; exact ha
abbrev k14_o0 : List AJ := [.o ⟨(some 4), none, false, .mv (.c .nilsl), (some [0, 1])⟩]
abbrev k14_o1 : List AJ := [.e 7 1 none, .o ⟨(some 5), none, false, .mv (.t 7), (some [0, 1, 5])⟩]
abbrev k14_o2 : List AJ := [.o ⟨(some 6), none, false, .mv (.c (.int .i64 0)), (some [0, 1, 5, 6])⟩]
abbrev k14_o3 : List AJ := [.o ⟨(some 8), none, false, .mv (.t 6), none⟩, .o ⟨(some 9), none, false, .mv (.t 1), none⟩, .o ⟨(some 10), none, false, .nilchk (.t 9), none⟩, .o ⟨(some 11), none, false, .fieldA 0 (.t 10), none⟩, .o ⟨(some 12), none, false, .load 1 false (.t 11), none⟩, .o ⟨(some 13), none, false, .bin .lss (.t 8) (.t 12), none⟩, .o ⟨(some 14), none, false, .mv (.t 13), none⟩, .o ⟨(some 15), (some (14, true)), false, .mv (.t 6), none⟩, .o ⟨(some 16), (some (14, true)), false, .bin .lss (.t 15) (.c (.int .i64 20)), none⟩, .o ⟨(some 17), none, false, .pick (.t 14) (.t 16) (.c (.bool false)), (some [0, 1, 5, 6, 17])⟩]
def k14_4 : ACode := .cond (.t 17) .skip (.exit 0)
def k14_5 : ACode := .seq (.region k14_o3) k14_4
abbrev k14_o4 : List AJ := [.o ⟨(some 20), none, false, .mv (.t 5), none⟩, .o ⟨(some 21), none, false, .mv (.t 0), none⟩, .o ⟨(some 22), none, false, .bsl false 1 [(.c (.int .i64 0)), (.c (.int .i64 1)), (.c (.int .i64 (-3))), (.c (.int .i64 7)), (.c (.int .i64 1000000)), (.c (.int .i64 (-1000000))), (.c (.int .i64 2))], none⟩, .o ⟨(some 23), none, false, .call 20 [(.t 21), (.t 22)], none⟩, .o ⟨(some 24), none, false, .bsl false 1 [(.t 23)], none⟩, .o ⟨(some 25), none, false, .append 1 8 (.t 20) (.t 24), none⟩, .o ⟨(some 5), none, false, .mv (.t 25), (some [0, 1, 5, 6])⟩]
def k14_6 : ACode := .region k14_o4
abbrev k14_o5 : List AJ := [.o ⟨(some 18), none, false, .mv (.t 6), none⟩, .o ⟨(some 19), none, true, .bin .add (.t 18) (.c (.int .i64 1)), none⟩, .o ⟨(some 6), none, false, .mv (.t 19), (some [0, 1, 5, 6])⟩]
def k14_8 : ACode := .region k14_o5
def k14_9 : ACode := .seq (.block 1 k14_6) k14_8
def k14_10 : ACode := .seq k14_5 k14_9
def k14_11 : ACode := .loop k14_10
def k14_12 : ACode := .block 0 k14_11
def k14_13 : ACode := .seq (.region k14_o2) k14_12
abbrev k14_o6 : List AJ := [.o ⟨(some 26), none, false, .mv (.t 0), none⟩, .o ⟨(some 27), none, false, .call 24 [(.t 26), (.c (.int .i64 16))], (some [0, 5, 27])⟩]
abbrev k14_o7 : List AJ := [.o ⟨(some 29), none, false, .bin .eql (.t 27) (.c (.int .i64 0)), none⟩, .o ⟨(some 28), none, false, .mv (.t 29), (some [0, 5, 27, 28])⟩]
abbrev k14_o8 : List AJ := [.o ⟨(some 30), none, false, .mv (.t 5), none⟩, .o ⟨(some 31), none, false, .bsl false 1 [(.c (.int .i64 0))], none⟩, .o ⟨(some 32), none, false, .append 1 8 (.t 30) (.t 31), none⟩, .o ⟨(some 5), none, false, .mv (.t 32), (some [5])⟩]
def k14_16 : ACode := .region k14_o8
abbrev k14_o9 : List AJ := [.o ⟨(some 34), none, false, .bin .eql (.t 27) (.c (.int .i64 1)), none⟩, .o ⟨(some 33), none, false, .mv (.t 34), (some [0, 5, 33])⟩]
abbrev k14_o10 : List AJ := [.o ⟨(some 35), none, false, .mv (.t 5), none⟩, .o ⟨(some 36), none, false, .len (.t 35), none⟩, .o ⟨(some 37), none, false, .bin .gtr (.t 36) (.c (.int .i64 0)), (some [0, 5, 37])⟩]
abbrev k14_o11 : List AJ := [.o ⟨(some 38), none, false, .mv (.t 5), none⟩, .o ⟨(some 39), none, false, .mv (.t 0), none⟩, .o ⟨(some 40), none, false, .bsl false 1 [(.c (.int .i64 (-1000001))), (.c (.int .i64 1000001))], none⟩, .o ⟨(some 41), none, false, .call 20 [(.t 39), (.t 40)], none⟩, .o ⟨(some 42), none, false, .idxA 1 (.t 38) (.c (.int .i64 0)), none⟩, .o ⟨none, none, false, .store 1 (.t 42) (.t 41), (some [5])⟩]
def k14_19 : ACode := .region k14_o11
def k14_20 : ACode := .cond (.t 37) k14_19 .skip
def k14_21 : ACode := .seq (.region k14_o10) k14_20
def k14_22 : ACode := .cond (.t 33) k14_21 .skip
def k14_23 : ACode := .seq (.region k14_o9) k14_22
def k14_24 : ACode := .cond (.t 28) k14_16 k14_23
def k14_25 : ACode := .seq (.region k14_o7) k14_24
def k14_26 : ACode := .block 2 k14_25
def k14_27 : ACode := .seq (.region k14_o6) k14_26
abbrev k14_o12 : List AJ := [.o ⟨(some 43), none, false, .mv (.t 5), none⟩, .o ⟨(some 4), none, false, .mv (.t 43), (some [4])⟩]
def k14_29 : ACode := .seq (.region k14_o12) .ret
def k14_30 : ACode := .seq k14_27 k14_29
def k14_31 : ACode := .seq k14_13 k14_30
def k14_32 : ACode := .seq (.region k14_o1) k14_31
def k14_33 : ACode := .seq (.region k14_o0) k14_32
@[simp, simp ↓] theorem k14_4r : rC k14_4 (.t 17) .skip (.exit 0) := zC rfl
@[simp, simp ↓] theorem k14_5r : sR k14_5 k14_o3 k14_4 := yR rfl
@[simp, simp ↓] theorem k14_6r : rR k14_6 k14_o4 := zR rfl
@[simp, simp ↓] theorem k14_8r : rR k14_8 k14_o5 := zR rfl
@[simp, simp ↓] theorem k14_9r : sB k14_9 1 k14_6 k14_8 := yB rfl
@[simp, simp ↓] theorem k14_10r : rS k14_10 k14_5 k14_9 := zS rfl
@[simp, simp ↓] theorem k14_11r : rL k14_11 k14_10 := zL rfl
@[simp, simp ↓] theorem k14_12r : rB k14_12 0 k14_11 := zB rfl
@[simp, simp ↓] theorem k14_13r : sR k14_13 k14_o2 k14_12 := yR rfl
@[simp, simp ↓] theorem k14_16r : rR k14_16 k14_o8 := zR rfl
@[simp, simp ↓] theorem k14_19r : rR k14_19 k14_o11 := zR rfl
@[simp, simp ↓] theorem k14_20r : rC k14_20 (.t 37) k14_19 .skip := zC rfl
@[simp, simp ↓] theorem k14_21r : sR k14_21 k14_o10 k14_20 := yR rfl
@[simp, simp ↓] theorem k14_22r : rC k14_22 (.t 33) k14_21 .skip := zC rfl
@[simp, simp ↓] theorem k14_23r : sR k14_23 k14_o9 k14_22 := yR rfl
@[simp, simp ↓] theorem k14_24r : rC k14_24 (.t 28) k14_16 k14_23 := zC rfl
@[simp, simp ↓] theorem k14_25r : sR k14_25 k14_o7 k14_24 := yR rfl
@[simp, simp ↓] theorem k14_26r : rB k14_26 2 k14_25 := zB rfl
@[simp, simp ↓] theorem k14_27r : sR k14_27 k14_o6 k14_26 := yR rfl
@[simp, simp ↓] theorem k14_29r : sR k14_29 k14_o12 .ret := yR rfl
@[simp, simp ↓] theorem k14_30r : rS k14_30 k14_27 k14_29 := zS rfl
@[simp, simp ↓] theorem k14_31r : rS k14_31 k14_13 k14_30 := zS rfl
@[simp, simp ↓] theorem k14_32r : sR k14_32 k14_o1 k14_31 := yR rfl
@[simp, simp ↓] theorem k14_33r : sR k14_33 k14_o0 k14_32 := yR rfl
noncomputable abbrev k14_C : Orc → Cx := mkC Try.prog [7, 99998] 14 44 [.tmp 4]
theorem k14_of : OfP Try.prog Try.f14 14 44 k14_C k14_33 := @ofP _ _ _ _ _ _ _ _ Try.func14 (by decide +kernel) rfl (by kernel_rfl) rfl (by kernel_rfl)
theorem l16DrawVector_m {ids idg : Nat} {code : List UInt8} {k : Int} {b bg : Blk} {x : Gr} {h : Heap} (hne : ids ≠ idg) (hbg : bg = ⟨2, [x.av]⟩) (hb : isSrc code k b) (hk : k ≤ 100000) (hl : code.length ≤ 1048576) (hx : grOk x) :
    ACalls Try.prog 14 [.ptr ids 3 0 0, .ptr idg 2 0 0] ((idg, bg) :: (ids, b) :: h) (fun r h' => ∃ (v : List Int) (b' : Blk), r = .snap 1 (v.map iv) ∧ vOk v ∧ isSrc code (k + 100) b' ∧ h' = (idg, bg) :: (ids, b') :: h) := by
  subst hbg
  obtain ⟨R, hR⟩ : ∃ R, R = fun (r : AV) (h' : Heap) => ∃ (v : List Int) (b' : Blk), r = .snap 1 (v.map iv) ∧ vOk v ∧ isSrc code (k + 100) b' ∧ h' = (idg, ⟨2, [x.av]⟩) :: (ids, b') :: h := ⟨_, rfl⟩
  rw [← hR]
  have hne' : ¬ idg = ids := fun e => hne e.symm
  have hn := hx.1
  have fin : ∀ (v : List Int) (w : AV) (hp : Heap) (b' : Blk), vOk v → Grow 1 w (v.map iv) hp → isSrc code (k + 100) b' → Post R w (hp ++ (idg, ⟨2, [.agg [.int .i64 x.n, .snap 3 (x.ts.map T.av)]]⟩) :: (ids, b') :: h) := by
    intro v w hp b' hv hg hb'
    have fin1 : Post R (.snap 1 (v.map iv)) ((idg, ⟨2, [.agg [.int .i64 x.n, .snap 3 (x.ts.map T.av)]]⟩) :: (ids, b') :: h) := by
      rw [hR]
      exact .base ⟨v, b', rfl, hv, hb', rfl⟩
    generalize hL : v.map iv = L at hg fin1
    cases hg with
    | nil => exact .wk (Wk.nil 1) fin1
    | emp => exact .wk (Wk.emp 1) fin1
    | sl idw _ m hm =>
      refine .freeze idw (b := ⟨1, L⟩) (by simp [hget]) ?_
      subst hm
      have e1 : fz idw ⟨1, L⟩ (.sl idw 1 0 L.length none) = .snap 1 L := by simp [fz]
      rw [e1]
      simpa [hdel] using fin1
  refine k14_of rfl noPure fun I => ?_
  refine Run2.of I 1000 ?_
  simp -implicitDefEqProofs
  refine Run2.loopE (α := Nat × Blk × List Int × AV × Heap) (fun s => [(0, .ptr ids 3 0 0), (1, .ptr idg 2 0 0), (5, s.2.2.2.1), (6, .int .i64 (s.1 : Nat))])
    (fun s => s.2.2.2.2 ++ (idg, ⟨2, [.agg [.int .i64 x.n, .snap 3 (x.ts.map T.av)]]⟩) :: (ids, s.2.1) :: h) (fun s => 20 - s.1)
    (fun s => s.1 ≤ 20 ∧ isSrc code (k + 2 * (s.1 : Int)) s.2.1 ∧ vOk s.2.2.1 ∧ s.2.2.1.length = s.1 ∧ Grow 1 s.2.2.2.1 (s.2.2.1.map iv) s.2.2.2.2)
    (0, b, [], .emp, []) (by simp) (by simp) ⟨Nat.zero_le _, hb.mono (by simp), ⟨by simp, by simp⟩, rfl, .emp⟩ ?_
  rintro ⟨i, bl, v, w, hp⟩ ⟨hi, hbl, hv, hvl, hg⟩ ih
  replace hi : i ≤ 20 := hi
  simp only at hbl hv hvl hg ih ⊢
  refine Run2.nd fun nd => ?_
  simp only [dom_append, dom_cons, List.nodup_append, List.nodup_cons, List.mem_cons, not_or] at nd
  have gg : idg ∉ dom hp := fun h => nd.2.2 idg h idg (.inl rfl) rfl
  have gs : ids ∉ dom hp := fun h => nd.2.2 ids h ids (.inr (.inl rfl)) rfl
  have hc := hg.cell
  have hlen := hg.len
  by_cases hlt : (i : Int) < x.n ∧ i < 20
  · have go := fun bl' v' w' g' q1 q2 q3 q4 => ih (i + 1, bl', v', w', g') ⟨hlt.2, q1, q2, q3, q4⟩ (by simp only; omega)
    clear ih
    simp only at go
    have h1 := hlt.1
    have h2 : (i : Int) < 20 := by omega
    refine Run2.of I 1000 ?_
    simp -implicitDefEqProofs [h1, h2, hne, hne', hget_app gg, hget_app gs, hc]
    refine (among_m (l := [0, 1, -3, 7, 1000000, -1000000, 2]) (b := bl) (by simp [hget, hne', hget_app gs]) hbl (by omega) hl (by simp)).mono ?_
    rintro r h' ⟨c, b4, rfl, hcm, hb4, rfl⟩
    have hcm : -1000001 ≤ c ∧ c ≤ 1000001 := by simp at hcm; omega
    rw [hset_app gs]
    simp only [hset, if_neg hne', if_true]
    refine gK.go ?_
    simp -implicitDefEqProofs [hc, hlen, hne, hne', hget_app gg, hget_app gs]
    refine hg.app_mid (pre := []) (by simp [dom]) (by simp; omega) (by simp) fun w2 g2 hg2 hd2 => ?_
    have hc2 := hg2.cell
    have go3 := go b4 (v ++ [c]) w2 g2 (hb4.mono (by omega)) (hv.put (by omega) hcm) (by simp; omega) (by simpa using hg2)
    simp -implicitDefEqProofs [hc2, cells_of hc2, stor_of hc2]
    exact ⟨by omega, by simpa using go3⟩
  · clear ih
    have tail : ACalls Try.prog 24 [.ptr ids 3 0 0, .int .i64 16] (hp ++ (idg, ⟨2, [.agg [.int .i64 x.n, .snap 3 (x.ts.map T.av)]]⟩) :: (ids, bl) :: h)
        (gK (k14_C noOrc) 980 (some 27) (some [0, 5, 27]) [] [.code k14_26, .code k14_29] (Post R) [(26, .ptr ids 3 0 0), (0, .ptr ids 3 0 0), (1, .ptr idg 2 0 0), (5, w), (6, .int .i64 i), (17, .bool false)]) := by
      refine (pick_m (b := bl) (by simp [hget, hne', hget_app gs]) hbl (by omega) hl (by omega)).mono ?_
      rintro r h' ⟨q, b3, rfl, hq, hb3, rfl⟩
      rw [hset_app gs]
      simp only [hset, if_neg hne', if_true]
      have hq3 : q = 0 ∨ q = 1 ∨ (¬ q = 0 ∧ ¬ q = 1) := by omega
      rcases hq3 with rfl | rfl | ⟨q0, q1⟩
      · refine gK.go ?_
        simp -implicitDefEqProofs [hc, hlen, hne, hne', hget_app gg, hget_app gs]
        refine hg.app_mid (pre := []) (by simp [dom]) (by simp; omega) (by simp) fun w2 g2 hg2 hd2 => ?_
        have hc2 := hg2.cell
        simp -implicitDefEqProofs [hc2, cells_of hc2, stor_of hc2]
        exact fin (v ++ [0]) w2 g2 b3 (hv.put (by omega) (by omega)) (by simpa using hg2) (hb3.mono (by omega))
      · by_cases hv0 : v = []
        · subst hv0
          refine gK.go ?_
          simp -implicitDefEqProofs [hc, hlen, hne, hne', hget_app gg, hget_app gs]
          exact fin [] w hp b3 hv hg (hb3.mono (by omega))
        · obtain ⟨idw, rfl, rfl⟩ := hg.ne (by simpa using hv0)
          obtain ⟨a0, vt, rfl⟩ : ∃ a0 vt, v = a0 :: vt := by
            cases v with
            | nil => exact absurd rfl hv0
            | cons a0 vt => exact ⟨a0, vt, rfl⟩
          simp only [dom, List.map_cons, List.map_nil, List.mem_singleton] at gg gs
          have gg' : ¬ idw = idg := fun e => gg e.symm
          have gs' : ¬ idw = ids := fun e => gs e.symm
          refine gK.go ?_
          simp -implicitDefEqProofs [hc, hlen, hne, hne', gg, gs, gg', gs']
          refine (among_m (l := [-1000001, 1000001]) (b := b3) (by simp [hget, hne', gs', gs]) hb3 (by omega) hl (by simp)).mono ?_
          rintro r h' ⟨c, b4, rfl, hcm, hb4, rfl⟩
          have hcm : -1000001 ≤ c ∧ c ≤ 1000001 := by simp at hcm; omega
          simp only [hset, if_neg hne', if_neg gs', if_true]
          refine gK.go ?_
          simp -implicitDefEqProofs [hc, hlen, hne, hne', gg, gs, gg', gs']
          have hv2 : vOk (c :: vt) := ⟨hv.1, fun y hy => by
            rcases List.mem_cons.1 hy with rfl | hy
            · exact hcm
            · exact hv.2 y (List.mem_cons_of_mem _ hy)⟩
          have := fin (c :: vt) (.sl idw 1 0 (vt.length + 1) none) [(idw, ⟨1, (c :: vt).map iv⟩)] b4 hv2 (.sl idw _ _ (by simp)) (hb4.mono (by omega))
          simpa using this
      · refine gK.go ?_
        simp -implicitDefEqProofs [q0, q1, hc, hlen, hne, hne', hget_app gg, hget_app gs]
        exact fin v w hp b3 hv hg (hb3.mono (by omega))
    by_cases h1 : (i : Int) < x.n
    · have h2 : ¬ (i : Int) < 20 := fun h => hlt ⟨h1, by omega⟩
      refine Run2.of I 1000 ?_
      simp -implicitDefEqProofs [h1, h2, hne, hne', hget_app gg, hget_app gs, hc]
      exact tail
    · refine Run2.of I 1000 ?_
      simp -implicitDefEqProofs [h1, hne, hne', hget_app gg, hget_app gs, hc]
      exact tail
abbrev k5_o0 : List AJ := [.o ⟨(some 2), none, false, .alloc true 2 (.agg [(.int .i64 0), .nilsl]), none⟩, .o ⟨(some 3), none, false, .mv (.c .nilsl), none⟩, .o ⟨(some 4), none, false, .mv (.c .nilsl), none⟩, .o ⟨(some 5), none, false, .mv (.c (.int .i64 0)), (some [0, 2])⟩]
abbrev k5_o1 : List AJ := [.o ⟨(some 10), none, false, .mv (.t 0), none⟩, .o ⟨(some 11), none, false, .call 12 [(.t 10)], none⟩, .o ⟨(some 6), none, false, .mv (.t 11), (some [2, 6])⟩]
abbrev k5_o2 : List AJ := [.o ⟨(some 13), none, false, .mv (.t 6), none⟩, .o ⟨(some 14), none, false, .call 13 [(.t 13)], none⟩, .o ⟨(some 12), none, false, .mv (.t 14), none⟩, .o ⟨(some 15), none, false, .extract (.t 12) 0, none⟩, .o ⟨(some 16), none, false, .extract (.t 12) 1, none⟩, .o ⟨(some 7), none, false, .alloc true 2 (.agg [(.int .i64 0), .nilsl]), none⟩, .o ⟨none, none, false, .store 2 (.t 7) (.t 15), none⟩, .o ⟨(some 8), none, false, .mv (.t 16), (some [2, 6, 7, 8])⟩]
abbrev k5_o3 : List AJ := [.o ⟨(some 17), none, false, .mv (.t 6), none⟩, .o ⟨(some 18), none, false, .call 14 [(.t 17), (.t 7)], none⟩, .o ⟨(some 9), none, false, .mv (.t 18), (some [2, 6, 7, 8, 9])⟩]
abbrev k5_o4 : List AI := [⟨(some 19), none, false, .load 2 true (.t 7), none⟩, ⟨(some 20), none, false, .mv (.t 8), none⟩, ⟨(some 21), none, false, .mv (.t 9), none⟩, ⟨(some 22), none, false, .mv (.t 6), none⟩, ⟨(some 23), none, false, .call 15 [(.t 22)], none⟩, ⟨none, none, false, .store 2 (.t 2) (.t 19), none⟩, ⟨(some 3), none, false, .mv (.t 20), none⟩, ⟨(some 4), none, false, .mv (.t 21), none⟩, ⟨(some 5), none, false, .mv (.t 23), none⟩]
abbrev k5_o5 : List AJ := [.o ⟨(some 20), none, false, .mv (.t 8), none⟩, .o ⟨(some 21), none, false, .mv (.t 9), none⟩, .o ⟨(some 22), none, false, .mv (.t 6), none⟩, .o ⟨(some 19), none, false, .load 2 true (.t 7), none⟩, .o ⟨(some 23), none, false, .call 15 [(.t 22)], none⟩, .o ⟨none, none, false, .store 2 (.t 2) (.t 19), none⟩, .o ⟨(some 3), none, false, .mv (.t 20), none⟩, .o ⟨(some 4), none, false, .mv (.t 21), none⟩, .o ⟨(some 5), none, false, .mv (.t 23), (some [2, 3, 4, 5])⟩]
abbrev k5_o6 : List AJ := [.o ⟨(some 20), none, false, .mv (.t 8), none⟩, .o ⟨(some 21), none, false, .mv (.t 9), none⟩, .o ⟨(some 22), none, false, .mv (.t 6), none⟩, .o ⟨(some 23), none, false, .call 15 [(.t 22)], none⟩, .o ⟨(some 19), none, false, .load 2 true (.t 7), none⟩, .o ⟨none, none, false, .store 2 (.t 2) (.t 19), none⟩, .o ⟨(some 3), none, false, .mv (.t 20), none⟩, .o ⟨(some 4), none, false, .mv (.t 21), none⟩, .o ⟨(some 5), none, false, .mv (.t 23), (some [2, 3, 4, 5])⟩]
def k5_5 : ACode := .seq (.drawE k5_o4 [k5_o5, k5_o6] [[1, 2, 3, 0, 4, 5, 6, 7, 8], [1, 2, 3, 4, 0, 5, 6, 7, 8]] rfl rfl) (.cut .ret)
def k5_6 : ACode := .seq (.region k5_o3) k5_5
def k5_7 : ACode := .seq (.region k5_o2) k5_6
def k5_8 : ACode := .seq (.region k5_o1) k5_7
def k5_9 : ACode := .seq (.region k5_o0) k5_8
@[simp, simp ↓] theorem k5_5r : sE k5_5 [k5_o5, k5_o6] (.cut .ret) := yE rfl
@[simp, simp ↓] theorem k5_6r : sR k5_6 k5_o3 k5_5 := yR rfl
@[simp, simp ↓] theorem k5_7r : sR k5_7 k5_o2 k5_6 := yR rfl
@[simp, simp ↓] theorem k5_8r : sR k5_8 k5_o1 k5_7 := yR rfl
@[simp, simp ↓] theorem k5_9r : sR k5_9 k5_o0 k5_8 := yR rfl
noncomputable abbrev k5_C : Orc → Cx := mkC Try.prog [2, 7, 99998] 5 24 [.cell 2 2 true, .tmp 3, .tmp 4, .tmp 5]
theorem k5_of : OfP Try.prog Try.f5 5 24 k5_C k5_9 := @ofP _ _ _ _ _ _ _ _ Try.func5 (by decide +kernel) rfl (by kernel_rfl) rfl (by kernel_rfl)
theorem DrawEx_m (code : List UInt8) (h : Heap) (hl : code.length ≤ 1048576) :
    ACalls Try.prog 5 [.snap 1 (code.map bv)] h (fun r h' => ∃ (x : Gr) (rs : List (List Int)) (v : List Int) (c : Int), r = .tup [x.av, .snap 1 (rs.map il), .snap 1 (v.map iv), .int .i64 c] ∧ grOk x ∧ ssTot rs ≤ 1000 ∧ vOk v ∧ (-1 ≤ c ∧ c ≤ 101) ∧ h' = h) := by
  obtain ⟨R, hR⟩ : ∃ R, R = fun (r : AV) (h' : Heap) => ∃ (x : Gr) (rs : List (List Int)) (v : List Int) (c : Int), r = .tup [x.av, .snap 1 (rs.map il), .snap 1 (v.map iv), .int .i64 c] ∧ grOk x ∧ ssTot rs ≤ 1000 ∧ vOk v ∧ (-1 ≤ c ∧ c ≤ 101) ∧ h' = h := ⟨_, rfl⟩
  rw [← hR]
  refine k5_of rfl noPure fun I => ?_
  refine Run2.of I 1000 ?_
  simp -implicitDefEqProofs
  intro id2 n2
  refine (l00From_m code _ hl).mono ?_
  rintro r h' ⟨ids, b0, hids, hb0, rfl, rfl⟩
  simp only [dom_cons, List.mem_cons, not_or] at hids
  have a1 : ¬ ids = id2 := hids.1
  have a1' : ¬ id2 = ids := fun e => a1 e.symm
  refine gK.go ?_
  simp -implicitDefEqProofs
  refine (l24Draw_m (h := (id2, ⟨2, [.agg [.int .i64 0, .nilsl]]⟩) :: h) (by simp only [dom_cons, List.mem_cons, not_or]; exact ⟨a1, hids.2⟩) hb0 (by omega) hl).monoN ?_
  rintro r h' ⟨x, rs, b1, rfl, hx, hss, hb1, rfl⟩ nd
  refine gK.go ?_
  simp -implicitDefEqProofs
  intro id7 c1 c2 c3
  have c1' : ¬ ids = id7 := fun e => c1 e.symm
  have c2' : ¬ id2 = id7 := fun e => c2 e.symm
  refine gK.go ?_
  simp -implicitDefEqProofs [a1, a1', c1, c2, c1', c2']
  refine (l16DrawVector_m (bg := ⟨2, [x.av]⟩) c1' rfl hb1 (by omega) hl hx).mono ?_
  rintro r h' ⟨v, b2, rfl, hv, hb2, rfl⟩
  refine gK.go ?_
  simp -implicitDefEqProofs [a1, a1', c1, c2, c1', c2']
  refine ⟨?_, ?_⟩
  all_goals
    refine (l24DrawTimes_m (b := b2) (by simp [hget, c1]) hb2 (by omega) hl).mono ?_
    rintro r h' ⟨c, b3, rfl, hc, hb3, rfl⟩
    simp only [hset, if_neg c1, if_true]
    refine gK.go ?_
    simp -implicitDefEqProofs [a1, a1', c1, c2, c1', c2']
    refine Run2.of I 1000 ?_
    simp -implicitDefEqProofs [a1, a1', c1, c2, c1', c2']
    refine .drop id7 ?_
    simp only [hdel, if_true]
    refine .drop ids ?_
    simp only [hdel, if_true]
    refine .drop id2 ?_
    simp only [hdel, if_true]
    rw [hR]
    exact .base ⟨x, rs, v, c, rfl, hx, hss, hv, hc, rfl⟩
abbrev k9_o0 : List AJ := [.o ⟨(some 2), none, false, .alloc true 2 (.agg [(.int .i64 0), .nilsl]), none⟩, .o ⟨(some 3), none, false, .mv (.c .nilsl), none⟩, .o ⟨(some 4), none, false, .mv (.c (.int .i64 0)), (some [0, 2])⟩]
abbrev k9_o1 : List AJ := [.o ⟨(some 8), none, false, .mv (.t 0), none⟩, .o ⟨(some 9), none, false, .call 12 [(.t 8)], none⟩, .o ⟨(some 5), none, false, .mv (.t 9), (some [2, 5])⟩]
abbrev k9_o2 : List AJ := [.o ⟨(some 11), none, false, .mv (.t 5), none⟩, .o ⟨(some 12), none, false, .call 13 [(.t 11)], none⟩, .o ⟨(some 10), none, false, .mv (.t 12), none⟩, .o ⟨(some 13), none, false, .extract (.t 10) 0, none⟩, .o ⟨(some 14), none, false, .extract (.t 10) 1, none⟩, .o ⟨(some 6), none, false, .alloc true 2 (.agg [(.int .i64 0), .nilsl]), none⟩, .o ⟨none, none, false, .store 2 (.t 6) (.t 13), none⟩, .o ⟨(some 7), none, false, .mv (.t 14), (some [2, 5, 6, 7])⟩]
abbrev k9_o3 : List AJ := [.o ⟨(some 15), none, false, .fieldA 0 (.t 6), none⟩, .o ⟨(some 16), none, false, .load 1 false (.t 15), none⟩, .o ⟨(some 17), none, false, .bin .gtr (.t 16) (.c (.int .i64 8)), (some [2, 5, 6, 7, 17])⟩]
abbrev k9_o4 : List AI := [⟨(some 18), none, false, .load 2 true (.t 6), none⟩, ⟨(some 19), none, false, .mv (.t 7), none⟩, ⟨(some 20), none, false, .mv (.t 5), none⟩, ⟨(some 21), none, false, .bsl false 1 [(.c (.int .i64 0)), (.c (.int .i64 1)), (.c (.int .i64 101))], none⟩, ⟨(some 22), none, false, .call 20 [(.t 20), (.t 21)], none⟩, ⟨none, none, false, .store 2 (.t 2) (.t 18), none⟩, ⟨(some 3), none, false, .mv (.t 19), none⟩, ⟨(some 4), none, false, .mv (.t 22), none⟩]
abbrev k9_o5 : List AJ := [.o ⟨(some 19), none, false, .mv (.t 7), none⟩, .o ⟨(some 20), none, false, .mv (.t 5), none⟩, .o ⟨(some 21), none, false, .bsl false 1 [(.c (.int .i64 0)), (.c (.int .i64 1)), (.c (.int .i64 101))], none⟩, .o ⟨(some 18), none, false, .load 2 true (.t 6), none⟩, .o ⟨(some 22), none, false, .call 20 [(.t 20), (.t 21)], none⟩, .o ⟨none, none, false, .store 2 (.t 2) (.t 18), none⟩, .o ⟨(some 3), none, false, .mv (.t 19), none⟩, .o ⟨(some 4), none, false, .mv (.t 22), (some [2, 3, 4])⟩]
abbrev k9_o6 : List AJ := [.o ⟨(some 19), none, false, .mv (.t 7), none⟩, .o ⟨(some 20), none, false, .mv (.t 5), none⟩, .o ⟨(some 21), none, false, .bsl false 1 [(.c (.int .i64 0)), (.c (.int .i64 1)), (.c (.int .i64 101))], none⟩, .o ⟨(some 22), none, false, .call 20 [(.t 20), (.t 21)], none⟩, .o ⟨(some 18), none, false, .load 2 true (.t 6), none⟩, .o ⟨none, none, false, .store 2 (.t 2) (.t 18), none⟩, .o ⟨(some 3), none, false, .mv (.t 19), none⟩, .o ⟨(some 4), none, false, .mv (.t 22), (some [2, 3, 4])⟩]
def k9_5 : ACode := .seq (.drawE k9_o4 [k9_o5, k9_o6] [[1, 2, 3, 0, 4, 5, 6, 7], [1, 2, 3, 4, 0, 5, 6, 7]] rfl rfl) (.cut .ret)
def k9_6 : ACode := .cond (.t 17) k9_5 .skip
def k9_7 : ACode := .seq (.region k9_o3) k9_6
abbrev k9_o7 : List AI := [⟨(some 23), none, false, .load 2 true (.t 6), none⟩, ⟨(some 24), none, false, .mv (.t 7), none⟩, ⟨(some 25), none, false, .mv (.t 5), none⟩, ⟨(some 26), none, false, .call 15 [(.t 25)], none⟩, ⟨none, none, false, .store 2 (.t 2) (.t 23), none⟩, ⟨(some 3), none, false, .mv (.t 24), none⟩, ⟨(some 4), none, false, .mv (.t 26), none⟩]
abbrev k9_o8 : List AJ := [.o ⟨(some 24), none, false, .mv (.t 7), none⟩, .o ⟨(some 25), none, false, .mv (.t 5), none⟩, .o ⟨(some 23), none, false, .load 2 true (.t 6), none⟩, .o ⟨(some 26), none, false, .call 15 [(.t 25)], none⟩, .o ⟨none, none, false, .store 2 (.t 2) (.t 23), none⟩, .o ⟨(some 3), none, false, .mv (.t 24), none⟩, .o ⟨(some 4), none, false, .mv (.t 26), (some [2, 3, 4])⟩]
abbrev k9_o9 : List AJ := [.o ⟨(some 24), none, false, .mv (.t 7), none⟩, .o ⟨(some 25), none, false, .mv (.t 5), none⟩, .o ⟨(some 26), none, false, .call 15 [(.t 25)], none⟩, .o ⟨(some 23), none, false, .load 2 true (.t 6), none⟩, .o ⟨none, none, false, .store 2 (.t 2) (.t 23), none⟩, .o ⟨(some 3), none, false, .mv (.t 24), none⟩, .o ⟨(some 4), none, false, .mv (.t 26), (some [2, 3, 4])⟩]
def k9_9 : ACode := .seq (.drawE k9_o7 [k9_o8, k9_o9] [[1, 2, 0, 3, 4, 5, 6], [1, 2, 3, 0, 4, 5, 6]] rfl rfl) (.cut .ret)
def k9_10 : ACode := .seq k9_7 k9_9
def k9_11 : ACode := .seq (.region k9_o2) k9_10
def k9_12 : ACode := .seq (.region k9_o1) k9_11
def k9_13 : ACode := .seq (.region k9_o0) k9_12
@[simp, simp ↓] theorem k9_5r : sE k9_5 [k9_o5, k9_o6] (.cut .ret) := yE rfl
@[simp, simp ↓] theorem k9_6r : rC k9_6 (.t 17) k9_5 .skip := zC rfl
@[simp, simp ↓] theorem k9_7r : sR k9_7 k9_o3 k9_6 := yR rfl
@[simp, simp ↓] theorem k9_9r : sE k9_9 [k9_o8, k9_o9] (.cut .ret) := yE rfl
@[simp, simp ↓] theorem k9_10r : rS k9_10 k9_7 k9_9 := zS rfl
@[simp, simp ↓] theorem k9_11r : sR k9_11 k9_o2 k9_10 := yR rfl
@[simp, simp ↓] theorem k9_12r : sR k9_12 k9_o1 k9_11 := yR rfl
@[simp, simp ↓] theorem k9_13r : sR k9_13 k9_o0 k9_12 := yR rfl
noncomputable abbrev k9_C : Orc → Cx := mkC Try.prog [2, 6, 99998] 9 27 [.cell 2 2 true, .tmp 3, .tmp 4]
theorem k9_of : OfP Try.prog Try.f9 9 27 k9_C k9_13 := @ofP _ _ _ _ _ _ _ _ Try.func9 (by decide +kernel) rfl (by kernel_rfl) rfl (by kernel_rfl)
theorem DrawSA_m (code : List UInt8) (h : Heap) (hl : code.length ≤ 1048576) :
    ACalls Try.prog 9 [.snap 1 (code.map bv)] h (fun r h' => ∃ (x : Gr) (rs : List (List Int)) (c : Int), r = .tup [x.av, .snap 1 (rs.map il), .int .i64 c] ∧ grOk x ∧ ssTot rs ≤ 1000 ∧ (-1 ≤ c ∧ c ≤ 101) ∧ h' = h) := by
  obtain ⟨R, hR⟩ : ∃ R, R = fun (r : AV) (h' : Heap) => ∃ (x : Gr) (rs : List (List Int)) (c : Int), r = .tup [x.av, .snap 1 (rs.map il), .int .i64 c] ∧ grOk x ∧ ssTot rs ≤ 1000 ∧ (-1 ≤ c ∧ c ≤ 101) ∧ h' = h := ⟨_, rfl⟩
  rw [← hR]
  refine k9_of rfl noPure fun I => ?_
  refine Run2.of I 1000 ?_
  simp -implicitDefEqProofs
  intro id2 n2
  refine (l00From_m code _ hl).mono ?_
  rintro r h' ⟨ids, b0, hids, hb0, rfl, rfl⟩
  simp only [dom_cons, List.mem_cons, not_or] at hids
  have a1 : ¬ ids = id2 := hids.1
  have a1' : ¬ id2 = ids := fun e => a1 e.symm
  refine gK.go ?_
  simp -implicitDefEqProofs
  refine (l24Draw_m (h := (id2, ⟨2, [.agg [.int .i64 0, .nilsl]]⟩) :: h) (by simp only [dom_cons, List.mem_cons, not_or]; exact ⟨a1, hids.2⟩) hb0 (by omega) hl).monoN ?_
  rintro r h' ⟨x, rs, b1, rfl, hx, hss, hb1, rfl⟩ nd
  refine gK.go ?_
  simp -implicitDefEqProofs
  intro id6 c1 c2 c3
  have c1' : ¬ ids = id6 := fun e => c1 e.symm
  have c2' : ¬ id2 = id6 := fun e => c2 e.symm
  refine gK.go ?_
  simp -implicitDefEqProofs [a1, a1', c1, c2, c1', c2']
  have fin : ∀ (c : Int) (b3 : Blk), (-1 ≤ c ∧ c ≤ 101) → Post R (.tup [.agg [.int .i64 x.n, .snap 3 (x.ts.map T.av)], .snap 1 (rs.map il), .int .i64 c]) ((id6, ⟨2, [.agg [.int .i64 x.n, .snap 3 (x.ts.map T.av)]]⟩) :: (ids, b3) :: (id2, ⟨2, [.agg [.int .i64 x.n, .snap 3 (x.ts.map T.av)]]⟩) :: h) := by
    intro c b3 hc
    refine .drop id6 ?_
    simp only [hdel, if_true]
    refine .drop ids ?_
    simp only [hdel, if_true]
    refine .drop id2 ?_
    simp only [hdel, if_true]
    rw [hR]
    exact .base ⟨x, rs, c, rfl, hx, hss, hc, rfl⟩
  refine ⟨fun h8 => ⟨?_, ?_⟩, fun h8 => ⟨?_, ?_⟩⟩
  · refine (among_m (l := [0, 1, 101]) (b := b1) (by simp [hget, c1]) hb1 (by omega) hl (by simp)).mono ?_
    rintro r h' ⟨c, b3, rfl, hcm, hb3, rfl⟩
    have hcm : -1 ≤ c ∧ c ≤ 101 := by simp at hcm; omega
    simp only [hset, if_neg c1, if_true]
    refine gK.go ?_
    simp -implicitDefEqProofs [a1, a1', c1, c2, c1', c2']
    refine Run2.of I 1000 ?_
    simp -implicitDefEqProofs [a1, a1', c1, c2, c1', c2']
    exact fin c b3 hcm
  · refine (among_m (l := [0, 1, 101]) (b := b1) (by simp [hget, c1]) hb1 (by omega) hl (by simp)).mono ?_
    rintro r h' ⟨c, b3, rfl, hcm, hb3, rfl⟩
    have hcm : -1 ≤ c ∧ c ≤ 101 := by simp at hcm; omega
    simp only [hset, if_neg c1, if_true]
    refine gK.go ?_
    simp -implicitDefEqProofs [a1, a1', c1, c2, c1', c2']
    refine Run2.of I 1000 ?_
    simp -implicitDefEqProofs [a1, a1', c1, c2, c1', c2']
    exact fin c b3 hcm
  all_goals
    refine (l24DrawTimes_m (b := b1) (by simp [hget, c1]) hb1 (by omega) hl).mono ?_
    rintro r h' ⟨c, b3, rfl, hc, hb3, rfl⟩
    simp only [hset, if_neg c1, if_true]
    refine gK.go ?_
    simp -implicitDefEqProofs [a1, a1', c1, c2, c1', c2']
    refine Run2.of I 1000 ?_
    simp -implicitDefEqProofs [a1, a1', c1, c2, c1', c2']
    exact fin c b3 hc
end Go.AG
