/- Our own small layer, second form: regions whose order Go leaves open and where some orders do differ: each order that may differ is shown. No statement about the program is made here. -/
import Derived.Test.YtebkdegjiollbaaAGAny
namespace Go.AG
open Go.RowKit
section
variable {C : Cx} {e : Env} {h : Heap} {w0 : World} {D0 : List Nat} {tmps : Array Value} {w : World} {R : AV → Heap → Prop} {cs : List Frame}
theorem allK_mem {α : Type} {f : α → Prop} : ∀ {l : List α}, allK f l → ∀ a ∈ l, f a
  | [], _, _, h => by cases h
  | [b], g, a, h => by rw [List.mem_singleton] at h; subst h; exact g
  | b :: c :: l, g, a, h => by
    have g : f b ∧ allK f (c :: l) := g
    rcases List.mem_cons.1 h with rfl | h
    · exact g.1
    · exact allK_mem g.2 a h
theorem TV_nk {K : Env → Heap → Prop} : ∀ {as : List AI} {e : Env} {h : Heap}, TV C as e h K → TV C (as.map AI.nk) e h K
  | [], _, _, g => g
  | i :: as, e, h, g => by
    have g : wp C i e h fun e' h' => TV C as e' h' K := g
    exact wp.congr (i := i) (K' := fun e' h' => TV C (as.map AI.nk) e' h' K) (fun _ _ => rfl) (fun v h' g => TV_nk g) g
theorem wok0 (a : AI) : wOk 0 a := ⟨fun h => by simp [cK] at h, fun h => by omega⟩
/-- The one order comes from the other by exchanges that change nothing. -/
inductive Eqv (sw : Nat → Nat → Bool) : List Nat → List Nat → Prop
  | nil : Eqv sw [] []
  | cons {r1 r2 : List Nat} {j : Nat} {o : List Nat} (h : ∀ a ∈ r1, sw a j = true) (k : Eqv sw (r1 ++ r2) o) : Eqv sw (r1 ++ j :: r2) (j :: o)
theorem Eqv.inv {sw : Nat → Nat → Bool} {r o : List Nat} {j : Nat} (h : Eqv sw r (j :: o)) : ∃ r1 r2, r = r1 ++ j :: r2 ∧ (∀ a ∈ r1, sw a j = true) ∧ Eqv sw (r1 ++ r2) o := by
  cases h with
  | cons h k => exact ⟨_, _, rfl, h, k⟩
theorem Eqv.inv0 {sw : Nat → Nat → Bool} {r : List Nat} (h : Eqv sw r []) : r = [] := by
  cases h with
  | nil => rfl
theorem Eqv.push {sw : Nat → Nat → Bool} {i : Nat} : ∀ {o1 o2 r : List Nat}, Eqv sw r (o1 ++ o2) → (∀ b ∈ o1, sw i b = true) → Eqv sw (i :: r) (o1 ++ i :: o2)
  | [], o2, r, h, _ => .cons (r1 := []) (by simp) h
  | b :: o1, o2, r, h, hb => by
    obtain ⟨r1, r2, rfl, h1, h2⟩ := Eqv.inv (show Eqv sw r (b :: (o1 ++ o2)) from h)
    have ih := Eqv.push h2 fun c hc => hb c (List.mem_cons_of_mem _ hc)
    refine Eqv.cons (r1 := i :: r1) (fun a ha => ?_) ih
    rcases List.mem_cons.1 ha with rfl | ha
    · exact hb b (List.mem_cons_self ..)
    · exact h1 a ha
theorem Eqv.mem {sw : Nat → Nat → Bool} {r o : List Nat} (h : Eqv sw r o) : ∀ j ∈ r, j ∈ o := by
  induction h with
  | nil => intro j hj; exact hj
  | cons h k ih =>
    intro a ha
    rcases List.mem_append.1 ha with ha | ha
    · exact List.mem_cons_of_mem _ (ih a (List.mem_append_left _ ha))
    · rcases List.mem_cons.1 ha with rfl | ha
      · exact List.mem_cons_self ..
      · exact List.mem_cons_of_mem _ (ih a (List.mem_append_right _ ha))
/-- An order that the edges allow. -/
def LinE (b : Array Nat) : List Nat → Prop
  | [] => True
  | j :: o => (∀ p ∈ j :: o, bfb b p j = false) ∧ LinE b o
theorem LinE.before {b : Array Nat} {i : Nat} {o2 : List Nat} : ∀ {o1 : List Nat}, LinE b (o1 ++ i :: o2) → ∀ c ∈ o1, bfb b i c = false
  | [], _, _, hc => by cases hc
  | a :: o1, h, c, hc => by
    rcases List.mem_cons.1 hc with rfl | hc
    · exact h.1 i (List.mem_cons_of_mem _ (List.mem_append_right _ (List.mem_cons_self ..)))
    · exact LinE.before h.2 c hc
theorem LinE.drop {b : Array Nat} {i : Nat} {o2 : List Nat} : ∀ {o1 : List Nat}, LinE b (o1 ++ i :: o2) → LinE b (o1 ++ o2)
  | [], h => h.2
  | a :: o1, h => ⟨fun p hp => h.1 p (by
      rcases List.mem_cons.1 hp with rfl | hp
      · exact List.mem_cons_self ..
      · refine List.mem_cons_of_mem _ ?_
        rcases List.mem_append.1 hp with hp | hp
        · exact List.mem_append_left _ hp
        · exact List.mem_append_right _ (List.mem_cons_of_mem _ hp)), LinE.drop h.2⟩
/-- Each order is told, up to exchanges that change nothing. -/
theorem expl_has {b : Array Nat} {md : Bool} {s : Nat → SI} : ∀ (n : Nat) (rem o : List Nat), rem.length ≤ n → o.Perm rem → LinE b o → ∃ r ∈ expl (exE b md s) (enE b) n rem, Eqv (fun i j => swapK 0 md (s i) (s j)) r o
  | _, [], o, _, hp, _ => by
    obtain rfl := hp.eq_nil
    exact ⟨[], by simp [expl], .nil⟩
  | 0, i :: rest, o, hl, _, _ => by simp at hl
  | n + 1, i :: rest, o, hl, hp, hL => by
    simp only [expl]
    split
    · rename_i hx
      obtain ⟨o1, o2, rfl⟩ := List.append_of_mem (hp.mem_iff.2 (List.mem_cons_self ..))
      have hp' : (o1 ++ o2).Perm rest := (List.perm_middle.symm.trans hp).cons_inv
      obtain ⟨r, hr, he⟩ := expl_has n rest (o1 ++ o2) (by simpa using hl) hp' hL.drop
      refine ⟨i :: r, List.mem_map.2 ⟨r, hr, rfl⟩, he.push fun c hc => ?_⟩
      have h1 := LinE.before hL c hc
      have h2 := List.all_eq_true.1 hx c (hp'.mem_iff.1 (List.mem_append_left _ hc))
      rw [h1] at h2
      simpa using h2
    · cases o with
      | nil => exact absurd hp.symm.eq_nil (by simp)
      | cons q o =>
        have hq : q ∈ i :: rest := hp.mem_iff.1 (List.mem_cons_self ..)
        have hen : enE b (i :: rest) q = true := by
          unfold enE
          rw [List.all_eq_true]
          intro p hpm
          rw [hL.1 p (hp.mem_iff.2 hpm)]
          rfl
        have hp' : o.Perm ((i :: rest).erase q) := by
          have := hp.erase q
          simpa using this
        obtain ⟨r, hr, he⟩ := expl_has n ((i :: rest).erase q) o (by rw [List.length_erase_of_mem hq]; simp at hl ⊢; omega) hp' hL.2
        exact ⟨q :: r, List.mem_flatMap.2 ⟨q, List.mem_filter.2 ⟨hq, hen⟩, List.mem_map.2 ⟨r, hr, rfl⟩⟩, .cons (r1 := []) (by simp) he⟩
theorem min_mem {l : List Nat} (h : l ≠ []) : ∃ m ∈ l, ∀ p ∈ l, m ≤ p := by
  induction l with
  | nil => exact absurd rfl h
  | cons a l ih =>
    by_cases hl : l = []
    · subst hl; exact ⟨a, List.mem_cons_self .., fun p hp => by rw [List.mem_singleton.1 hp]; exact Nat.le_refl _⟩
    · obtain ⟨m, hm, hmin⟩ := ih hl
      rcases Nat.le_total a m with h1 | h1
      · exact ⟨a, List.mem_cons_self .., fun p hp => by
          rcases List.mem_cons.1 hp with rfl | hp
          · exact Nat.le_refl _
          · exact Nat.le_trans h1 (hmin p hp)⟩
      · exact ⟨m, List.mem_cons_of_mem _ hm, fun p hp => by
          rcases List.mem_cons.1 hp with rfl | hp
          · exact h1
          · exact hmin p hp⟩
theorem nodupB_iff : ∀ {l : List Nat}, nodupB l = true → l.Nodup
  | [], _ => List.nodup_nil
  | a :: l, h => by
    unfold nodupB at h
    simp only [Bool.and_eq_true, Bool.not_eq_true', List.contains_eq_mem, decide_eq_false_iff_not] at h
    exact List.nodup_cons.2 ⟨h.1, nodupB_iff h.2⟩
theorem lin_go {ops : Array Oper} (edges : ∀ (j : Nat) (o : Oper), ops[j]? = some o → ∀ e ∈ o.after, Region.binds .any e = true → e.on < j) :
    ∀ (n : Nat) (rem : List Nat) (t : Nat) (listed : Array Bool), rem.length = n → listed.size = ops.size → Closed ops listed → rem.Nodup → (∀ j, j ∈ rem ↔ j < ops.size ∧ listed.getD j false = false) →
      (Region.linearise.go .any ops n t listed []).Perm rem ∧ LinE (Region.before ops) (Region.linearise.go .any ops n t listed []) := by
  intro n
  induction n with
  | zero =>
    intro rem t listed hn _ _ _ _
    have := List.eq_nil_of_length_eq_zero hn
    subst this
    exact ⟨.nil, trivial⟩
  | succ n ih =>
    intro rem t listed hn hls hcl hnd hmem
    obtain ⟨jr, hjr⟩ : ∃ j, j ∈ Region.ready .any ops listed := by
      obtain ⟨r0, hr0m, hmin⟩ := min_mem (l := rem) (by intro h; rw [h] at hn; cases hn)
      obtain ⟨hr0, hl0⟩ := (hmem r0).1 hr0m
      have hjl : r0 < listed.size := by omega
      refine ⟨r0, mem_ready.2 ⟨by simpa [hjl] using hl0, ops[r0], Array.getElem?_eq_getElem hr0, fun ed he hb => ?_⟩⟩
      have hlt := edges r0 _ (Array.getElem?_eq_getElem hr0) ed he hb
      cases hl2 : listed.getD ed.on false with
      | true => rfl
      | false =>
        have := hmin _ ((hmem ed.on).2 ⟨by omega, hl2⟩)
        omega
    simp only [Region.linearise.go]
    change (match (Region.ready .any ops listed)[t % (Region.ready .any ops listed).length]? with
      | some i => Region.linearise.go .any ops n (t / (Region.ready .any ops listed).length) (listed.setIfInBounds i true) [i]
      | none => [].reverse).Perm rem ∧ LinE (Region.before ops) (match (Region.ready .any ops listed)[t % (Region.ready .any ops listed).length]? with
      | some i => Region.linearise.go .any ops n (t / (Region.ready .any ops listed).length) (listed.setIfInBounds i true) [i]
      | none => [].reverse)
    have hlen : 0 < (Region.ready .any ops listed).length := List.length_pos_of_mem hjr
    have hlt : t % (Region.ready .any ops listed).length < (Region.ready .any ops listed).length := Nat.mod_lt _ hlen
    cases hi : (Region.ready .any ops listed)[t % (Region.ready .any ops listed).length]? with
    | none => rw [List.getElem?_eq_getElem hlt] at hi; cases hi
    | some j =>
      simp only []
      rw [linearise_go_acc, List.reverse_singleton, List.singleton_append]
      have hj := List.mem_of_getElem? hi
      obtain ⟨hnot, o, ho, _⟩ := mem_ready.1 hj
      have hjo : j < ops.size := (Array.getElem?_eq_some_iff.1 ho).1
      have hjl : j < listed.size := by omega
      have hnotf : listed.getD j false = false := by
        have : listed.getD j true = false := hnot
        simpa [hjl] using this
      have hjm : j ∈ rem := (hmem j).2 ⟨hjo, hnotf⟩
      have hbef : ∀ m, ((Region.before ops).getD j 0).testBit m = true → listed.getD m false = true := fun m hm => ready_bef edges hcl hj hm
      have hen : ∀ p ∈ rem, bfb (Region.before ops) p j = false := fun p hpm => by
        have := ((hmem p).1 hpm).2
        cases hb : bfb (Region.before ops) p j with
        | false => rfl
        | true => rw [hbef p hb] at this; cases this
      have g := ih (rem.erase j) (t / (Region.ready .any ops listed).length) (listed.setIfInBounds j true) (by rw [List.length_erase_of_mem hjm]; omega) (by simp [hls]) (by
        intro a b ha hb
        by_cases haj : a = j
        · subst haj
          have := hbef b hb
          by_cases hbj : b = a
          · subst hbj; rw [hnotf] at this; cases this
          · rw [getD_set_ne false (fun h => hbj h.symm)]; exact this
        · rw [getD_set_ne false (fun h => haj h.symm)] at ha
          have := hcl a b ha hb
          by_cases hbj : b = j
          · subst hbj; rw [hnotf] at this; cases this
          · rw [getD_set_ne false (fun h => hbj h.symm)]; exact this) (hnd.sublist (List.erase_sublist ..)) (by
        intro m
        rw [hnd.mem_erase_iff]
        by_cases hmj : m = j
        · subst hmj
          refine ⟨fun hm => absurd rfl hm.1, fun hm => ?_⟩
          rw [getD_set_eq hjl] at hm; cases hm.2
        · rw [getD_set_ne false (fun h => hmj h.symm), ← hmem m]
          exact ⟨fun h => h.2, fun h => ⟨hmj, h⟩⟩)
      refine ⟨(g.1.cons j).trans (List.perm_cons_erase hjm).symm, fun p hp => ?_, g.2⟩
      rcases List.mem_cons.1 hp with rfl | hp
      · exact hen _ hjm
      · exact hen p (List.mem_of_mem_erase (g.1.mem_iff.1 hp))
theorem ex_run (hp : Pure C.P C.orc) {ops : Array Oper} {md : Bool} {k : List Item} {K : Env → Heap → Prop} (hK : KExt K) (hKP : KHP K) (A : Nat → AI)
    (hA : ∀ (j : Nat) (o : Oper), ops[j]? = some o → cInstr C.P C.M C.nt ops o = some (A j).er) (hmd : md = true → ∀ j, mildK 0 (A j).er = true)
    (hrest : ∀ e' h' tmps' w', K e' h' → SRel C e' h' w0 D0 tmps' w' → Fin C w0 D0 R cs (lone ((bF C.fn).at ⟨tmps', []⟩ (.inRegion ops [] :: k)) cs w')) :
    ∀ (o r : List Nat) (e : Env) (h : Heap) (tmps : Array Value) (w : World), Eqv (fun i j => swapK 0 md (A i).er (A j).er) r o → (∀ j ∈ o, j < ops.size) → (∀ j ∈ r, j < ops.size) → TV C (r.map A) e h K → SRel C e h w0 D0 tmps w → Fin C w0 D0 R cs (lone ((bF C.fn).at ⟨tmps, []⟩ (.inRegion ops o :: k)) cs w)
  | [], r, e, h, tmps, w, he, _, _, g, S => by
    obtain rfl := he.inv0
    exact hrest e h tmps w g S
  | j :: o, r, e, h, tmps, w, he, ho, hr, g, S => by
    obtain ⟨r1, r2, rfl, h1, h2⟩ := he.inv
    have hjo := ho j (List.mem_cons_self ..)
    rw [List.map_append, List.map_cons] at g
    have g' := TV.front (md := md) hp (wok0 (A j)) hK hKP (fun hm i hi => by
      obtain ⟨i0, hi0, rfl⟩ := List.mem_map.1 hi
      exact ⟨hmd hm i0, wok0 _⟩) S (fun i hi => by
      obtain ⟨i0, hi0, rfl⟩ := List.mem_map.1 hi
      exact ⟨⟨ops, ops[i0]'(hr i0 (List.mem_append_left _ hi0)), hA i0 _ (Array.getElem?_eq_getElem _)⟩, h1 i0 hi0, wok0 _, fun hm => hmd hm i0⟩) g
    refine wp_step hp (Array.getElem?_eq_getElem hjo) (hA j _ (Array.getElem?_eq_getElem hjo)) S g' fun e' h' tmps' w' g'' S' => ?_
    refine ex_run hp hK hKP A hA hmd hrest o (r1 ++ r2) e' h' tmps' w' h2 (fun j hj => ho j (List.mem_cons_of_mem _ hj)) (fun j hj => hr j ?_) (by rw [List.map_append]; exact g'') S'
    rcases List.mem_append.1 hj with hj | hj
    · exact List.mem_append_left _ hj
    · exact List.mem_append_right _ (List.mem_cons_of_mem _ hj)
theorem exp_sound (hp : Pure C.P C.orc) {ops : Array Oper} {is : List SI} {id : Nat} {k : List Item} (hc : cInstrs C.P C.M C.nt ops ops.toList = some is) (hok : expOk C.P ops is = true) {K : Env → Heap → Prop} (hK : KExt K) (hKP : KHP K) {as : List AI} (has : as.map AI.er = is)
    (hk : ∀ o ∈ explOf ops is, TV C (o.map (aAt as)) e h K) (S : SRel C e h w0 D0 tmps w)
    (hrest : ∀ e' h' tmps' w', K e' h' → SRel C e' h' w0 D0 tmps' w' → Fin C w0 D0 R cs (lone ((bF C.fn).at ⟨tmps', []⟩ (.inRegion ops [] :: k)) cs w')) :
    Fin C w0 D0 R cs (lone ((bF C.fn).at ⟨tmps, []⟩ (.code (.region id ops true) :: k)) cs w) := by
  unfold expOk at hok
  simp only [Bool.and_eq_true] at hok
  obtain ⟨⟨h2, hm⟩, ho⟩ := hok
  obtain ⟨g1, g2⟩ := cInstrs_get (C := C) ops _ _ hc
  unfold ordOk at ho
  simp only [Bool.and_eq_true, beq_iff_eq] at ho
  have hlen : as.length = ops.size := by rw [← List.length_map (f := AI.er), has, g1]; simp
  have hlis : is.length = ops.size := by rw [← has, List.length_map, hlen]
  refine Fin.head step_region_draw ?_
  have hs : ∀ t, Region.schedule (C.P.follows .mixedOrders) ops t = Region.linearise.go .any ops ops.size t (Array.replicate ops.size false) [] := fun t => by
    simp only [Region.schedule, hm, Bool.true_or, if_true]
    rfl
  rw [hs]
  have f0 : ∀ m, (Array.replicate ops.size false).getD m false = false := fun m => by
    simp only [Array.getD_eq_getD_getElem?, Array.getElem?_replicate]
    split <;> rfl
  have S1 : SRel C e h w0 D0 tmps { w with drawn := w.drawn + 1 } := ⟨S.env.mono (Keeps.drew w _), S.size, S.heap.drew, S.ev.trans (Evolve.drew w _)⟩
  have hAe : ∀ j, j < ops.size → is[j]? = some (aAt as j).er := fun j hj => by
    have hj' : j < as.length := by omega
    rw [← has]
    simp [aAt, hj']
  have hAs : ∀ j, (aAt as j).er = sAt is j := fun j => by
    by_cases hj : j < ops.size
    · have := hAe j hj
      unfold sAt
      rw [List.getD_eq_getElem?_getD, this, Option.getD_some]
    · have h1 : ¬ j < as.length := by omega
      have h2 : ¬ j < is.length := by omega
      simp [aAt, sAt, h1, h2, AI.er]
  have hmd : is.all (mildK 0) = true → ∀ j, mildK 0 (aAt as j).er = true := fun hmm j => by
    by_cases hj : j < ops.size
    · exact (List.all_eq_true.1 hmm) _ (List.mem_of_getElem? (hAe j hj))
    · have h1 : ¬ j < as.length := by omega
      simp [aAt, h1, AI.er, mildK, detK, isPure]
  have edges : ∀ (j : Nat) (o : Oper), ops[j]? = some o → ∀ e ∈ o.after, Region.binds .any e = true → e.on < j := fun j o hj ed hed => by
    unfold edgesOk at h2
    rw [List.all_eq_true] at h2
    have h1 := h2 (o, j) (by rw [List.mem_zipIdx_iff_getElem?]; simpa using hj)
    simp only [List.all_eq_true] at h1
    have h2 := h1 ed (by simpa using hed)
    intro hb
    simp only [Bool.or_eq_true, Bool.not_eq_true', decide_eq_true_eq] at h2
    rcases h2 with h2 | h2
    · rw [hb] at h2; cases h2
    · exact h2
  generalize w.tape w.drawn (Question.order (bF C.fn).fn id) = t
  obtain ⟨lp, lE⟩ := lin_go edges ops.size (List.range ops.size) t (Array.replicate ops.size false) (by simp) (by simp) (fun a b ha => by rw [f0 a] at ha; cases ha) List.nodup_range (fun j => by rw [f0 j]; simp)
  have op : (List.range ops.size).Perm (ordOf ops is) := (List.perm_ext_iff_of_nodup List.nodup_range (nodupB_iff ho.1.1.1)).2 fun j => by
    rw [List.mem_range, ← hlis]
    refine ⟨fun hj => ?_, fun hj => by simpa using List.all_eq_true.1 ho.1.2 j hj⟩
    have := List.all_eq_true.1 ho.2 j (List.mem_range.2 hj)
    simpa using this
  obtain ⟨r, hr, he⟩ := expl_has (md := is.all (mildK 0)) (s := sAt is) is.length (ordOf ops is) _ (by rw [ho.1.1.2]; exact Nat.le_refl _) (lp.trans op) lE
  refine ex_run hp hK hKP (aAt as) (fun j o hj => ?_) hmd hrest _ r e h tmps _ ?_ (fun j hj => List.mem_range.1 (lp.mem_iff.1 hj)) (fun j hj => ?_) (hk r hr) S1
  · obtain ⟨i, q1, q2⟩ := g2 j o (by simpa using hj)
    have := hAe j (Array.getElem?_eq_some_iff.1 hj).1
    rw [q1] at this
    cases this
    exact q2
  · have : (fun i j => swapK 0 (is.all (mildK 0)) (aAt as i).er (aAt as j).er) = fun i j => swapK 0 (is.all (mildK 0)) (sAt is i) (sAt is j) := by
      funext i j
      rw [hAs, hAs]
    rw [this]
    exact he
  · exact List.mem_range.1 (lp.mem_iff.1 (he.mem j hj))
end
end Go.AG
