/- Our own small layer, second form: regions whose order Go leaves open and where some orders do differ: each order that may differ is shown. No statement about the program is made here. -/
import Derived.Test.YtebkdegjiollbaaAGAny
namespace Go.AG
open Go.RowKit
section
variable {C : Cx} {e : Env} {h : Heap} {w0 : World} {D0 : List Nat} {tmps : Array Value} {w : World} {R : AV → Heap → Prop} {cs : List Frame}
theorem allK_mem {α : Type} {f : α → Prop} : ∀ {l : List α}, allK f l → ∀ a ∈ l, f a
  | [], _, _, h => by cases h
  | [b], g, a, h => by rw [List.mem_singleton] at h; subst h; exact g
  | b :: c :: l, g, a, h => by
    have g : f b ∧ allK f (c :: l) := g
    rcases List.mem_cons.1 h with rfl | h
    · exact g.1
    · exact allK_mem g.2 a h
theorem TV_nk {K : Env → Heap → Prop} : ∀ {as : List AI} {e : Env} {h : Heap}, TV C as e h K → TV C (as.map AI.nk) e h K
  | [], _, _, g => g
  | i :: as, e, h, g => by
    have g : wp C i e h fun e' h' => TV C as e' h' K := g
    exact wp.congr (i := i) (K' := fun e' h' => TV C (as.map AI.nk) e' h' K) (fun _ _ => rfl) (fun v h' g => TV_nk g) g
theorem wp.mono {i : AI} {K K' : Env → Heap → Prop} (hk : ∀ e' h', K e' h' → K' e' h') (g : wp C i e h K) : wp C i e h K' := wp.congr (fun _ _ => rfl) (fun _ _ g => hk _ _ g) g
/-- The orders that are told, as conditions: where one operation can change places with all the others, it is first; else each that may be first. -/
def EV (C : Cx) (A : Nat → AI) (ex : Nat → List Nat → Bool) (en : List Nat → Nat → Bool) : Nat → List Nat → Env → Heap → (Env → Heap → Prop) → Prop
  | _, [], e, h, K => K e h
  | 0, _ :: _, _, _, _ => False
  | n + 1, i :: rest, e, h, K => if ex i rest = true then wp C (A i) e h fun e' h' => EV C A ex en n rest e' h' K else ∀ q ∈ i :: rest, en (i :: rest) q = true → wp C (A q) e h fun e' h' => EV C A ex en n ((i :: rest).erase q) e' h' K
variable {A : Nat → AI} {ex : Nat → List Nat → Bool} {en : List Nat → Nat → Bool}
theorem EV.ext {K : Env → Heap → Prop} (hK : KExt K) : ∀ (n : Nat) (rem : List Nat), KExt (EV C A ex en n rem · · K)
  | _, [], e, e', h, he, g => by simp only [EV] at g ⊢; exact hK e e' h he g
  | 0, i :: rest, _, _, _, _, g => by simp only [EV] at g
  | n + 1, i :: rest, e, e', h, he, g => by
    have hp : ∀ (d : Option Nat) (v : AV) (t : Nat), eget (put e d v) t = eget (put e' d v) t := fun d v t => by
      cases d with
      | none => exact he t
      | some d => simp only [put, eget]; split; rfl; exact he t
    simp only [EV] at g ⊢
    split at g
    · rename_i hx
      rw [if_pos hx]
      exact wp.congr (fun t _ => he t) (fun v h' g => EV.ext hK n rest _ _ _ (hp _ v) g) g
    · rename_i hx
      rw [if_neg hx]
      exact fun q hq hen => wp.congr (fun t _ => he t) (fun v h' g => EV.ext hK n _ _ _ _ (hp _ v) g) (g q hq hen)
theorem EV.hp {K : Env → Heap → Prop} (hK : KHP K) (hm : ∀ j, mildK 0 (A j).er = true) : ∀ (n : Nat) (rem : List Nat), KHP (EV C A ex en n rem · · K)
  | _, [], e, h, h', k, g => by simp only [EV] at g ⊢; exact hK e h h' k g
  | 0, i :: rest, _, _, _, _, g => by simp only [EV] at g
  | n + 1, i :: rest, e, h, h', k, g => by
    have w0 : ∀ j, wOk 0 (A j) := fun j => ⟨fun h => by simp [cK] at h, fun h => by omega⟩
    simp only [EV] at g ⊢
    split at g
    · rename_i hx
      rw [if_pos hx]
      exact wp.hp (hm i) (w0 i) (EV.hp hK hm n rest) e h h' k g
    · rename_i hx
      rw [if_neg hx]
      exact fun q hq hen => wp.hp (hm q) (w0 q) (EV.hp hK hm n _) e h h' k (g q hq hen)
/-- What the order's two tests must say. -/
structure ExOk (A : Nat → AI) (md : Bool) (ex : Nat → List Nat → Bool) (en : List Nat → Nat → Bool) : Prop where
  sub : ∀ {i : Nat} {l m : List Nat}, ex i l = true → (∀ j ∈ m, j ∈ l) → ex i m = true
  sw : ∀ {i : Nat} {l : List Nat} {q : Nat}, ex i l = true → q ∈ l → en (i :: l) q = true → swapK 0 md (A i).er (A q).er = true
  en : ∀ {i : Nat} {l : List Nat} {q : Nat}, en (i :: l) q = true → en l q = true
theorem wok0 (a : AI) : wOk 0 a := ⟨fun h => by simp [cK] at h, fun h => by omega⟩
theorem EV.front_nd {md : Bool} (X : ExOk A md ex en) {K : Env → Heap → Prop} (hK : KExt K) (hKP : KHP K) (hm : md = true → ∀ j, mildK 0 (A j).er = true) {q : Nat} (hq : detK 0 (A q).er = false) :
    ∀ (n : Nat) (rem : List Nat) (e : Env) (h : Heap), rem.length ≤ n + 1 → q ∈ rem → en rem q = true → EV C A ex en (n + 1) rem e h K → wp C (A q) e h fun e' h' => EV C A ex en n (rem.erase q) e' h' K
  | _, [], _, _, _, hqm, _, _ => by cases hqm
  | n, i :: rest, e, h, hl, hqm, hen, g => by
    simp only [EV] at g
    split at g
    · rename_i hx
      by_cases hqi : q = i
      · subst hqi
        simpa using g
      · have hqr : q ∈ rest := by
          rcases List.mem_cons.1 hqm with h | h
          · exact absurd h hqi
          · exact h
        have hiq : ¬ i = q := fun h => hqi h.symm
        cases n with
        | zero =>
          cases rest with
          | nil => cases hqr
          | cons a l => simp at hl
        | succ m =>
          have ih := fun e' h' => EV.front_nd X hK hKP hm hq m rest e' h' (by simpa using hl) hqr (X.en hen)
          have g2 := wp.mono (fun e' h' g => ih e' h' g) g
          have s := X.sw hx hqr hen
          have g3 := swap1 (md := md) s (wok0 _) hq (EV.ext hK _ _) (fun h => EV.hp hKP (hm h) _ _) g2
          have e1 : (i :: rest).erase q = i :: rest.erase q := by rw [List.erase_cons_tail]; simpa using hiq
          rw [e1]
          refine wp.mono (fun e' h' g => ?_) g3
          simp only [EV]
          rw [if_pos (X.sub hx fun j hj => List.mem_of_mem_erase hj)]
          exact g
    · exact g q hqm hen
theorem EV.pull_gv (hp : Pure C.P C.orc) {md : Bool} (X : ExOk A md ex en) {q : Nat} (hd : detK 0 (A q).er = true) {K : Env → Heap → Prop} :
    ∀ (n : Nat) (rem : List Nat) {e : Env} {h : Heap} {tmps : Array Value} {w : World}, (∀ i ∈ rem, ∃ ops o, cInstr C.P C.M C.nt ops o = some (A i).er) → SRel C e h w0 D0 tmps w → q ∈ rem → en rem q = true → EV C A ex en n rem e h K → ∃ v, ∀ h, GV C (A q) e h v
  | _, [], _, _, _, _, _, _, hqm, _, _ => by cases hqm
  | 0, _ :: _, _, _, _, _, _, _, _, _, g => by simp only [EV] at g
  | n + 1, i :: rest, e, h, tmps, w, hc, S, hqm, hen, g => by
    have base : ∀ {K : Env → Heap → Prop}, wp C (A q) e h K → ∃ v, ∀ h, GV C (A q) e h v := fun g => by
      obtain ⟨v, g1, _⟩ := g.gv (kR_det hd (wok0 _)).1
      exact ⟨v, g1.heap hd (wok0 _)⟩
    simp only [EV] at g
    split at g
    · rename_i hx
      by_cases hqi : q = i
      · subst hqi; exact base g
      · have hqr : q ∈ rest := by
          rcases List.mem_cons.1 hqm with h | h
          · exact absurd h hqi
          · exact h
        obtain ⟨ops, o, hco⟩ := hc i (List.mem_cons_self ..)
        obtain ⟨v, h', tmps', w', g1, S'⟩ := wp_ex hp hco S g
        obtain ⟨u, g2⟩ := EV.pull_gv hp X hd n rest (fun j hj => hc j (List.mem_cons_of_mem _ hj)) S' hqr (X.en hen) g1
        have D := (swapK_spec (X.sw hx hqr hen)).1
        exact ⟨u, fun h => (g2 h).congr fun t ht => put_off (D.a t ht)⟩
    · exact base (g q hqm hen)
theorem EV.pull_rest {md : Bool} (X : ExOk A md ex en) {q : Nat} (hd : detK 0 (A q).er = true) {v : AV} {K : Env → Heap → Prop} (hK : KExt K) :
    ∀ (n : Nat) (rem : List Nat) {e : Env} {h : Heap}, rem.length ≤ n + 1 → (∀ h, GV C (A q) e h v) → q ∈ rem → en rem q = true → EV C A ex en (n + 1) rem e h K → EV C A ex en n (rem.erase q) (put e (A q).d v) h K
  | _, [], _, _, _, _, hqm, _, _ => by cases hqm
  | n, i :: rest, e, h, hl, hv, hqm, hen, g => by
    have base : ∀ {K : Env → Heap → Prop}, wp C (A q) e h K → K (put e (A q).d v) h := fun g => by
      obtain ⟨v', g1, g2⟩ := g.gv (kR_det hd (wok0 _)).1
      rwa [g1.uniq (hv h)] at g2
    simp only [EV] at g
    split at g
    · rename_i hx
      by_cases hqi : q = i
      · subst hqi
        have := base g
        simpa using this
      · have hqr : q ∈ rest := by
          rcases List.mem_cons.1 hqm with h | h
          · exact absurd h hqi
          · exact h
        have hiq : ¬ i = q := fun h => hqi h.symm
        cases n with
        | zero =>
          cases rest with
          | nil => cases hqr
          | cons a l => simp at hl
        | succ m =>
          have D := (swapK_spec (X.sw hx hqr hen)).1
          have e1 : (i :: rest).erase q = i :: rest.erase q := by rw [List.erase_cons_tail]; simpa using hiq
          rw [e1]
          simp only [EV]
          rw [if_pos (X.sub hx fun j hj => List.mem_of_mem_erase hj)]
          refine wp.congr (fun t ht => (put_off (D.c t ht)).symm) (fun u h' g' => ?_) g
          have := EV.pull_rest X hd hK m rest (by simpa using hl) (fun h => (hv h).congr fun t ht => (put_off (D.a t ht)).symm) hqr (X.en hen) g'
          exact EV.ext hK _ _ _ _ _ (put_comm D.b) this
    · exact base (g q hqm hen)
theorem EV.front (hp : Pure C.P C.orc) {md : Bool} (X : ExOk A md ex en) {K : Env → Heap → Prop} (hK : KExt K) (hKP : KHP K) (hm : md = true → ∀ j, mildK 0 (A j).er = true) {q n : Nat} {rem : List Nat} (hc : ∀ i ∈ rem, ∃ ops o, cInstr C.P C.M C.nt ops o = some (A i).er)
    (S : SRel C e h w0 D0 tmps w) (hl : rem.length ≤ n + 1) (hqm : q ∈ rem) (hen : en rem q = true) (g : EV C A ex en (n + 1) rem e h K) : wp C (A q) e h fun e' h' => EV C A ex en n (rem.erase q) e' h' K := by
  cases hd : detK 0 (A q).er with
  | false => exact EV.front_nd X hK hKP hm hd n rem e h hl hqm hen g
  | true =>
    obtain ⟨v, hv⟩ := EV.pull_gv hp X hd (n + 1) rem hc S hqm hen g
    exact (hv h).wp (EV.pull_rest X hd hK n rem hl hv hqm hen g)
/-! ## From the orders that are told -/
theorem wp_all {i : AI} (hc : cjK i.er = true) {α : Type} {os : List α} (hne : os ≠ []) {Kf : α → Env → Heap → Prop} (g : ∀ o ∈ os, wp C i e h (Kf o)) : wp C i e h fun e' h' => ∀ o ∈ os, Kf o e' h' := by
  obtain ⟨o0, ho0⟩ : ∃ o, o ∈ os := by cases os with
    | nil => exact absurd rfl hne
    | cons a l => exact ⟨a, List.mem_cons_self ..⟩
  have plain : (kR C i e h).plain → wp C i e h fun e' h' => ∀ o ∈ os, Kf o e' h' := fun hp => by
    obtain ⟨v, g1, _⟩ := (g o0 ho0).gv hp
    refine g1.wp fun o ho => ?_
    obtain ⟨v', g2, g3⟩ := (g o ho).gv hp
    rwa [g2.uniq g1] at g3
  unfold cjK at hc
  simp only [Bool.or_eq_true, Bool.and_eq_true] at hc
  rcases hc with (hc | hc) | ⟨hc, hg⟩
  · exact plain (kR_det hc (wok0 _)).1
  · exact plain (load_plain hc)
  · have hg' : i.g = none := by
      have : i.er.guard = i.g := rfl
      rw [this] at hg
      cases hh : i.g <;> rw [hh] at hg <;> first | rfl | cases hg
    obtain ⟨p, f, b, hA⟩ := alloc_R (C := C) hc e
    refine (wp_none hg').2 ((hA h _).2 ⟨((hA h _).1 ((wp_none hg').1 (g o0 ho0))).1, fun id hid o ho => ?_⟩)
    exact ((hA h _).1 ((wp_none hg').1 (g o ho))).2 id hid
theorem EV.of {cj : Nat → Bool} (hcj : ∀ j, cj j = true → cjK (A j).er = true) {K : Env → Heap → Prop} : ∀ (n : Nat) (rem : List Nat) (e : Env) (h : Heap), cjE ex en cj n rem = true → (∀ o ∈ expl ex en n rem, TV C (o.map A) e h K) → EV C A ex en n rem e h K
  | _, [], e, h, _, g => by
    have := g [] (by simp [expl])
    simpa [EV, TV] using this
  | 0, i :: rest, _, _, hc, _ => by simp [cjE] at hc
  | n + 1, i :: rest, e, h, hc, g => by
    have key : ∀ (q : Nat) (l : List Nat), (((expl ex en n l).length == 1 || (cj q && decide (1 ≤ (expl ex en n l).length))) && cjE ex en cj n l) = true → (∀ o ∈ (expl ex en n l).map (q :: ·), TV C (o.map A) e h K) → wp C (A q) e h fun e' h' => EV C A ex en n l e' h' K := by
      intro q l hc g
      simp only [Bool.and_eq_true, Bool.or_eq_true, beq_iff_eq, decide_eq_true_eq] at hc
      have g : ∀ o ∈ expl ex en n l, wp C (A q) e h fun e' h' => TV C (o.map A) e' h' K := fun o ho => g (q :: o) (List.mem_map.2 ⟨o, ho, rfl⟩)
      have all : wp C (A q) e h fun e' h' => ∀ o ∈ expl ex en n l, TV C (o.map A) e' h' K := by
        rcases hc.1 with h1 | ⟨h1, h2⟩
        · match hL : expl ex en n l, h1 with
          | [o], _ =>
            rw [hL] at g
            exact wp.mono (fun e' h' g o' ho' => by rw [List.mem_singleton] at ho'; subst ho'; exact g) (g o (List.mem_singleton.2 rfl))
        · exact wp_all (hcj q h1) (fun h => by rw [h] at h2; simp at h2) g
      exact wp.mono (fun e' h' g => EV.of hcj n l e' h' hc.2 g) all
    simp only [EV]
    simp only [cjE] at hc
    simp only [expl] at g
    split
    · rename_i hx
      rw [if_pos hx] at hc g
      exact key i rest hc g
    · rename_i hx
      rw [if_neg hx] at hc g
      intro q hq hen
      have hqf : q ∈ (i :: rest).filter (en (i :: rest)) := List.mem_filter.2 ⟨hq, hen⟩
      exact key q _ (List.all_eq_true.1 hc q hqf) fun o ho => g o (List.mem_flatMap.2 ⟨q, hqf, ho⟩)
theorem exp_go (hp : Pure C.P C.orc) {ops : Array Oper} {md : Bool} {k : List Item} {K : Env → Heap → Prop} (hK : KExt K) (hKP : KHP K) (A : Nat → AI) (edges : ∀ (j : Nat) (o : Oper), ops[j]? = some o → ∀ e ∈ o.after, Region.binds .any e = true → e.on < j)
    (hA : ∀ (j : Nat) (o : Oper), ops[j]? = some o → cInstr C.P C.M C.nt ops o = some (A j).er) (hmd : md = true → ∀ j, mildK 0 (A j).er = true) (X : ExOk A md ex (enE (Region.before ops)))
    (hrest : ∀ e' h' tmps' w', K e' h' → SRel C e' h' w0 D0 tmps' w' → Fin C w0 D0 R cs (lone ((bF C.fn).at ⟨tmps', []⟩ (.inRegion ops [] :: k)) cs w')) :
    ∀ (n : Nat) (rem : List Nat) (t : Nat) (listed : Array Bool) (e : Env) (h : Heap) (tmps : Array Value) (w : World), rem.length = n → listed.size = ops.size → Closed ops listed → rem.Pairwise (· < ·) → (∀ j, j ∈ rem ↔ j < ops.size ∧ listed.getD j false = false) →
      EV C A ex (enE (Region.before ops)) n rem e h K → SRel C e h w0 D0 tmps w → Fin C w0 D0 R cs (lone ((bF C.fn).at ⟨tmps, []⟩ (.inRegion ops (Region.linearise.go .any ops n t listed []) :: k)) cs w) := by
  intro n
  induction n with
  | zero =>
    intro rem t listed e h tmps w hn _ _ _ _ g S
    have := List.eq_nil_of_length_eq_zero hn
    subst this
    simp only [EV] at g
    exact hrest e h tmps w g S
  | succ n ih =>
    intro rem t listed e h tmps w hn hls hcl hpw hmem g S
    obtain ⟨jr, hjr⟩ : ∃ j, j ∈ Region.ready .any ops listed := by
      cases rem with
      | nil => cases hn
      | cons r0 rs =>
        obtain ⟨hr0, hl0⟩ := (hmem r0).1 (List.mem_cons_self ..)
        have hjl : r0 < listed.size := by omega
        refine ⟨r0, mem_ready.2 ⟨by simpa [hjl] using hl0, ops[r0], Array.getElem?_eq_getElem hr0, fun ed he hb => ?_⟩⟩
        have hlt := edges r0 _ (Array.getElem?_eq_getElem hr0) ed he hb
        cases hl2 : listed.getD ed.on false with
        | true => rfl
        | false =>
          rcases List.mem_cons.1 ((hmem ed.on).2 ⟨by omega, hl2⟩) with h | h
          · omega
          · have := (List.pairwise_cons.1 hpw).1 _ h; omega
    simp only [Region.linearise.go]
    change Fin C w0 D0 R cs (lone ((bF C.fn).at ⟨tmps, []⟩ (.inRegion ops (match (Region.ready .any ops listed)[t % (Region.ready .any ops listed).length]? with
      | some i => Region.linearise.go .any ops n (t / (Region.ready .any ops listed).length) (listed.setIfInBounds i true) [i]
      | none => [].reverse) :: k)) cs w)
    have hlen : 0 < (Region.ready .any ops listed).length := List.length_pos_of_mem hjr
    have hlt : t % (Region.ready .any ops listed).length < (Region.ready .any ops listed).length := Nat.mod_lt _ hlen
    cases hi : (Region.ready .any ops listed)[t % (Region.ready .any ops listed).length]? with
    | none => rw [List.getElem?_eq_getElem hlt] at hi; cases hi
    | some j =>
      simp only []
      rw [linearise_go_acc, List.reverse_singleton, List.singleton_append]
      have hj := List.mem_of_getElem? hi
      obtain ⟨hnot, o, ho, _⟩ := mem_ready.1 hj
      have hjo : j < ops.size := (Array.getElem?_eq_some_iff.1 ho).1
      have hjl : j < listed.size := by omega
      have hnotf : listed.getD j false = false := by
        have : listed.getD j true = false := hnot
        simpa [hjl] using this
      have hjm : j ∈ rem := (hmem j).2 ⟨hjo, hnotf⟩
      have hnd : rem.Nodup := hpw.imp fun h => Nat.ne_of_lt h
      have hbef : ∀ m, ((Region.before ops).getD j 0).testBit m = true → listed.getD m false = true := fun m hm => ready_bef edges hcl hj hm
      have hen : enE (Region.before ops) rem j = true := by
        unfold enE
        rw [List.all_eq_true]
        intro p hpm
        have := ((hmem p).1 hpm).2
        cases hb : bfb (Region.before ops) p j with
        | false => rfl
        | true => rw [hbef p hb] at this; cases this
      have g' := EV.front hp X hK hKP hmd (fun i hi => by
        obtain ⟨hio, _⟩ := (hmem i).1 hi
        exact ⟨ops, ops[i], hA i _ (Array.getElem?_eq_getElem hio)⟩) S (by omega) hjm hen g
      refine wp_step hp ho (hA j o ho) S g' fun e' h' tmps' w' g'' S' => ?_
      refine ih (rem.erase j) _ _ e' h' tmps' w' (by rw [List.length_erase_of_mem hjm]; omega) (by simp [hls]) ?_ (hpw.sublist (List.erase_sublist ..)) ?_ g'' S'
      · intro a b ha hb
        by_cases haj : a = j
        · subst haj
          have := hbef b hb
          by_cases hbj : b = a
          · subst hbj; rw [hnotf] at this; cases this
          · rw [getD_set_ne false (fun h => hbj h.symm)]; exact this
        · rw [getD_set_ne false (fun h => haj h.symm)] at ha
          have := hcl a b ha hb
          by_cases hbj : b = j
          · subst hbj; rw [hnotf] at this; cases this
          · rw [getD_set_ne false (fun h => hbj h.symm)]; exact this
      · intro m
        rw [hnd.mem_erase_iff]
        by_cases hmj : m = j
        · subst hmj
          refine ⟨fun hm => absurd rfl hm.1, fun hm => ?_⟩
          rw [getD_set_eq hjl] at hm; cases hm.2
        · rw [getD_set_ne false (fun h => hmj h.symm), ← hmem m]
          exact ⟨fun h => h.2, fun h => ⟨hmj, h⟩⟩
theorem exp_sound (hp : Pure C.P C.orc) {ops : Array Oper} {is : List SI} {id : Nat} {k : List Item} (hc : cInstrs C.P C.M C.nt ops ops.toList = some is) (hok : expOk C.P ops is = true) {K : Env → Heap → Prop} (hK : KExt K) (hKP : KHP K) {as : List AI} (has : as.map AI.er = is)
    (hk : ∀ o ∈ explOf ops is, TV C (o.map (aAt as)) e h K) (S : SRel C e h w0 D0 tmps w)
    (hrest : ∀ e' h' tmps' w', K e' h' → SRel C e' h' w0 D0 tmps' w' → Fin C w0 D0 R cs (lone ((bF C.fn).at ⟨tmps', []⟩ (.inRegion ops [] :: k)) cs w')) :
    Fin C w0 D0 R cs (lone ((bF C.fn).at ⟨tmps, []⟩ (.code (.region id ops true) :: k)) cs w) := by
  unfold expOk at hok
  simp only [Bool.and_eq_true] at hok
  obtain ⟨⟨h1, h2⟩, hm⟩ := hok
  obtain ⟨g1, g2⟩ := cInstrs_get (C := C) ops _ _ hc
  have hlen : as.length = ops.size := by rw [← List.length_map (f := AI.er), has, g1]; simp
  have hlis : is.length = ops.size := by rw [← has, List.length_map, hlen]
  refine Fin.head step_region_draw ?_
  have hs : ∀ t, Region.schedule (C.P.follows .mixedOrders) ops t = Region.linearise.go .any ops ops.size t (Array.replicate ops.size false) [] := fun t => by
    simp only [Region.schedule, hm, Bool.true_or, if_true]
    rfl
  rw [hs]
  have f0 : ∀ m, (Array.replicate ops.size false).getD m false = false := fun m => by
    simp only [Array.getD_eq_getD_getElem?, Array.getElem?_replicate]
    split <;> rfl
  have S1 : SRel C e h w0 D0 tmps { w with drawn := w.drawn + 1 } := ⟨S.env.mono (Keeps.drew w _), S.size, S.heap.drew, S.ev.trans (Evolve.drew w _)⟩
  have hAe : ∀ j, j < ops.size → is[j]? = some (aAt as j).er := fun j hj => by
    have hj' : j < as.length := by omega
    rw [← has]
    simp [aAt, hj']
  have hAs : ∀ j, (aAt as j).er = sAt is j := fun j => by
    by_cases hj : j < ops.size
    · have := hAe j hj
      unfold sAt
      rw [List.getD_eq_getElem?_getD, this, Option.getD_some]
    · have h1 : ¬ j < as.length := by omega
      have h2 : ¬ j < is.length := by omega
      simp [aAt, sAt, h1, h2, AI.er]
  have X : ExOk (aAt as) (is.all (mildK 0)) (exE (Region.before ops) (is.all (mildK 0)) (sAt is)) (enE (Region.before ops)) := by
    refine ⟨fun {i l m} hx hs => ?_, fun {i l q} hx hq hen => ?_, fun {i l q} hen => ?_⟩
    · unfold exE at hx ⊢
      rw [List.all_eq_true] at hx ⊢
      exact fun j hj => hx j (hs j hj)
    · unfold exE at hx
      unfold enE at hen
      rw [List.all_eq_true] at hx hen
      have h1 := hx q hq
      have h2 := hen i (List.mem_cons_self ..)
      rw [hAs, hAs]
      simp only [Bool.or_eq_true, Bool.not_eq_true'] at h1 h2
      rcases h1 with h1 | h1
      · rw [h1] at h2; cases h2
      · exact h1
    · unfold enE at hen ⊢
      rw [List.all_eq_true] at hen ⊢
      exact fun j hj => hen j (List.mem_cons_of_mem _ hj)
  have hmd : is.all (mildK 0) = true → ∀ j, mildK 0 (aAt as j).er = true := fun hmm j => by
    by_cases hj : j < ops.size
    · exact (List.all_eq_true.1 hmm) _ (List.mem_of_getElem? (hAe j hj))
    · have h1 : ¬ j < as.length := by omega
      simp [aAt, h1, AI.er, mildK, detK, isPure]
  refine exp_go hp hK hKP (aAt as) (fun j o hj ed hed => ?_) (fun j o hj => ?_) hmd X hrest ops.size (List.range ops.size) _ _ e h tmps _ (by simp) (by simp) (fun a b ha => by rw [f0 a] at ha; cases ha) List.pairwise_lt_range (fun j => by rw [f0 j]; simp) ?_ S1
  · unfold edgesOk at h2
    rw [List.all_eq_true] at h2
    have h1 := h2 (o, j) (by rw [List.mem_zipIdx_iff_getElem?]; simpa using hj)
    simp only [List.all_eq_true] at h1
    have h2 := h1 ed (by simpa using hed)
    intro hb
    simp only [Bool.or_eq_true, Bool.not_eq_true', decide_eq_true_eq] at h2
    rcases h2 with h2 | h2
    · rw [hb] at h2; cases h2
    · exact h2
  · obtain ⟨i, q1, q2⟩ := g2 j o (by simpa using hj)
    have := hAe j (Array.getElem?_eq_some_iff.1 hj).1
    rw [q1] at this
    cases this
    exact q2
  · rw [hlis] at h1
    unfold explOf at hk
    rw [hlis] at hk
    exact EV.of (fun j hj => by rw [hAs]; exact hj) _ _ e h h1 hk
end
end Go.AG
