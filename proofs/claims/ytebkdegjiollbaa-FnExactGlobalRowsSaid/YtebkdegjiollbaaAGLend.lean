/- Our own small layer: a function that reads memory which may be written, and gives memory of its own. No statement about the program is made here. -/
import Derived.Test.YtebkdegjiollbaaAGFrz
namespace Go.AG
open Go.RowKit
set_option linter.unusedVariables false
mutual
/-- Values that do not lean on memory which nobody writes. -/
def own : AV → Bool
  | .snap _ l => l.isEmpty
  | .ip _ => false
  | .agg l => owns l
  | .tup l => owns l
  | .fn _ l => owns l
  | _ => true
def owns : List AV → Bool
  | [] => true
  | x :: xs => own x && owns xs
end
mutual
theorem Rep.own {w : World} {D D' : List Nat} : ∀ (x : AV) (v : Value), own x = true → Rep w D x v → Rep w D' x v
  | .int _ _, _, _, h => h
  | .bool _, _, _, h => h
  | .str _, _, _, h => h
  | .nilsl, _, _, h => h
  | .emp, _, _, h => h
  | .snap _ [], _, _, ⟨A, c, e, h1, h2, h3⟩ => ⟨A, c, e, h1, h2, fun ad had => ⟨fun h => absurd rfl h, fun h => absurd rfl h, trivial⟩⟩
  | .sl _ _ _ _ _, _, _, h => h
  | .ptr _ _ _ _, _, _, h => h
  | .agg l, _, ho, ⟨vs, e, h⟩ => ⟨vs, e, Reps.own l vs ho h⟩
  | .fn _ l, _, ho, ⟨vs, e, h⟩ => ⟨vs, e, Reps.own l vs ho h⟩
  | .tup l, _, ho, ⟨vs, e, h⟩ => ⟨vs, e, Reps.own l vs ho h⟩
  | .nilp, _, _, h => h
  | .nilfn, _, _, h => h
  | .nili, _, _, h => h
  | .ifc, _, _, h => h
  | .undef, _, _, h => h
theorem Reps.own {w : World} {D D' : List Nat} : ∀ (xs : List AV) (vs : List Value), owns xs = true → Reps w D xs vs → Reps w D' xs vs
  | [], _, _, h => h
  | x :: xs, _, ho, ⟨v, r, e, h1, h2⟩ => by
    simp only [owns, Bool.and_eq_true] at ho
    exact ⟨v, r, e, Rep.own x v ho.1 h1, Reps.own xs r ho.2 h2⟩
end
theorem Cells.own {w : World} {D D' : List Nat} : ∀ (xs : List AV) (b o : Nat), owns xs = true → Cells w D xs b o → Cells w D' xs b o
  | [], _, _, _, _ => trivial
  | x :: xs, b, o, ho, ⟨⟨v, h1, h2, h3⟩, h4⟩ => by
    simp only [owns, Bool.and_eq_true] at ho
    exact ⟨⟨v, h1, h2, Rep.own x v ho.1 h3⟩, Cells.own xs b (o + 1) ho.2 h4⟩
theorem own_cells {x : AV} (h : own x = true) : owns (cellsOf x) = true := by
  cases x <;> simp_all [cellsOf, Go.AG.own, owns]
theorem Elems.own {w : World} {D D' : List Nat} (sz : Nat) : ∀ (xs : List AV) (b o : Nat), xs.all Go.AG.own = true → Elems w D sz xs b o → Elems w D' sz xs b o
  | [], _, _, _, _ => trivial
  | x :: xs, b, o, ho, h => by
    simp only [List.all_cons, Bool.and_eq_true] at ho
    obtain ⟨h1, h2⟩ := Elems_cons.1 h
    exact Elems_cons.2 ⟨⟨h1.1, Cells.own _ b o (own_cells ho.1) h1.2⟩, Elems.own sz xs b (o + sz) ho.2 h2⟩
theorem dom_append (h g : Heap) : dom (h ++ g) = dom h ++ dom g := by simp [dom]
theorem lend_repD {w : World} {h : Heap} (H : HRel w h) {D : List Nat} (hD : ∀ x ∈ D, x ∈ dom h) : ∀ (L : List (Nat × Blk)), (∀ p ∈ L, hget h p.1 = some p.2 ∧ p.1 ∉ D) → ∀ (xs : List AV) (vs : List Value), Reps w D xs vs → Reps w D (lend L xs) vs
  | [], _, _, _, r => r
  | (id, b) :: L, hL, xs, vs, r => lend_repD H hD L (fun p hp => hL p (List.mem_cons_of_mem _ hp)) _ vs (Reps.fz (H.held (hL (id, b) (List.mem_cons_self ..)).1 hD (hL (id, b) (List.mem_cons_self ..)).2) _ _ r)
/-- The blocks whose numbers these are, taken away. -/
def hdels : Heap → List Nat → Heap
  | h, [] => h
  | h, i :: is => hdels (hdel h i) is
theorem hdels_dom : ∀ (is : List Nat) {h : Heap} {x : Nat}, x ∈ dom (hdels h is) → x ∈ dom h
  | [], _, _, hx => hx
  | _ :: is, _, _, hx => dom_hdel_sub (hdels_dom is hx)
theorem hdels_nodup : ∀ (is : List Nat) {h : Heap}, (dom h).Nodup → (dom (hdels h is)).Nodup
  | [], _, hn => hn
  | _ :: is, _, hn => hdels_nodup is (nodup_hdel hn)
theorem hdels_out : ∀ (is : List Nat) {h : Heap}, (dom h).Nodup → ∀ x ∈ is, x ∉ dom (hdels h is)
  | [], _, _, _, hx => by simp at hx
  | i :: is, h, hn, x, hx => by
    intro hm
    rcases List.mem_cons.1 hx with rfl | hx
    · exact hdel_out hn (hdels_dom is hm)
    · exact hdels_out is (nodup_hdel hn) x hx hm
theorem hdels_mem : ∀ (is : List Nat) {h : Heap} {p : Nat × Blk}, (dom h).Nodup → p ∈ hdels h is → p ∈ h
  | [], _, _, _, hp => hp
  | _ :: is, _, _, hn, hp => (mem_hdel hn (hdels_mem is (nodup_hdel hn) hp)).2
theorem mem_hget : ∀ {h : Heap} {k : Nat} {b : Blk}, hget h k = some b → (k, b) ∈ h := hget_mem
theorem hget_of_mem : ∀ {h : Heap} {p : Nat × Blk}, (dom h).Nodup → p ∈ h → hget h p.1 = some p.2
  | [], _, _, hp => by simp at hp
  | (i, b) :: h, p, nd, hp => by
    simp only [dom, List.map_cons, List.nodup_cons] at nd
    simp only [hget]
    rcases List.mem_cons.1 hp with rfl | hp
    · simp
    · rw [if_neg fun e => nd.1 (by rw [e]; exact List.mem_map.2 ⟨p, hp, rfl⟩)]
      exact hget_of_mem nd.2 hp
theorem mem_hdel' : ∀ {h : Heap} {k : Nat} {p : Nat × Blk}, p ∈ h → p.1 ≠ k → p ∈ hdel h k
  | (i, b) :: h, k, p, hp, hk => by
    simp only [hdel]
    split
    · rename_i hik
      rcases List.mem_cons.1 hp with rfl | hp
      · exact absurd hik hk
      · exact hp
    · rcases List.mem_cons.1 hp with rfl | hp
      · exact List.mem_cons_self ..
      · exact List.mem_cons_of_mem _ (mem_hdel' hp hk)
theorem mem_hdels : ∀ (is : List Nat) {h : Heap} {p : Nat × Blk}, p ∈ h → p.1 ∉ is → p ∈ hdels h is
  | [], _, _, hp, _ => hp
  | i :: is, _, _, hp, hk => mem_hdels is (mem_hdel' hp fun e => hk (by simp [e])) fun hm => hk (List.mem_cons_of_mem _ hm)
theorem ACalls.monoN {P : Program} {g : FuncId} {args : List AV} {h : Heap} {R R' : AV → Heap → Prop} (H : ACalls P g args h R) (hr : ∀ v h', R v h' → (dom h').Nodup → R' v h') : ACalls P g args h R' :=
  ⟨H.1, fun w vs hw hv => (H.2 w vs hw hv).mono fun _ _ ⟨cv, v, h', e1, e2, e3, e4, e5⟩ => ⟨cv, v, h', e1, e2, e3, e4, hr _ _ e5 e3.nd⟩⟩
/-- Fewer blocks are told. -/
theorem HRel.sub {w : World} {h h' : Heap} (H : HRel w h) (hs : ∀ p ∈ h', p ∈ h) (nd : (dom h').Nodup) : HRel w h' ∧ Evolve w (dom h) w (dom h') := by
  have hd : ∀ x, x ∈ dom h' → x ∈ dom h := fun x hx => by
    obtain ⟨p, hp, rfl⟩ := List.mem_map.1 hx
    exact List.mem_map.2 ⟨p, hs p hp, rfl⟩
  have K : Keeps w w (dom h) (dom h') := ⟨Nat.le_refl _, fun _ _ _ => rfl, fun b _ hb hm => hb (hd b hm), fun _ c _ _ h => ⟨c, h, rfl⟩⟩
  refine ⟨⟨nd, fun p hp => ?_, H.fix.mono K⟩, ⟨K, rfl, rfl, rfl, fun _ => Nat.le_refl _⟩⟩
  obtain ⟨c, el, e, hE⟩ := H.all p (hs p hp)
  exact ⟨c, el, e, Elems.mono K _ _ _ _ (fun _ => rfl) hE⟩
theorem ACalls.sub {P : Program} {g : FuncId} {args : List AV} {h : Heap} {R : AV → Heap → Prop} (H : ACalls P g args h fun v h'' => ∃ h', (∀ p ∈ h', p ∈ h'') ∧ ((dom h'').Nodup → (dom h').Nodup) ∧ R v h') : ACalls P g args h R :=
  ⟨H.1, fun w vs hw hv => (H.2 w vs hw hv).mono fun en w' ⟨cv, v, h'', e1, e2, e3, e4, h', e5, e6, e7⟩ => by
    obtain ⟨H', Ev⟩ := e3.sub e5 (e6 e3.nd)
    exact ⟨cv, v, h', e1, Rep.mono Ev.keeps _ _ e2, H', e4.trans Ev, e7⟩⟩
/-- The blocks h may be written; the function writes those of hs, only reads those of L, and what it gives is its own; only those of k are told of behind it. -/
theorem ACalls.frame {P : Program} {g : FuncId} {args : List AV} {h : Heap} (hs L k : Heap) (nd : (dom hs).Nodup) (hsub : ∀ p ∈ hs, p ∈ h) (hL : ∀ p ∈ L, p ∈ h ∧ p.1 ∉ dom hs) (hk : ∀ p ∈ k, p ∈ h ∧ p.1 ∉ dom hs) (ndk : (dom h).Nodup → (dom k).Nodup) {S : AV → Heap → Prop} (H : ACalls P g (lend L args) hs S)
    (ho : ∀ v h', S v h' → own v = true ∧ (h'.all fun p => p.2.l.all own) = true) : ACalls P g args h (fun v h'' => ∃ h', S v h' ∧ (∀ i, i ∈ dom h' → i ∈ dom hs ∨ i ∉ dom h) ∧ h'' = h' ++ k) :=
  ⟨H.1, fun w vs hw hv => by
    have hD : ∀ x ∈ dom hs, x ∈ dom h := fun x hx => by
      obtain ⟨p, hp, rfl⟩ := List.mem_map.1 hx
      exact List.mem_map.2 ⟨p, hsub p hp, rfl⟩
    have K0 : Keeps w w (dom h) (dom hs) := ⟨Nat.le_refl _, fun _ _ _ => rfl, fun b _ hb hm => hb (hD b hm), fun _ c _ _ h => ⟨c, h, rfl⟩⟩
    have r := lend_repD hw hD L (fun p hp => ⟨hget_of_mem hw.nd (hL p hp).1, (hL p hp).2⟩) args vs (Reps.mono K0 _ _ hv)
    have hr : HRel w hs := ⟨nd, fun p hp => (by
      obtain ⟨c, el, e, hE⟩ := hw.all _ (hsub p hp)
      exact ⟨c, el, e, Elems.mono K0 _ _ _ _ (fun _ => rfl) hE⟩), hw.fix.mono K0⟩
    refine (H.2 w vs hr r).mono fun en w' ⟨cv, v, h', e1, e2, e3, e4, e5⟩ => ?_
    obtain ⟨o1, o2⟩ := ho v h' e5
    have new : ∀ i, i ∈ dom h' → i ∈ dom hs ∨ i ∉ dom h := fun i hi => by
      by_cases hi' : i ∈ dom hs
      · exact .inl hi'
      · exact .inr fun hm => e4.keeps.dom i (hw.lt hm) hi' hi
    have hkd : ∀ i, i ∈ dom k → i ∈ dom h ∧ i ∉ dom hs := fun i hi => by
      obtain ⟨p, hp, rfl⟩ := List.mem_map.1 hi
      exact ⟨List.mem_map.2 ⟨p, (hk p hp).1, rfl⟩, (hk p hp).2⟩
    have K : Keeps w w' (dom h) (dom (h' ++ k)) := ⟨e4.keeps.size, fun b hb hn => e4.keeps.block b hb fun hm => hn (hD b hm), fun b hb hn hm => by
      rw [dom_append, List.mem_append] at hm
      rcases hm with hm | hm
      · rcases new b hm with h1 | h1
        · exact hn (hD b h1)
        · exact e4.keeps.dom b hb (fun h2 => hn (hD b h2)) hm
      · exact hn (hkd b hm).1, e4.keeps.rows⟩
    refine ⟨cv, v, h' ++ k, e1, Rep.own _ _ o1 e2, ⟨?_, fun p hp => ?_, hw.fix.mono K⟩, ⟨K, e4.os, e4.tape, e4.output, e4.drawn⟩, h', e5, new, rfl⟩
    · rw [dom_append]
      refine List.nodup_append.2 ⟨e3.nd, ndk hw.nd, fun a ha b hb hab => ?_⟩
      subst hab
      obtain ⟨h2, h3⟩ := hkd a hb
      rcases new a ha with h1 | h1
      · exact h3 h1
      · exact h1 h2
    · rcases List.mem_append.1 hp with hp' | hp'
      · obtain ⟨c, el, e, hE⟩ := e3.all p hp'
        exact ⟨c, el, e, Elems.own _ _ _ _ (List.all_eq_true.1 o2 p hp') hE⟩
      · obtain ⟨c, el, e, hE⟩ := hw.all p (hk p hp').1
        have h1 := hw.lt (List.mem_map.2 ⟨p, (hk p hp').1, rfl⟩)
        have hbk : w'.heap[p.1]? = w.heap[p.1]? := e4.keeps.block _ h1 (hk p hp').2
        exact ⟨c, el, hbk.trans e, Elems.mono K _ _ _ _ (fun o => cell_block hbk o) hE⟩⟩
/-- The function only reads, and gives a value of its own without new memory. -/
theorem ACalls.reads {P : Program} {g : FuncId} {args : List AV} {h : Heap} (L : Heap) (hL : ∀ p ∈ L, p ∈ h) {v0 : AV} (H : ACalls P g (lend L args) [] (fun v h' => v = v0 ∧ h' = [])) (ho : own v0 = true) : ACalls P g args h (fun v h' => v = v0 ∧ h' = h) :=
  (ACalls.frame [] L h (by simp [dom]) (by simp) (fun p hp => ⟨hL p hp, by simp [dom]⟩) (fun p hp => ⟨hp, by simp [dom]⟩) id H (fun v h' e => by obtain ⟨rfl, rfl⟩ := e; simp [ho])).mono fun v h'' ⟨h', ⟨e1, e2⟩, _, e3⟩ => by
    subst e2; exact ⟨e1, e3⟩
/-- The function only reads what is lent, and gives new memory. -/
theorem ACalls.gives {P : Program} {g : FuncId} {args : List AV} {h : Heap} (L : Heap) (hL : ∀ p ∈ L, p ∈ h) {S : AV → Heap → Prop} (H : ACalls P g (lend L args) [] S) (ho : ∀ v h', S v h' → own v = true ∧ (h'.all fun p => p.2.l.all own) = true) :
    ACalls P g args h (fun v h'' => ∃ h', S v h' ∧ (∀ i, i ∈ dom h' → i ∉ dom h) ∧ h'' = h' ++ h) :=
  (ACalls.frame [] L h (by simp [dom]) (by simp) (fun p hp => ⟨hL p hp, by simp [dom]⟩) (fun p hp => ⟨hp, by simp [dom]⟩) id H ho).mono fun v h'' ⟨h', e1, e2, e3⟩ =>
    ⟨h', e1, fun i hi => (e2 i hi).elim (fun h => by simp [dom] at h) id, e3⟩
/-- The function writes hs, which nobody looks at any more. -/
theorem ACalls.marks {P : Program} {g : FuncId} {args : List AV} {h : Heap} (hs k : Heap) (nd : (dom hs).Nodup) (hsub : ∀ p ∈ hs, p ∈ h) (hk : ∀ p ∈ k, p ∈ h ∧ p.1 ∉ dom hs) (ndk : (dom h).Nodup → (dom k).Nodup) {v0 : AV} {S : Heap → Prop} (H : ACalls P g args hs (fun v h' => v = v0 ∧ S h'))
    (ho : own v0 = true ∧ ∀ h', S h' → (h'.all fun p => p.2.l.all own) = true) : ACalls P g args h (fun v h'' => v = v0 ∧ h'' = k) :=
  ACalls.sub ((ACalls.frame hs [] k nd hsub (by simp) hk ndk (S := fun v h' => v = v0 ∧ S h') (by simpa [lend] using H) (fun v h' e => by obtain ⟨rfl, e⟩ := e; exact ⟨ho.1, ho.2 h' e⟩)).mono fun v h'' ⟨h', ⟨e1, e2⟩, _, e3⟩ =>
    ⟨k, fun p hp => by rw [e3]; exact List.mem_append_right _ hp, fun hn => by rw [e3, dom_append] at hn; exact (List.nodup_append.1 hn).2.1, e1, rfl⟩)
end Go.AG
