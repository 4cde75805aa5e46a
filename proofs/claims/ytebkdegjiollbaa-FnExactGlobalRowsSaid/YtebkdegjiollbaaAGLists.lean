/- Our own small layer: slices of slices of whole numbers, and what they own. No statement about the program is made here. -/
import Derived.Test.YtebkdegjiollbaaAGInts
namespace Go.AG
open Go.RowKit
set_option linter.unusedVariables false
set_option linter.unusedSimpArgs false
def il (r : List Int) : AV := .snap 1 (r.map iv)
@[simp] theorem il_eq (r : List Int) : il r = .snap 1 (r.map iv) := rfl
@[simp] theorem il_inj (l m : List (List Int)) : (l.map il = m.map il) ↔ l = m := ⟨fun h => List.map_inj_right (fun _ _ h => by simpa using h) |>.1 h, fun h => by rw [h]⟩
@[simp] theorem cold_il (r : List Int) : cold (il r) = true := by simp [il, cold]
@[simp] theorem colds_il (rs : List (List Int)) : colds (rs.map il) = true := by
  induction rs with
  | nil => rfl
  | cons a l ih => simp only [List.map_cons, colds, ih, cold_il]; rfl
inductive All2 {α β : Type} (p : α → β → Prop) : List α → List β → Prop
  | nil : All2 p [] []
  | cons {x : α} {y : β} {xs : List α} {ys : List β} : p x y → All2 p xs ys → All2 p (x :: xs) (y :: ys)
theorem All2.length_eq {α β : Type} {p : α → β → Prop} {xs : List α} {ys : List β} (h : All2 p xs ys) : xs.length = ys.length := by
  induction h with
  | nil => rfl
  | cons _ _ ih => simp [ih]
theorem Wks.imp2 {p : AV → AV → Prop} (hp : ∀ x y, p x y → Wk x y ∧ isCell x = true ∧ isCell y = true) {w : World} {D : List Nat} {b : Nat} : ∀ {xs ys : List AV} {o : Nat}, All2 p xs ys → Elems w D 1 xs b o → Elems w D 1 ys b o
  | [], [], _, _, h => h
  | [], _ :: _, _, h, _ => nomatch h
  | _ :: _, [], _, h, _ => nomatch h
  | x :: xs, y :: ys, o, h, hE => by
    cases h with
    | cons h1 h2 =>
      obtain ⟨hw, hx, hy⟩ := hp x y h1
      obtain ⟨g1, g2⟩ := Elems_cons.1 hE
      refine Elems_cons.2 ⟨?_, Wks.imp2 hp h2 g2⟩
      rw [cells_of hy]
      rw [cells_of hx] at g1
      refine ⟨rfl, ?_⟩
      obtain ⟨⟨v, q1, q2, q3⟩, _⟩ := g1.2
      exact ⟨⟨v, q1, q2, hw w D v q3⟩, trivial⟩
/-- Cells one by one told less exactly. -/
theorem Wk.snap1 {xs ys : List AV} (h : All2 (fun x y => Wk x y ∧ isCell x = true ∧ isCell y = true) xs ys) : Wk (.snap 1 xs) (.snap 1 ys) := fun w D v ⟨A, c, e, h1, h2, h3⟩ => by
  have hl := h.length_eq
  refine ⟨A, c, by rw [← hl]; exact e, by rw [← hl]; exact h1, fun hA => ?_, fun ad had => ?_⟩
  · have := h2 hA
    subst this
    cases h; rfl
  · obtain ⟨g1, g2, g3⟩ := h3 ad had
    have hne : ys ≠ [] → xs ≠ [] := fun hy hx => hy (by subst hx; cases h; rfl)
    exact ⟨fun hy => g1 (hne hy), fun hy => g2 (hne hy), Wks.imp2 (fun _ _ h => h) h g3⟩
/-- v is a slice of slices that nobody writes and reads as rs. -/
inductive IsLL : AV → List (List Int) → Prop
  | nil : IsLL .nilsl []
  | emp : IsLL .emp []
  | snap {us : List AV} {rs : List (List Int)} (h : All2 (IsL iv 1) us rs) : IsLL (.snap 1 us) rs
theorem IsL.cell {α : Type} {enc : α → AV} {sz : Nat} {v : AV} {l : List α} (h : IsL enc sz v l) : isCell v = true := by cases h <;> rfl
theorem IsLs.wk {us : List AV} {rs : List (List Int)} (h : All2 (IsL iv 1) us rs) : All2 (fun x y => Wk x y ∧ isCell x = true ∧ isCell y = true) us (rs.map il) := by
  induction h with
  | nil => exact .nil
  | cons h1 _ ih => exact .cons ⟨h1.wk, h1.cell, rfl⟩ ih
theorem IsLL.wk {v : AV} {rs : List (List Int)} (h : IsLL v rs) : Wk v (.snap 1 (rs.map il)) := by
  cases h with
  | nil => exact Wk.nil 1
  | emp => exact Wk.emp 1
  | snap h => exact Wk.snap1 (IsLs.wk h)
theorem IsLL.is (rs : List (List Int)) : IsLL (.snap 1 (rs.map il)) rs := .snap (by
  induction rs with
  | nil => exact .nil
  | cons r rs ih => exact .cons (.snap r) ih)
theorem IsLs.cold {us : List AV} {rs : List (List Int)} (h : All2 (IsL iv 1) us rs) : colds us = true := by
  induction h with
  | nil => rfl
  | cons h1 _ ih => simp only [colds, h1.cold cold_iv1, ih]; rfl
theorem IsLL.cold {v : AV} {rs : List (List Int)} (h : IsLL v rs) : Go.AG.cold v = true := by
  cases h with
  | nil => rfl
  | emp => rfl
  | snap h => simp only [Go.AG.cold, IsLs.cold h]
/-- Slices, each in a block of its own. -/
inductive OwnLs : List AV → List (List Int) → Heap → Prop
  | nil : OwnLs [] [] []
  | cons {u : AV} {r : List Int} {h1 : Heap} {us : List AV} {rs : List (List Int)} {h2 : Heap} (o : OwnL iv 1 u r h1) (os : OwnLs us rs h2) (d : ∀ i ∈ dom h1, i ∉ dom h2) : OwnLs (u :: us) (r :: rs) (h1 ++ h2)
theorem OwnLs.nodup {us : List AV} {rs : List (List Int)} {hp : Heap} (h : OwnLs us rs hp) : (dom hp).Nodup := by
  induction h with
  | nil => exact List.nodup_nil
  | cons o os d ih =>
    rw [dom_append]
    exact List.nodup_append.2 ⟨o.nodup, ih, fun a ha b hb hab => d a ha (hab ▸ hb)⟩
theorem OwnLs.len {us : List AV} {rs : List (List Int)} {hp : Heap} (h : OwnLs us rs hp) : us.length = rs.length := by
  induction h with
  | nil => rfl
  | cons o os d ih => simp [ih]
theorem OwnLs.append {us : List AV} {rs : List (List Int)} {hp : Heap} (h : OwnLs us rs hp) : ∀ {us' : List AV} {rs' : List (List Int)} {hp' : Heap}, OwnLs us' rs' hp' → (∀ i ∈ dom hp, i ∉ dom hp') → OwnLs (us ++ us') (rs ++ rs') (hp ++ hp') := by
  induction h with
  | nil => intro us' rs' hp' h' _; exact h'
  | cons o os d ih =>
    intro us' rs' hp' h' hd
    rw [List.append_assoc]
    rw [dom_append] at hd
    refine .cons o (ih h' fun i hi => hd i (List.mem_append_right _ hi)) fun i hi => ?_
    rw [dom_append]
    intro hm
    rcases List.mem_append.1 hm with hm | hm
    · exact d i hi hm
    · exact hd i (List.mem_append_left _ hi) hm
theorem OwnLs.one {u : AV} {r : List Int} {hp : Heap} (o : OwnL iv 1 u r hp) : OwnLs [u] [r] hp := by
  have := OwnLs.cons o .nil (by simp [dom])
  simpa using this
theorem OwnLs.own {us : List AV} {rs : List (List Int)} {hp : Heap} (h : OwnLs us rs hp) : us.all own = true ∧ (hp.all fun p => p.2.l.all Go.AG.own) = true := by
  induction h with
  | nil => exact ⟨rfl, rfl⟩
  | cons o os d ih => exact ⟨by simp only [List.all_cons, (o.own own_iv1).1, ih.1]; rfl, by rw [List.all_append, (o.own own_iv1).2, ih.2]; rfl⟩
theorem OwnLs.cell {us : List AV} {rs : List (List Int)} {hp : Heap} (h : OwnLs us rs hp) : ∀ u ∈ us, isCell u = true := by
  induction h with
  | nil => simp
  | cons o os d ih =>
    intro v hv
    rcases List.mem_cons.1 hv with rfl | hv
    · exact o.cell
    · exact ih v hv
/-- One of them, taken out. -/
theorem OwnLs.split {us : List AV} {rs : List (List Int)} {hp : Heap} (h : OwnLs us rs hp) : ∀ {i : Nat} (hi : i < rs.length), ∃ (hu : i < us.length) (h1 g h2 : Heap), hp = h1 ++ (g ++ h2) ∧ OwnLs (us.take i) (rs.take i) h1 ∧ OwnL iv 1 us[i] rs[i] g ∧ OwnLs (us.drop (i + 1)) (rs.drop (i + 1)) h2 := by
  induction h with
  | nil => intro i hi; simp at hi
  | @cons u r h1 us rs h2 o os d ih =>
    intro i hi
    cases i with
    | zero => exact ⟨by simp, [], h1, h2, rfl, .nil, o, os⟩
    | succ i =>
      obtain ⟨hu, a, g, b, e, o1, o2, o3⟩ := ih (i := i) (by simpa using hi)
      subst e
      refine ⟨by simpa using hu, h1 ++ a, g, b, by simp, ?_, o2, o3⟩
      exact .cons o o1 fun j hj hm => d j hj (by rw [dom_append]; exact List.mem_append_left _ hm)
theorem lend1_snap (L : Heap) (sz : Nat) (us : List AV) : lend1 L (.snap sz us) = .snap sz (us.map (lend1 L)) := by
  induction L generalizing us with
  | nil => simp [lend1]
  | cons p L ih =>
    have e : ∀ us : List AV, fzs p.1 p.2 us = us.map (fz p.1 p.2) := fun us => by
      induction us with
      | nil => rfl
      | cons x xs ih => simp only [fzs, ih, List.map_cons]
    simp only [lend1, fz, e, ih, List.map_map]
    rfl
theorem OwnLs.lentIn {us : List AV} {rs : List (List Int)} {hp : Heap} (h : OwnLs us rs hp) : ∀ {L : Heap}, (∀ p ∈ hp, p ∈ L) → (dom L).Nodup → All2 (IsL iv 1) (us.map (lend1 L)) rs := by
  induction h with
  | nil => intro L _ _; exact .nil
  | cons o os d ih => intro L hs nd; exact .cons (o.lentIn cold_iv1 (fun p hp => hs p (List.mem_append_left _ hp)) nd) (ih (fun p hp => hs p (List.mem_append_right _ hp)) nd)
/-- v is a slice of slices that reads as rs, all of it in blocks of its own. -/
inductive OwnLL : AV → List (List Int) → Heap → Prop
  | nil : OwnLL .nilsl [] []
  | emp : OwnLL .emp [] []
  | sl {us : List AV} {rs : List (List Int)} {hi : Heap} (id : Nat) (n : Nat) (cap : Option Nat) (ex : List AV) (hn : n = rs.length) (hex : ex.all own = true) (o : OwnLs us rs hi) (hid : id ∉ dom hi) : OwnLL (.sl id 1 0 n cap) rs ((id, ⟨1, us ++ ex⟩) :: hi)
theorem OwnLL.own {v : AV} {rs : List (List Int)} {hp : Heap} (h : OwnLL v rs hp) : Go.AG.own v = true ∧ (hp.all fun p => p.2.l.all Go.AG.own) = true := by
  cases h with
  | nil => exact ⟨rfl, rfl⟩
  | emp => exact ⟨rfl, rfl⟩
  | sl id n cap ex hn hex o hid =>
    refine ⟨rfl, ?_⟩
    simp only [List.all_cons, List.all_append, hex, o.own.1, o.own.2]; rfl
theorem OwnLL.cell {v : AV} {rs : List (List Int)} {hp : Heap} (h : OwnLL v rs hp) : isCell v = true := by cases h <;> rfl
theorem OwnLL.len {v : AV} {rs : List (List Int)} {hp : Heap} (h : OwnLL v rs hp) : lenR v = .val (.int .i64 rs.length) := by
  cases h with
  | nil => simp
  | emp => simp
  | sl id n cap ex hn hex o hid => subst hn; simp
theorem OwnLL.nodup {v : AV} {rs : List (List Int)} {hp : Heap} (h : OwnLL v rs hp) : (dom hp).Nodup := by
  cases h with
  | nil => exact List.nodup_nil
  | emp => exact List.nodup_nil
  | sl id n cap ex hn hex o hid => simp only [dom, List.map_cons, List.nodup_cons]; exact ⟨hid, o.nodup⟩
theorem lend1_out : ∀ (L : Heap) {id sz off len : Nat} {cap : Option Nat}, id ∉ dom L → lend1 L (.sl id sz off len cap) = .sl id sz off len cap
  | [], _, _, _, _, _, _ => rfl
  | (j, b) :: L, id, sz, off, len, cap, h => by
    simp only [dom, List.map_cons, List.mem_cons, not_or] at h
    simp only [lend1, fz, if_neg (show ¬ (id = j ∧ sz = b.sz ∧ off + len ≤ b.l.length) from fun e => h.1 e.1)]
    exact lend1_out L h.2
/-- Lent, where its blocks stand in order among others. -/
theorem OwnLL.lentMid {v : AV} {rs : List (List Int)} {hp : Heap} (h : OwnLL v rs hp) {A B : Heap} (nd : (dom (A ++ (hp ++ B))).Nodup) : IsLL (lend1 (A ++ (hp ++ B)) v) rs := by
  cases h with
  | nil => rw [lend1_cold _ (by rfl)]; exact .nil
  | emp => rw [lend1_cold _ (by rfl)]; exact .emp
  | @sl us rs hi id n cap ex hn hex o hid =>
    have hA : id ∉ dom A := fun hm => by
      rw [dom_append] at nd
      exact (List.nodup_append.1 nd).2.2 _ hm _ (by simp [dom]) rfl
    have nd2 : (dom (hi ++ B)).Nodup := by
      rw [dom_append] at nd
      have := (List.nodup_append.1 nd).2.1
      simp only [dom, List.cons_append, List.map_cons, List.nodup_cons] at this
      exact this.2
    have hul := o.len
    rw [lend1_append, lend1_out A hA]
    simp only [List.cons_append, lend1, fz]
    rw [if_pos (by simp; omega), List.drop_zero, List.take_left' (by omega), lend1_snap]
    exact .snap (o.lentIn (fun p hp => List.mem_append_left _ hp) nd2)
theorem OwnLL.lent {v : AV} {rs : List (List Int)} {hp : Heap} (h : OwnLL v rs hp) : IsLL (lend1 hp v) rs := by
  have := h.lentMid (A := []) (B := []) (by simpa using h.nodup)
  simpa using this
theorem nodup_perm {a b : Heap} (p : a.Perm b) : (dom a).Nodup → (dom b).Nodup := fun h => (p.map _).nodup_iff.1 h
/-- The blocks told of in another order. -/
theorem Run2.perm {C : Cx} {sk : List AItem} {e : Env} {h h' : Heap} {R : AV → Heap → Prop} (p : h.Perm h') (g : Run2 C sk e h' R) : Run2 C sk e h R :=
  Run2.sub (fun q hq => p.mem_iff.2 hq) (nodup_perm p) g
theorem ACalls.perm {P : Program} {g : FuncId} {args : List AV} {h h' : Heap} {R : AV → Heap → Prop} (p : h.Perm h') (H : ACalls P g args h' R) : ACalls P g args h R :=
  ⟨H.1, fun w vs hw hv => by
    obtain ⟨H', Ev⟩ := hw.sub (fun q hq => p.mem_iff.2 hq) (nodup_perm p hw.nd)
    refine (H.2 w vs H' (Reps.mono Ev.keeps _ _ hv)).mono fun _ _ ⟨cv, v, h', e1, e2, e3, e4, e5⟩ => ⟨cv, v, h', e1, e2, e3, Ev.trans e4, e5⟩⟩
theorem perm_mid (a : Heap) (x : Nat × Blk) (b c : Heap) : (a ++ x :: (b ++ c)).Perm (x :: ((b ++ a) ++ c)) := by
  refine List.perm_middle.trans (.cons _ ?_)
  rw [← List.append_assoc]
  exact List.perm_append_comm.append_right c
/-- Blocks that nobody writes any more. -/
theorem Post.lend {R : AV → Heap → Prop} {h : Heap} : ∀ {L : Heap} {v : AV}, Post R (lend1 L v) h → Post R v (L ++ h)
  | [], _, hk => hk
  | (id, b) :: L, v, hk => .freeze id (b := b) (by simp [hget]) (by simpa [hdel] using Post.lend (L := L) hk)
theorem lend1_tup2 (L : Heap) (a b : AV) : lend1 L (.tup [a, b]) = .tup [lend1 L a, lend1 L b] := by
  induction L generalizing a b with
  | nil => rfl
  | cons p L ih => simp only [lend1, fz, fzs]; exact ih _ _
theorem OwnLL.froze {v : AV} {rs : List (List Int)} {hp h : Heap} {R : AV → Heap → Prop} (o : OwnLL v rs hp) (c : Int) (hk : Post R (.tup [.snap 1 (rs.map il), .int .i64 c]) h) : Post R (.tup [v, .int .i64 c]) (hp ++ h) := by
  refine Post.lend ?_
  rw [lend1_tup2, lend1_cold hp (x := .int .i64 c) rfl]
  exact .wk (Wk.tup (.cons o.lent.wk (.refl _))) hk
end Go.AG
