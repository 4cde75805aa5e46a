/- Our own small layer: slices of whole numbers, and what is lent or owned. No statement about the program is made here. -/
import Derived.Test.YtebkdegjiollbaaAGLend
import Derived.Test.YtebkdegjiollbaaAGZ
import Derived.Test.YtebkdegjiollbaaAGLaw
namespace Go.AG
open Go.RowKit
set_option linter.unusedVariables false
set_option linter.unusedSimpArgs false
def iv (n : Int) : AV := .int .i64 n
@[simp] theorem iv_eq (n : Int) : iv n = .int .i64 n := rfl
@[simp] theorem iv_inj (l m : List Int) : (l.map iv = m.map iv) ↔ l = m := ⟨fun h => List.map_inj_right (fun _ _ h => by simpa using h) |>.1 h, fun h => by rw [h]⟩
/-- The whole numbers that a slice holds which nobody writes. -/
def intsOf : AV → List Int
  | .snap _ l => l.map fun | .int _ n => n | _ => 0
  | _ => []
@[simp] theorem intsOf_snap (s : Nat) (l : List Int) : intsOf (.snap s (l.map iv)) = l := by
  simp only [intsOf, List.map_map]
  exact List.map_id'' (fun n => rfl) l
@[simp] theorem intsOf_nil : intsOf .nilsl = [] := rfl
@[simp] theorem intsOf_emp : intsOf .emp = [] := rfl
@[simp] theorem intsOf_s0 (s : Nat) : intsOf (.snap s []) = [] := rfl
@[simp] theorem intsOf_s1 (s : Nat) (a : Int) : intsOf (.snap s [.int .i64 a]) = [a] := rfl
@[simp] theorem intsOf_s2 (s : Nat) (a b : Int) : intsOf (.snap s [.int .i64 a, .int .i64 b]) = [a, b] := rfl
@[simp] theorem intsOf_s3 (s : Nat) (a b c : Int) : intsOf (.snap s [.int .i64 a, .int .i64 b, .int .i64 c]) = [a, b, c] := rfl
def isInts (v : AV) : Prop := v = .nilsl ∨ v = .emp ∨ ∃ l : List Int, v = .snap 1 (l.map iv)
@[simp] theorem isInts_snap (l : List Int) : isInts (.snap 1 (l.map iv)) := .inr (.inr ⟨l, rfl⟩)
@[simp] theorem isInts_nil : isInts .nilsl := .inl rfl
@[simp] theorem isInts_emp : isInts .emp := .inr (.inl rfl)
@[simp] theorem isInts_s0 : isInts (.snap 1 []) := .inr (.inr ⟨[], rfl⟩)
@[simp] theorem isInts_s1 (a : Int) : isInts (.snap 1 [.int .i64 a]) := .inr (.inr ⟨[a], rfl⟩)
@[simp] theorem isInts_s2 (a b : Int) : isInts (.snap 1 [.int .i64 a, .int .i64 b]) := .inr (.inr ⟨[a, b], rfl⟩)
@[simp] theorem isInts_s3 (a b c : Int) : isInts (.snap 1 [.int .i64 a, .int .i64 b, .int .i64 c]) := .inr (.inr ⟨[a, b, c], rfl⟩)

theorem Wk.ints {v : AV} (h : isInts v) : Wk v (.snap 1 ((intsOf v).map iv)) := by
  rcases h with rfl | rfl | ⟨l, rfl⟩
  · exact Wk.nil 1
  · exact Wk.emp 1
  · rw [intsOf_snap]; exact Wk.refl _
/-! ## What nobody writes -/
mutual
def cold : AV → Bool
  | .sl .. => false
  | .ptr .. => false
  | .snap _ l => colds l
  | .ip l => colds l
  | .agg l => colds l
  | .tup l => colds l
  | .fn _ l => colds l
  | _ => true
def colds : List AV → Bool
  | [] => true
  | x :: xs => cold x && colds xs
end
mutual
theorem fz_cold (id : Nat) (b : Blk) : ∀ (x : AV), cold x = true → fz id b x = x
  | .snap s l, h => by simp only [cold] at h; simp only [fz]; rw [fzs_cold id b l h]
  | .ip l, h => by simp only [cold] at h; simp only [fz]; rw [fzs_cold id b l h]
  | .agg l, h => by simp only [cold] at h; simp only [fz]; rw [fzs_cold id b l h]
  | .tup l, h => by simp only [cold] at h; simp only [fz]; rw [fzs_cold id b l h]
  | .fn f l, h => by simp only [cold] at h; simp only [fz]; rw [fzs_cold id b l h]
  | .sl .., h => by simp [cold] at h
  | .ptr .., h => by simp [cold] at h
  | .int .., _ => rfl
  | .bool _, _ => rfl
  | .str _, _ => rfl
  | .nilsl, _ => rfl
  | .emp, _ => rfl
  | .nilp, _ => rfl
  | .nilfn, _ => rfl
  | .nili, _ => rfl
  | .ifc, _ => rfl
  | .undef, _ => rfl
theorem fzs_cold (id : Nat) (b : Blk) : ∀ (l : List AV), colds l = true → fzs id b l = l
  | [], _ => rfl
  | x :: xs, h => by
    simp only [colds, Bool.and_eq_true] at h
    simp only [fzs]
    rw [fz_cold id b x h.1, fzs_cold id b xs h.2]
end
@[simp] theorem cold_iv (l : List Int) : colds (l.map iv) = true := by
  induction l with
  | nil => rfl
  | cons a l ih => simp only [List.map_cons, colds, ih, Bool.and_true]; rfl
@[simp] theorem own_iv (l : List Int) : (l.map iv).all own = true := by
  induction l with
  | nil => rfl
  | cons a l ih => simp only [List.map_cons, List.all_cons, ih, Bool.and_true]; rfl
@[simp] theorem fzs_iv (id : Nat) (b : Blk) (l : List Int) : fzs id b (l.map iv) = l.map iv := fzs_cold id b _ (cold_iv l)
theorem isInts.cold {v : AV} (h : isInts v) : cold v = true := by
  rcases h with rfl | rfl | ⟨l, rfl⟩
  · rfl
  · rfl
  · simp [Go.AG.cold]
theorem isInts.rfl' {v : AV} (h : isInts v) : v = .nilsl ∧ intsOf v = [] ∨ v = .emp ∧ intsOf v = [] ∨ v = .snap 1 ((intsOf v).map iv) := by
  rcases h with rfl | rfl | ⟨l, rfl⟩
  · exact .inl ⟨rfl, rfl⟩
  · exact .inr (.inl ⟨rfl, rfl⟩)
  · exact .inr (.inr (by rw [intsOf_snap]))

/-- A slice that is only appended to. -/
inductive Grow (sz : Nat) : AV → List AV → Heap → Prop
  | nil : Grow sz .nilsl [] []
  | emp : Grow sz .emp [] []
  | sl (id : Nat) (l : List AV) (n : Nat) (hn : n = l.length) : Grow sz (.sl id sz 0 n none) l [(id, ⟨sz, l⟩)]
theorem Grow.app {sz : Nat} {w : AV} {l new : List AV} {hp h : Heap} {C : Cx} {n : Nat} {d : Option Nat} {ks : Option (List Nat)} {is : List AJ} {sk : List AItem} {R : AV → Heap → Prop} {e : Env} {h0 : Heap} {bytes : Nat} (g : Grow sz w l hp) (hb : (2 * (l.length + new.length)) * bytes ≤ 281474976710656) (hn : new ≠ [])
    (k : ∀ w' hp', Grow sz w' (l ++ new) hp' → vc2 C n is sk (kp (put e d w') ks) (hp' ++ h) R) : resK C n d ks is sk R e h0 (appR (hp ++ h) sz bytes w new) := by
  have he : new.isEmpty = false := by cases new <;> simp_all
  cases g with
  | nil =>
    simp only [appR_n, he, List.nil_append]
    refine ⟨fun h => (by cases h), fun _ => ⟨by simpa using hb, fun id _ => ?_⟩⟩
    exact k _ _ (.sl id new new.length rfl)
  | emp =>
    simp only [appR_e, he, List.nil_append]
    refine ⟨fun h => (by cases h), fun _ => ⟨by simpa using hb, fun id _ => ?_⟩⟩
    exact k _ _ (.sl id new new.length rfl)
  | sl id l m hm =>
    subst hm
    have hd : hdel ((id, ⟨sz, l⟩) :: h) id = h := by simp [hdel]
    rw [appR_ln]
    refine ⟨rfl, ⟨sz, l⟩, by simp [hget], rfl, by simp, rfl, hb, fun id' _ => ?_⟩
    have := k _ _ (.sl id' (l ++ new) (l.length + new.length) (by simp))
    simpa [hd] using this
theorem hget_app {a b : Heap} {i : Nat} (hi : i ∉ dom a) : hget (a ++ b) i = hget b i := by
  induction a with
  | nil => rfl
  | cons p a ih =>
    obtain ⟨j, c⟩ := p
    simp only [dom, List.map_cons, List.mem_cons, not_or] at hi
    simp only [List.cons_append, hget, if_neg (show ¬ j = i from fun h => hi.1 h.symm)]
    exact ih hi.2
theorem hset_app {a b : Heap} {i : Nat} {c : Blk} (hi : i ∉ dom a) : hset (a ++ b) i c = a ++ hset b i c := by
  induction a with
  | nil => rfl
  | cons p a ih =>
    obtain ⟨j, d⟩ := p
    simp only [dom, List.map_cons, List.mem_cons, not_or] at hi
    simp only [List.cons_append, hset, if_neg (show ¬ j = i from fun h => hi.1 h.symm)]
    rw [ih hi.2]
theorem hdel_app {a b : Heap} {i : Nat} (hi : i ∉ dom a) : hdel (a ++ b) i = a ++ hdel b i := by
  induction a with
  | nil => rfl
  | cons p a ih =>
    obtain ⟨j, d⟩ := p
    simp only [dom, List.map_cons, List.mem_cons, not_or] at hi
    simp only [List.cons_append, hdel, if_neg (show ¬ j = i from fun h => hi.1 h.symm)]
    rw [ih hi.2]
/-- The same, where other blocks stand before its own. -/
theorem Grow.app_mid {sz : Nat} {w : AV} {l new : List AV} {hp pre post : Heap} {C : Cx} {n : Nat} {d : Option Nat} {ks : Option (List Nat)} {is : List AJ} {sk : List AItem} {R : AV → Heap → Prop} {e : Env} {h0 : Heap} {bytes : Nat} (g : Grow sz w l hp) (hd : ∀ i ∈ dom hp, i ∉ dom pre) (hb : (2 * (l.length + new.length)) * bytes ≤ 281474976710656) (hn : new ≠ [])
    (k : ∀ w' hp', Grow sz w' (l ++ new) hp' → (∀ i ∈ dom hp', i ∉ dom (pre ++ post)) → vc2 C n is sk (kp (put e d w') ks) (hp' ++ (pre ++ post)) R) : resK C n d ks is sk R e h0 (appR (pre ++ (hp ++ post)) sz bytes w new) := by
  have he : new.isEmpty = false := by cases new <;> simp_all
  cases g with
  | nil =>
    simp only [appR_n, he, List.nil_append]
    refine ⟨fun h => (by cases h), fun _ => ⟨by simpa using hb, fun id hid => ?_⟩⟩
    exact k _ _ (.sl id new new.length rfl) (by simpa [dom] using hid)
  | emp =>
    simp only [appR_e, he, List.nil_append]
    refine ⟨fun h => (by cases h), fun _ => ⟨by simpa using hb, fun id hid => ?_⟩⟩
    exact k _ _ (.sl id new new.length rfl) (by simpa [dom] using hid)
  | sl id l m hm =>
    subst hm
    have hi : id ∉ dom pre := hd id (by simp [dom])
    have hd : hdel (pre ++ ([(id, ⟨sz, l⟩)] ++ post)) id = pre ++ post := by rw [hdel_app hi]; simp [hdel]
    have hg : hget (pre ++ ([(id, ⟨sz, l⟩)] ++ post)) id = some ⟨sz, l⟩ := by rw [hget_app hi]; simp [hget]
    rw [appR_ln, hg, hd]
    refine ⟨rfl, ⟨sz, l⟩, rfl, rfl, by simp, rfl, hb, fun id' hid' => ?_⟩
    have := k _ _ (.sl id' (l ++ new) (l.length + new.length) (by simp)) (by simpa [dom] using hid')
    simpa using this
theorem Grow.froze {sz : Nat} {w : AV} {l : List AV} {hp h : Heap} {R : AV → Heap → Prop} (g : Grow sz w l hp) (f : AV → AV) (hf : ∀ id b x, fz id b (f x) = f (fz id b x)) (hw : ∀ x y, Wk x y → Wk (f x) (f y)) (hk : Post R (f (.snap sz l)) h) : Post R (f w) (hp ++ h) := by
  cases g with
  | nil => exact .wk (hw _ _ (Wk.nil sz)) hk
  | emp => exact .wk (hw _ _ (Wk.emp sz)) hk
  | sl id l n hn =>
    subst hn
    refine .freeze id (b := ⟨sz, l⟩) (by simp [hget]) ?_
    rw [hf]
    simpa [fz, hdel] using hk
/-- Lent: read-only for the time of a call. -/
def lend1 : List (Nat × Blk) → AV → AV
  | [], x => x
  | (id, b) :: L, x => lend1 L (fz id b x)
@[simp] theorem lend_nil' (L : List (Nat × Blk)) : lend L [] = [] := by
  induction L with
  | nil => rfl
  | cons p L ih => exact ih
@[simp] theorem lend_cons (L : List (Nat × Blk)) (x : AV) (xs : List AV) : lend L (x :: xs) = lend1 L x :: lend L xs := by
  induction L generalizing x xs with
  | nil => rfl
  | cons p L ih => exact ih _ _
theorem lend1_cold (L : List (Nat × Blk)) {x : AV} (h : cold x = true) : lend1 L x = x := by
  induction L with
  | nil => rfl
  | cons p L ih => simp only [lend1, fz_cold _ _ _ h, ih]
theorem lend1_append (L M : List (Nat × Blk)) (x : AV) : lend1 (L ++ M) x = lend1 M (lend1 L x) := by
  induction L generalizing x with
  | nil => rfl
  | cons p L ih => exact ih _
/-! ## What a value owns -/
theorem stor_of {v : AV} (h : isCell v = true) : storable v = true := by cases v <;> simp_all [isCell]
theorem cells_of {v : AV} (h : isCell v = true) : cellsOf v = [v] := by cases v <;> simp_all [isCell, cellsOf]
section
variable {α : Type} {enc : α → AV} {sz : Nat}
/-- v is a slice that nobody writes and reads as l. -/
inductive IsL (enc : α → AV) (sz : Nat) : AV → List α → Prop
  | nil : IsL enc sz .nilsl []
  | emp : IsL enc sz .emp []
  | snap (l : List α) : IsL enc sz (.snap sz (l.map enc)) l
theorem IsL.wk {v : AV} {l : List α} (h : IsL enc sz v l) : Wk v (.snap sz (l.map enc)) := by
  cases h with
  | nil => exact Wk.nil sz
  | emp => exact Wk.emp sz
  | snap => exact Wk.refl _
theorem IsL.cold {v : AV} {l : List α} (h : IsL enc sz v l) (hc : ∀ a, cold (enc a) = true) : Go.AG.cold v = true := by
  cases h with
  | nil => rfl
  | emp => rfl
  | snap =>
    simp only [Go.AG.cold]
    induction l with
    | nil => rfl
    | cons a l ih => simp [colds, hc, ih]
/-- v is a slice that reads as l, in a block of its own. -/
inductive OwnL (enc : α → AV) (sz : Nat) : AV → List α → Heap → Prop
  | nil : OwnL enc sz .nilsl [] []
  | emp : OwnL enc sz .emp [] []
  | sl {l : List α} (id : Nat) (cap : Option Nat) (ex : List AV) (hex : ex.all own = true) : OwnL enc sz (.sl id sz 0 l.length cap) l [(id, ⟨sz, l.map enc ++ ex⟩)]
theorem OwnL.own {v : AV} {l : List α} {hp : Heap} (h : OwnL enc sz v l hp) (ho : ∀ a, own (enc a) = true) : Go.AG.own v = true ∧ (hp.all fun p => p.2.l.all Go.AG.own) = true := by
  cases h with
  | nil => exact ⟨rfl, rfl⟩
  | emp => exact ⟨rfl, rfl⟩
  | sl id cap ex hex =>
    refine ⟨rfl, ?_⟩
    simp only [List.all_cons, List.all_nil, Bool.and_true, List.all_append, hex]
    simp [ho]
theorem OwnL.cell {v : AV} {l : List α} {hp : Heap} (h : OwnL enc sz v l hp) : isCell v = true := by
  cases h <;> rfl
theorem OwnL.nodup {v : AV} {l : List α} {hp : Heap} (h : OwnL enc sz v l hp) : (dom hp).Nodup := by
  cases h <;> simp [dom]
theorem OwnL.lent {v : AV} {l : List α} {hp : Heap} (h : OwnL enc sz v l hp) : IsL enc sz (lend1 hp v) l := by
  cases h with
  | nil => exact .nil
  | emp => exact .emp
  | sl id cap ex hex =>
    have : lend1 [(id, ⟨sz, l.map enc ++ ex⟩)] (.sl id sz 0 l.length cap) = .snap sz (l.map enc) := by
      have e : l.length = (l.map enc).length := by simp
      simp only [lend1, fz, List.drop_zero]
      rw [e, List.take_left']
      · simp
      · rfl
    rw [this]
    exact .snap l
theorem OwnL.lentIn {v : AV} {l : List α} {hp : Heap} (h : OwnL enc sz v l hp) (hc : ∀ a, Go.AG.cold (enc a) = true) : ∀ {L : Heap}, (∀ p ∈ hp, p ∈ L) → (dom L).Nodup → IsL enc sz (lend1 L v) l
  | L, hs, nd => by
    cases h with
    | nil => rw [lend1_cold _ (by rfl)]; exact .nil
    | emp => rw [lend1_cold _ (by rfl)]; exact .emp
    | sl id cap ex hex =>
      have key : ∀ (L : Heap), (id, (⟨sz, l.map enc ++ ex⟩ : Blk)) ∈ L → (dom L).Nodup → IsL enc sz (lend1 L (.sl id sz 0 l.length cap)) l := by
        intro L
        induction L with
        | nil => intro h; simp at h
        | cons p L ih =>
          intro hm hn
          obtain ⟨j, b⟩ := p
          simp only [dom, List.map_cons, List.nodup_cons] at hn
          by_cases hj : j = id
          · subst hj
            rcases List.mem_cons.1 hm with e | hm
            · simp only [Prod.mk.injEq] at e
              obtain ⟨_, rfl⟩ := e
              have := (OwnL.sl (enc := enc) (sz := sz) (l := l) j cap ex hex).lent
              simp only [lend1] at this ⊢
              rw [lend1_cold L (this.cold hc)]
              exact this
            · exact absurd (List.mem_map.2 ⟨_, hm, rfl⟩) hn.1
          · rcases List.mem_cons.1 hm with e | hm
            · simp only [Prod.mk.injEq] at e; exact absurd e.1.symm hj
            · simp only [lend1, fz, if_neg (show ¬ (id = j ∧ sz = b.sz ∧ 0 + l.length ≤ b.l.length) from fun h => hj h.1.symm)]
              exact ih hm hn.2
      exact key L (hs _ (by simp)) nd
theorem Grow.own {w : AV} {l : List α} {hp : Heap} (h : Grow sz w (l.map enc) hp) : OwnL enc sz w l hp := by
  generalize hm : l.map enc = m at h
  cases h with
  | nil => rw [List.map_eq_nil_iff] at hm; subst hm; exact .nil
  | emp => rw [List.map_eq_nil_iff] at hm; subst hm; exact .emp
  | sl id m n hn =>
    subst hn; subst hm
    have := OwnL.sl (enc := enc) (sz := sz) (l := l) id none [] rfl
    simpa using this
theorem IsL.len {v : AV} {l : List α} (h : IsL enc sz v l) : lenR v = .val (.int .i64 l.length) := by
  cases h <;> simp
theorem Grow.cell {w : AV} {l : List AV} {hp : Heap} (h : Grow sz w l hp) : isCell w = true := by
  cases h <;> rfl
theorem Grow.len {w : AV} {l : List AV} {hp : Heap} (h : Grow sz w l hp) : lenR w = .val (.int .i64 l.length) := by
  cases h with
  | nil => simp
  | emp => simp
  | sl id l n hn => subst hn; simp
theorem Grow.dropped {w : AV} {l : List AV} {hp h : Heap} {R : AV → Heap → Prop} {v : AV} (g : Grow sz w l hp) (hk : Post R v h) : Post R v (hp ++ h) := by
  cases g with
  | nil => exact hk
  | emp => exact hk
  | sl id l n hn => exact .drop id (by simpa [hdel] using hk)
end
theorem IsL.ints {v : AV} {l : List Int} (h : IsL iv 1 v l) : isInts v ∧ intsOf v = l := by
  cases h with
  | nil => exact ⟨isInts_nil, rfl⟩
  | emp => exact ⟨isInts_emp, rfl⟩
  | snap => exact ⟨isInts_snap l, intsOf_snap 1 l⟩
@[simp] theorem cold_iv1 (n : Int) : cold (iv n) = true := rfl
@[simp] theorem own_iv1 (n : Int) : own (iv n) = true := rfl
theorem keepL {a b : Heap} (nd : (dom (a ++ b)).Nodup) : ∀ p ∈ a, p ∈ a ++ b ∧ p.1 ∉ dom b := fun p hp => by
  refine ⟨List.mem_append_left _ hp, fun hm => ?_⟩
  rw [dom_append] at nd
  exact (List.nodup_append.1 nd).2.2 _ (List.mem_map.2 ⟨p, hp, rfl⟩) _ hm rfl
theorem nodupL {a b : Heap} (nd : (dom (a ++ b)).Nodup) : (dom a).Nodup := by
  rw [dom_append] at nd
  exact (List.nodup_append.1 nd).1
theorem keepN {a : Heap} : ∀ p ∈ ([] : Heap), p ∈ a ∧ p.1 ∉ dom a := fun p hp => by simp at hp
theorem Post.none {v : AV} {R : AV → Heap → Prop} : ∀ {h : Heap}, R v [] → Post R v h
  | [], hr => .base hr
  | (id, b) :: h, hr => .drop id (by simp only [hdel, if_true]; exact Post.none hr)
end Go.AG
