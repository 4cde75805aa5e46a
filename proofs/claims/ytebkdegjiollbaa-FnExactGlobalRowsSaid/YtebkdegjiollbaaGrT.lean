/- Slices that are appended to and shortened. No statement is made here. -/
import Derived.Test.YtebkdegjiollbaaAGLists2
namespace Go.AG
set_option linter.unusedSimpArgs false
set_option linter.unusedVariables false
set_option maxRecDepth 4000
/-- A slice that is only appended to and shortened: what stands behind it is not told. -/
inductive GrT (sz : Nat) : AV → List AV → Heap → Prop
  | nil : GrT sz .nilsl [] []
  | emp : GrT sz .emp [] []
  | sl (id : Nat) (l ex : List AV) (n : Nat) (hn : n = l.length) : GrT sz (.sl id sz 0 n none) l [(id, ⟨sz, l ++ ex⟩)]
theorem Grow.t {sz : Nat} {w : AV} {l : List AV} {hp : Heap} (h : Grow sz w l hp) : GrT sz w l hp := by
  cases h with
  | nil => exact .nil
  | emp => exact .emp
  | sl id l n hn => have := GrT.sl (sz := sz) id l [] n hn; simpa using this
theorem GrT.cell {sz : Nat} {w : AV} {l : List AV} {hp : Heap} (h : GrT sz w l hp) : isCell w = true := by cases h <;> rfl
theorem GrT.len {sz : Nat} {w : AV} {l : List AV} {hp : Heap} (h : GrT sz w l hp) : lenR w = .val (.int .i64 l.length) := by
  cases h with
  | nil => simp
  | emp => simp
  | sl id l ex n hn => subst hn; simp
theorem GrT.app {sz : Nat} {w : AV} {l new : List AV} {hp post : Heap} {C : Cx} {n : Nat} {d : Option Nat} {ks : Option (List Nat)} {is : List AJ} {sk : List AItem} {R : AV → Heap → Prop} {e : Env} {h0 : Heap} {bytes : Nat} (g : GrT sz w l hp) (hb : (2 * (l.length + new.length)) * bytes ≤ 281474976710656) (hn : new ≠ [])
    (k : ∀ w' hp', Grow sz w' (l ++ new) hp' → (∀ i ∈ dom hp', i ∉ dom post) → vc2 C n is sk (kp (put e d w') ks) (hp' ++ post) R) : resK C n d ks is sk R e h0 (appR (hp ++ post) sz bytes w new) := by
  have he : new.isEmpty = false := by cases new <;> simp_all
  cases g with
  | nil =>
    simp only [appR_n, he, List.nil_append]
    refine ⟨fun h => (by cases h), fun _ => ⟨by simpa using hb, fun id hid => ?_⟩⟩
    have := k _ _ (.sl id new new.length rfl) (by simpa [dom] using hid)
    simpa using this
  | emp =>
    simp only [appR_e, he, List.nil_append]
    refine ⟨fun h => (by cases h), fun _ => ⟨by simpa using hb, fun id hid => ?_⟩⟩
    have := k _ _ (.sl id new new.length rfl) (by simpa [dom] using hid)
    simpa using this
  | sl id l ex m hm =>
    subst hm
    have hd : hdel ((id, ⟨sz, l ++ ex⟩) :: post) id = post := by simp [hdel]
    rw [appR_ln]
    refine ⟨rfl, ⟨sz, l ++ ex⟩, by simp [hget], rfl, by simp, rfl, hb, fun id' hid => ?_⟩
    rw [List.cons_append, List.nil_append, hd] at hid
    have := k _ _ (.sl id' (l ++ new) (l.length + new.length) (by simp)) (by simpa [dom] using hid)
    simpa [hd] using this
theorem GrT.lent {w : AV} {l : List Int} {hp : Heap} (h : GrT 1 w (l.map iv) hp) : IsL iv 1 (lend1 hp w) l := by
  generalize hm : l.map iv = m at h
  cases h with
  | nil => rw [List.map_eq_nil_iff] at hm; subst hm; exact .nil
  | emp => rw [List.map_eq_nil_iff] at hm; subst hm; exact .emp
  | sl id m ex n hn =>
    subst hn; subst hm
    have : lend1 [(id, (⟨1, l.map iv ++ ex⟩ : Blk))] (.sl id 1 0 (l.map iv).length none) = .snap 1 (l.map iv) := by
      simp [lend1, fz]
    rw [this]
    exact .snap l
theorem GrT.app_mid {sz : Nat} {w : AV} {l new : List AV} {hp pre post : Heap} {C : Cx} {n : Nat} {d : Option Nat} {ks : Option (List Nat)} {is : List AJ} {sk : List AItem} {R : AV → Heap → Prop} {e : Env} {h0 : Heap} {bytes : Nat} (g : GrT sz w l hp) (hd : ∀ i ∈ dom hp, i ∉ dom pre) (hb : (2 * (l.length + new.length)) * bytes ≤ 281474976710656) (hn : new ≠ [])
    (k : ∀ w' hp', Grow sz w' (l ++ new) hp' → (∀ i ∈ dom hp', i ∉ dom (pre ++ post)) → vc2 C n is sk (kp (put e d w') ks) (hp' ++ (pre ++ post)) R) : resK C n d ks is sk R e h0 (appR (pre ++ (hp ++ post)) sz bytes w new) := by
  have he : new.isEmpty = false := by cases new <;> simp_all
  cases g with
  | nil =>
    simp only [appR_n, he, List.nil_append]
    refine ⟨fun h => (by cases h), fun _ => ⟨by simpa using hb, fun id hid => ?_⟩⟩
    have := k _ _ (.sl id new new.length rfl) (by simpa [dom] using hid)
    simpa using this
  | emp =>
    simp only [appR_e, he, List.nil_append]
    refine ⟨fun h => (by cases h), fun _ => ⟨by simpa using hb, fun id hid => ?_⟩⟩
    have := k _ _ (.sl id new new.length rfl) (by simpa [dom] using hid)
    simpa using this
  | sl id l ex m hm =>
    subst hm
    have hip : id ∉ dom pre := hd id (by simp [dom])
    have hg : hget (pre ++ ((id, (⟨sz, l ++ ex⟩ : Blk)) :: post)) id = some ⟨sz, l ++ ex⟩ := by rw [hget_app hip]; simp [hget]
    have hdl : hdel (pre ++ ((id, (⟨sz, l ++ ex⟩ : Blk)) :: post)) id = pre ++ post := by rw [hdel_app hip]; simp [hdel]
    rw [appR_ln]
    refine ⟨rfl, ⟨sz, l ++ ex⟩, by simpa using hg, rfl, by simp, rfl, hb, fun id' hid => ?_⟩
    rw [List.cons_append, List.nil_append, hdl] at hid
    have := k _ _ (.sl id' (l ++ new) (l.length + new.length) (by simp)) (by simpa [dom] using hid)
    simpa [hdl] using this
/-- Slices that are appended to and shortened, each in a block of its own. -/
inductive GtLs : List AV → List (List Int) → Heap → Prop
  | nil : GtLs [] [] []
  | cons {u : AV} {r : List Int} {h1 : Heap} {us : List AV} {rs : List (List Int)} {h2 : Heap} (g : GrT 1 u (r.map iv) h1) (os : GtLs us rs h2) (d : ∀ i ∈ dom h1, i ∉ dom h2) : GtLs (u :: us) (r :: rs) (h1 ++ h2)
theorem GrT.nodup {sz : Nat} {w : AV} {l : List AV} {hp : Heap} (h : GrT sz w l hp) : (dom hp).Nodup := by cases h <;> simp [dom]
theorem GtLs.nodup {us : List AV} {rs : List (List Int)} {hp : Heap} (h : GtLs us rs hp) : (dom hp).Nodup := by
  induction h with
  | nil => exact List.nodup_nil
  | cons g os d ih =>
    rw [dom_append]
    exact List.nodup_append.2 ⟨g.nodup, ih, fun a ha b hb hab => d a ha (hab ▸ hb)⟩
theorem GtLs.len {us : List AV} {rs : List (List Int)} {hp : Heap} (h : GtLs us rs hp) : us.length = rs.length := by
  induction h with
  | nil => rfl
  | cons g os d ih => simp [ih]
theorem GtLs.append {us : List AV} {rs : List (List Int)} {hp : Heap} (h : GtLs us rs hp) : ∀ {us' : List AV} {rs' : List (List Int)} {hp' : Heap}, GtLs us' rs' hp' → (∀ i ∈ dom hp, i ∉ dom hp') → GtLs (us ++ us') (rs ++ rs') (hp ++ hp') := by
  induction h with
  | nil => intro us' rs' hp' h' _; exact h'
  | cons o os d ih =>
    intro us' rs' hp' h' hd
    rw [List.append_assoc]
    rw [dom_append] at hd
    refine .cons o (ih h' fun i hi => hd i (List.mem_append_right _ hi)) fun i hi => ?_
    rw [dom_append]
    intro hm
    rcases List.mem_append.1 hm with hm | hm
    · exact d i hi hm
    · exact hd i (List.mem_append_left _ hi) hm
theorem GtLs.split {us : List AV} {rs : List (List Int)} {hp : Heap} (h : GtLs us rs hp) : ∀ {i : Nat} (hi : i < rs.length), ∃ (hu : i < us.length) (h1 g h2 : Heap), hp = h1 ++ (g ++ h2) ∧ GtLs (us.take i) (rs.take i) h1 ∧ GrT 1 us[i] (rs[i].map iv) g ∧ GtLs (us.drop (i + 1)) (rs.drop (i + 1)) h2 := by
  induction h with
  | nil => intro i hi; simp at hi
  | @cons u r h1 us rs h2 o os d ih =>
    intro i hi
    cases i with
    | zero => exact ⟨by simp, [], h1, h2, rfl, .nil, o, os⟩
    | succ i =>
      obtain ⟨hu, a, g, b, e, o1, o2, o3⟩ := ih (i := i) (by simpa using hi)
      subst e
      refine ⟨by simpa using hu, h1 ++ a, g, b, by simp, ?_, o2, o3⟩
      exact .cons o o1 fun j hj hm => d j hj (by rw [dom_append]; exact List.mem_append_left _ hm)
theorem GtLs.put {us : List AV} {rs : List (List Int)} {i : Nat} (hu : i < us.length) (hi : i < rs.length) {h1 g' h2 : Heap} {u' : AV} {r' : List Int} (o1 : GtLs (us.take i) (rs.take i) h1) (o2 : GrT 1 u' (r'.map iv) g') (o3 : GtLs (us.drop (i + 1)) (rs.drop (i + 1)) h2) (d1 : ∀ j ∈ dom h1, j ∉ dom h2) (d2 : ∀ j ∈ dom g', j ∉ dom (h1 ++ h2)) : GtLs (us.set i u') (rs.set i r') (h1 ++ (g' ++ h2)) := by
  rw [List.set_eq_take_append_cons_drop, if_pos hu, List.set_eq_take_append_cons_drop, if_pos hi]
  refine o1.append (.cons o2 o3 fun j hj hm => d2 j hj (by rw [dom_append]; exact List.mem_append_right _ hm)) fun j hj hm => ?_
  rw [dom_append] at hm
  rcases List.mem_append.1 hm with hm | hm
  · exact d2 j hm (by rw [dom_append]; exact List.mem_append_left _ hj)
  · exact d1 j hj hm
end Go.AG
