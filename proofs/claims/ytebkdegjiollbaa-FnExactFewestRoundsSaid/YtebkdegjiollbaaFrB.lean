/- The search for the fewest rounds, in the program. No statement is made here. -/
import Derived.Test.YtebkdegjiollbaaFrA
namespace Go.AG
open Go.Proofs Go.Proofs.Ytebkdegjiollbaa
set_option linter.unusedSimpArgs false
set_option linter.unusedVariables false
set_option maxRecDepth 4000
theorem OwnL.len {α : Type} {enc : α → AV} {sz : Nat} {v : AV} {l : List α} {hp : Heap} (h : OwnL enc sz v l hp) : lenR v = .val (.int .i64 l.length) := by
  cases h with
  | nil => simp
  | emp => simp
  | sl id cap ex hex => simp
theorem OwnLs.put {us : List AV} {rs : List (List Int)} {i : Nat} (hu : i < us.length) (hi : i < rs.length) {h1 g' h2 : Heap} {u' : AV} {r' : List Int} (o1 : OwnLs (us.take i) (rs.take i) h1) (o2 : OwnL iv 1 u' r' g') (o3 : OwnLs (us.drop (i + 1)) (rs.drop (i + 1)) h2) (d1 : ∀ j ∈ dom h1, j ∉ dom h2) (d2 : ∀ j ∈ dom g', j ∉ dom (h1 ++ h2)) : OwnLs (us.set i u') (rs.set i r') (h1 ++ (g' ++ h2)) := by
  rw [List.set_eq_take_append_cons_drop, if_pos hu, List.set_eq_take_append_cons_drop, if_pos hi]
  refine o1.append (.cons o2 o3 fun j hj hm => d2 j hj (by rw [dom_append]; exact List.mem_append_right _ hm)) fun j hj hm => ?_
  rw [dom_append] at hm
  rcases List.mem_append.1 hm with hm | hm
  · exact d2 j hm (by rw [dom_append]; exact List.mem_append_left _ hj)
  · exact d1 j hj hm
/-- Slices in blocks of their own, which are among those of a heap. -/
def OwnRs (us : List AV) (rs : List (List Int)) (X : Heap) : Prop := ∃ hi, OwnLs us rs hi ∧ ∀ p ∈ hi, p ∈ X
theorem OwnRs.set {us : List AV} {rs : List (List Int)} {X : Heap} (o : OwnRs us rs X) {i : Nat} (hi : i < rs.length) {u' : AV} {r' : List Int} {g' : Heap} (o2 : OwnL iv 1 u' r' g') (d : ∀ j ∈ dom g', j ∉ dom X) : OwnRs (us.set i u') (rs.set i r') (g' ++ X) := by
  obtain ⟨hp, o, hX⟩ := o
  have nd := o.nodup
  obtain ⟨hu, h1, g, h2, rfl, o1, o2', o3⟩ := o.split hi
  simp only [dom_append, List.nodup_append] at nd
  have hsub : ∀ j, j ∈ dom (h1 ++ h2) → j ∈ dom X := fun j hj => by
    rw [dom_append, List.mem_append] at hj
    rcases hj with hj | hj
    · obtain ⟨p, hp, rfl⟩ := List.mem_map.1 hj
      exact List.mem_map.2 ⟨p, hX p (by simp [hp]), rfl⟩
    · obtain ⟨p, hp, rfl⟩ := List.mem_map.1 hj
      exact List.mem_map.2 ⟨p, hX p (by simp [hp]), rfl⟩
  refine ⟨h1 ++ (g' ++ h2), OwnLs.put hu hi o1 o2 o3 (fun j a b => nd.2.2 j a j (List.mem_append_right _ b) rfl) (fun j a b => d j a (hsub j b)), fun p hp => ?_⟩
  simp only [List.mem_append] at hp ⊢
  rcases hp with hp | hp | hp
  · exact .inr (hX p (by simp [hp]))
  · exact .inl hp
  · exact .inr (hX p (by simp [hp]))
theorem OwnRs.at {us : List AV} {rs : List (List Int)} {X : Heap} (o : OwnRs us rs X) {i : Nat} (hi : i < rs.length) : ∃ (hu : i < us.length) (g : Heap), OwnL iv 1 us[i] rs[i] g ∧ ∀ p ∈ g, p ∈ X := by
  obtain ⟨hp, o, hX⟩ := o
  obtain ⟨hu, h1, g, h2, rfl, o1, o2', o3⟩ := o.split hi
  exact ⟨hu, g, o2', fun p hp => hX p (by simp [hp])⟩
theorem OwnRs.len {us : List AV} {rs : List (List Int)} {X : Heap} (o : OwnRs us rs X) : us.length = rs.length := by
  obtain ⟨hp, o, hX⟩ := o
  exact o.len
theorem OwnRs.mono {us : List AV} {rs : List (List Int)} {X Y : Heap} (o : OwnRs us rs X) (h : ∀ p ∈ X, p ∈ Y) : OwnRs us rs Y := by
  obtain ⟨hp, o, hX⟩ := o
  exact ⟨hp, o, fun p hp => h p (hX p hp)⟩
/-- Rounds, and empty ones behind them. -/
def padR (m : Nat) (rs : List (List Int)) : List (List Int) := rs ++ List.replicate (m - rs.length) []
theorem padR_len {m : Nat} {rs : List (List Int)} (h : rs.length ≤ m) : (padR m rs).length = m := by simp [padR]; omega
theorem padR_at {m : Nat} {rs : List (List Int)} {i : Nat} (hi : i < (padR m rs).length) : (padR m rs)[i] = rs.getD i [] := by
  unfold padR at hi ⊢
  by_cases h : i < rs.length
  · rw [List.getElem_append_left h]; simp [h]
  · rw [List.getElem_append_right (by omega)]; simp [h]
theorem padR_put {m : Nat} {rs : List (List Int)} {i : Nat} (him : i < m) (hi : i ≤ rs.length) (e : Int) : (padR m rs).set i (rs.getD i [] ++ [e]) = padR m (frPut rs i e) := by
  unfold padR frPut
  by_cases h : i < rs.length
  · rw [if_pos h, List.set_append_left _ _ h]; simp
  · obtain rfl : i = rs.length := by omega
    rw [if_neg h, List.set_append_right _ _ (by omega)]
    obtain ⟨d, hd⟩ : ∃ d, m - rs.length = d + 1 := ⟨m - rs.length - 1, by omega⟩
    have hd2 : m - (rs ++ [[e]]).length = d := by simp; omega
    rw [hd, hd2, List.replicate_succ, Nat.sub_self]
    simp
/-- The block of the program's search. -/
def plB (x : Gr) (a : Int) (b : Bool) (u : AV) : Blk := ⟨5, [.agg [.int .i64 a, .bool b, .int .i64 x.n, .snap 3 (x.ts.map T.av), u]]⟩
abbrev k95_o0 : List AJ := [.o ⟨(some 2), none, false, .mv (.c (.bool false)), (some [0])⟩]
abbrev k95_o1 : List AJ := [.o ⟨(some 3), none, false, .mv (.t 0), none⟩, .o ⟨(some 4), none, false, .nilchk (.t 3), none⟩, .o ⟨(some 5), none, false, .fieldA 0 (.t 4), none⟩, .o ⟨(some 6), none, false, .load 1 false (.t 5), none⟩, .o ⟨(some 7), none, false, .bin .eql (.t 6) (.c (.int .i64 0)), (some [0, 7])⟩]
abbrev k95_o2 : List AJ := [.o ⟨(some 8), none, false, .mv (.t 0), none⟩, .o ⟨(some 9), none, false, .nilchk (.t 8), none⟩, .o ⟨(some 10), none, false, .fieldA 1 (.t 9), none⟩, .o ⟨none, none, false, .store 1 (.t 10) (.c (.bool true)), (some [])⟩]
abbrev k95_o3 : List AJ := [.o ⟨(some 2), none, false, .mv (.c (.bool false)), (some [2])⟩]
def k95_4 : ACode := .seq (.region k95_o3) .ret
def k95_5 : ACode := .seq (.region k95_o2) k95_4
def k95_6 : ACode := .cond (.t 7) k95_5 .skip
def k95_7 : ACode := .seq (.region k95_o1) k95_6
abbrev k95_o4 : List AJ := [.o ⟨(some 11), none, false, .mv (.t 0), none⟩, .o ⟨(some 12), none, false, .nilchk (.t 11), none⟩, .o ⟨(some 13), none, false, .fieldA 0 (.t 12), none⟩, .o ⟨(some 14), none, false, .load 1 false (.t 13), none⟩, .o ⟨(some 15), none, true, .bin .sub (.t 14) (.c (.int .i64 1)), none⟩, .o ⟨(some 16), none, false, .nilchk (.t 11), none⟩, .o ⟨(some 17), none, false, .fieldA 0 (.t 16), none⟩, .o ⟨none, none, false, .store 1 (.t 17) (.t 15), (some [])⟩]
abbrev k95_o5 : List AJ := [.o ⟨(some 2), none, false, .mv (.c (.bool true)), (some [2])⟩]
def k95_10 : ACode := .seq (.region k95_o5) .ret
def k95_11 : ACode := .seq (.region k95_o4) k95_10
def k95_12 : ACode := .seq k95_7 k95_11
def k95_13 : ACode := .seq (.region k95_o0) k95_12
@[simp, simp ↓] theorem k95_4r : sR k95_4 k95_o3 .ret := yR rfl
@[simp, simp ↓] theorem k95_5r : sR k95_5 k95_o2 k95_4 := yR rfl
@[simp, simp ↓] theorem k95_6r : rC k95_6 (.t 7) k95_5 .skip := zC rfl
@[simp, simp ↓] theorem k95_7r : sR k95_7 k95_o1 k95_6 := yR rfl
@[simp, simp ↓] theorem k95_10r : sR k95_10 k95_o5 .ret := yR rfl
@[simp, simp ↓] theorem k95_11r : sR k95_11 k95_o4 k95_10 := yR rfl
@[simp, simp ↓] theorem k95_12r : rS k95_12 k95_7 k95_11 := zS rfl
@[simp, simp ↓] theorem k95_13r : sR k95_13 k95_o0 k95_12 := yR rfl
noncomputable abbrev k95_C : Orc → Cx := mkC Try.prog [] 95 18 [.tmp 2]
theorem k95_of0 : OfP0 Try.prog Try.f95 95 18 k95_C k95_13 := @ofP0 _ _ _ _ _ _ _ _ Try.func95 (by decide +kernel) rfl (by kernel_rfl) rfl (by kernel_rfl)
theorem node_f (x : Gr) (a : Int) (b : Bool) (id : Nat) (u : AV) (hu : isCell u = true) (h : Heap) (ha : 0 ≤ a ∧ a ≤ 20000) :
    ACalls Try.prog 95 [.ptr id 5 0 0] ((id, plB x a b u) :: h) (fun v h' => v = .bool (!decide (a = 0)) ∧ h' = (id, plB x (if a = 0 then a else a - 1) (if a = 0 then true else b) u) :: h) := by
  unfold plB
  refine k95_of0 rfl noPure fun I => ?_
  by_cases h0 : a = 0
  · refine Run2.of I 1000 ?_
    simp -implicitDefEqProofs [h0, hu]
  · refine Run2.of I 1000 ?_
    simp -implicitDefEqProofs [h0, hu]
    omega
abbrev k96_o0 : List AJ := [.o ⟨(some 2), none, false, .mv (.c .nilsl), (some [0])⟩]
abbrev k96_o1 : List AJ := [.o ⟨(some 3), none, false, .mv (.t 0), none⟩, .o ⟨(some 4), none, false, .eqn 0 false (.t 3), (some [0, 4])⟩]
abbrev k96_o2 : List AJ := [.o ⟨(some 2), none, false, .mv (.c .nilsl), (some [2])⟩]
def k96_3 : ACode := .seq (.region k96_o2) .ret
def k96_4 : ACode := .cond (.t 4) k96_3 .skip
def k96_5 : ACode := .seq (.region k96_o1) k96_4
abbrev k96_o3 : List AJ := [.e 5 1 none, .o ⟨(some 6), none, false, .mv (.t 0), none⟩, .o ⟨(some 7), none, false, .append 1 8 (.t 5) (.t 6), none⟩, .o ⟨(some 2), none, false, .mv (.t 7), (some [2])⟩]
def k96_7 : ACode := .seq (.region k96_o3) .ret
def k96_8 : ACode := .seq k96_5 k96_7
def k96_9 : ACode := .seq (.region k96_o0) k96_8
@[simp, simp ↓] theorem k96_3r : sR k96_3 k96_o2 .ret := yR rfl
@[simp, simp ↓] theorem k96_4r : rC k96_4 (.t 4) k96_3 .skip := zC rfl
@[simp, simp ↓] theorem k96_5r : sR k96_5 k96_o1 k96_4 := yR rfl
@[simp, simp ↓] theorem k96_7r : sR k96_7 k96_o3 .ret := yR rfl
@[simp, simp ↓] theorem k96_8r : rS k96_8 k96_5 k96_7 := zS rfl
@[simp, simp ↓] theorem k96_9r : sR k96_9 k96_o0 k96_8 := yR rfl
noncomputable abbrev k96_C : Orc → Cx := mkC Try.prog [5] 96 8 [.tmp 2]
theorem k96_of0 : OfP0 Try.prog Try.f96 96 8 k96_C k96_9 := @ofP0 _ _ _ _ _ _ _ _ Try.func96 (by decide +kernel) rfl (by kernel_rfl) rfl (by kernel_rfl)
theorem Clone_f (l : List Int) (h : Heap) (hl : l.length ≤ 1048576) : ACalls Try.prog 96 [.snap 1 (l.map iv)] h (fun v h' => ∃ hp, Grow 1 v (l.map iv) hp ∧ h' = hp ++ h) := by
  refine k96_of0 rfl noPure fun I => ?_
  cases l with
  | nil =>
    refine Run2.of I 1000 ?_
    simp -implicitDefEqProofs
    exact ⟨.nil, .emp⟩
  | cons a l =>
    refine Run2.of I 1000 ?_
    simp -implicitDefEqProofs
    refine ⟨by simp at hl; omega, fun id hid => ⟨[(id, _)], .sl id _ _ (by simp), rfl⟩⟩
theorem Clone_l {u : AV} {l : List Int} {g : Heap} (o : OwnL iv 1 u l g) (H : Heap) (hs : ∀ p ∈ g, p ∈ H) (hl : l.length ≤ 1048576) : ACalls Try.prog 96 [u] H (fun v h' => ∃ hp, Grow 1 v (l.map iv) hp ∧ (∀ i ∈ dom hp, i ∉ dom H) ∧ h' = hp ++ H) := by
  refine (ACalls.gives g hs (S := fun v h' => Grow 1 v (l.map iv) h') ?_ ?_).mono ?_
  · rw [lend_cons, lend_nil']
    refine ACalls.wk (.cons o.lent.wk .nil) ?_
    exact (Clone_f l [] hl).mono fun v h' ⟨hp, hg, e⟩ => by rw [List.append_nil] at e; subst e; exact hg
  · intro v h' hw
    exact (Grow.own (enc := iv) hw).own own_iv1
  · rintro v h'' ⟨h', hw, hd, rfl⟩
    exact ⟨h', hw, hd, rfl⟩
theorem isFree_l (x : Gr) {u : AV} {r : List Int} {g : Heap} (o : OwnL iv 1 u r g) (k : Int) (H : Heap) (hs : ∀ p ∈ g, p ∈ H) (hl : r.length ≤ 1048576) (hr : ∀ a ∈ r, x.inR a) (hk : x.inR k) : ACalls Try.prog 94 [x.av, u, .int .i64 k] H (fun v h' => v = .bool (decide (x.free r k)) ∧ h' = H) := by
  refine ACalls.reads g hs ?_ rfl
  rw [lend_cons, lend_cons, lend_cons, lend_nil', lend1_cold g (x := x.av) x.is.cold, lend1_cold g (x := .int .i64 k) rfl]
  exact ACalls.wk (.cons (.refl _) (.cons o.lent.wk (.refl _))) (isFreeIn_s x r k [] hl hr hk)
/-- What a search of the program leaves. -/
def FrOut (x : Gr) (m : Nat) (B : Int) (idp idr : Nat) (us : List AV) (X : Heap) (F : FrR) (v : AV) (h' : Heap) : Prop :=
  (F.1 = none → v = .bool false ∧ h' = (idp, plB x (B - F.2.1) F.2.2 (.sl idr 1 0 m (some m))) :: (idr, ⟨1, us⟩) :: X) ∧
  ∀ r, F.1 = some r → ∃ us' g, v = .bool true ∧ h' = (idp, plB x (B - F.2.1) F.2.2 (.sl idr 1 0 m (some m))) :: (idr, ⟨1, us'⟩) :: (g ++ X) ∧ OwnRs us' (padR m r) (g ++ X)
noncomputable def orcFr1 : List (Nat × (List AV → Option (Prop × AV))) := (93, o_sizeE) :: []
theorem orcFr1_p : Pure Try.prog (lk orcFr1) := (lk_pure o_sizeE_k lk_pure0)
@[simp] theorem orcFr1_l (b : Bool) (g : FuncId) (l : List AV) : lk orcFr1 b g l = if g = 93 then o_sizeE l else none := nr rfl
abbrev k51_o0 : List AJ := [.o ⟨(some 4), none, false, .mv (.c (.bool false)), (some [0, 1])⟩]
abbrev k51_o1 : List AJ := [.o ⟨(some 7), none, false, .mv (.t 1), none⟩, .o ⟨(some 8), none, false, .mv (.t 0), none⟩, .o ⟨(some 9), none, false, .nilchk (.t 8), none⟩, .o ⟨(some 10), none, false, .fieldA 2 (.t 9), none⟩, .o ⟨(some 11), none, false, .fieldA 1 (.t 10), none⟩, .o ⟨(some 12), none, false, .load 1 false (.t 11), none⟩, .o ⟨(some 13), none, false, .call 93 [(.t 12)], none⟩, .o ⟨(some 14), none, false, .bin .eql (.t 7) (.t 13), (some [0, 1, 14])⟩]
abbrev k51_o2 : List AJ := [.o ⟨(some 4), none, false, .mv (.c (.bool true)), (some [4])⟩]
def k51_3 : ACode := .seq (.region k51_o2) .ret
def k51_4 : ACode := .cond (.t 14) k51_3 .skip
def k51_5 : ACode := .seq (.region k51_o1) k51_4
abbrev k51_o3 : List AJ := [.o ⟨(some 15), none, false, .mv (.t 0), none⟩, .o ⟨(some 16), none, false, .nilchk (.t 15), none⟩, .o ⟨(some 17), none, false, .fieldA 4 (.t 16), none⟩, .o ⟨(some 18), none, false, .load 1 false (.t 17), none⟩, .o ⟨(some 19), none, false, .len (.t 18), none⟩, .o ⟨(some 20), none, false, .mv (.c (.int .i64 0)), (some [0, 1, 18, 19, 20])⟩]
abbrev k51_o4 : List AJ := [.o ⟨(some 21), none, false, .bin .lss (.t 20) (.t 19), (some [0, 1, 18, 19, 20, 21])⟩]
abbrev k51_o5 : List AJ := [.o ⟨(some 22), none, false, .mv (.t 20), none⟩, .o ⟨(some 23), none, false, .idxA 1 (.t 18) (.t 20), none⟩, .o ⟨(some 24), none, false, .load 1 false (.t 23), none⟩, .o ⟨(some 5), none, false, .mv (.t 22), none⟩, .o ⟨(some 6), none, false, .mv (.t 24), (some [0, 1, 5, 6, 18, 19, 20])⟩]
abbrev k51_o6 : List AJ := [.o ⟨(some 25), none, false, .mv (.t 0), none⟩, .o ⟨(some 26), none, false, .nilchk (.t 25), none⟩, .o ⟨(some 27), none, false, .fieldA 2 (.t 26), none⟩, .o ⟨(some 28), none, false, .load 2 true (.t 27), none⟩, .o ⟨(some 29), none, false, .mv (.t 6), none⟩, .o ⟨(some 30), none, false, .mv (.t 1), none⟩, .o ⟨(some 31), none, false, .call 94 [(.t 28), (.t 29), (.t 30)], none⟩, .o ⟨(some 32), none, false, .un .not (.t 31), (some [0, 1, 5, 6, 18, 19, 20, 32])⟩]
def k51_11 : ACode := .cond (.t 32) (.exit 1) .skip
def k51_12 : ACode := .seq (.region k51_o6) k51_11
abbrev k51_o7 : List AJ := [.o ⟨(some 33), none, false, .mv (.t 0), none⟩, .o ⟨(some 34), none, false, .nilchk (.t 33), none⟩, .o ⟨(some 35), none, false, .fieldA 0 (.t 34), none⟩, .o ⟨(some 36), none, false, .fieldA 1 (.t 35), none⟩, .o ⟨(some 37), none, false, .load 1 false (.t 36), none⟩, .o ⟨(some 38), none, false, .mv (.t 37), none⟩, .o ⟨(some 39), (some (38, false)), false, .mv (.t 0), none⟩, .o ⟨(some 40), (some (38, false)), false, .nilchk (.t 39), none⟩, .o ⟨(some 41), (some (38, false)), false, .fieldA 0 (.t 40), none⟩, .o ⟨(some 42), (some (38, false)), false, .call 95 [(.t 41)], (some [0, 1, 5, 6, 18, 19, 20, 38, 42])⟩, .o ⟨(some 43), (some (38, false)), false, .un .not (.t 42), none⟩, .o ⟨(some 44), none, false, .pick (.t 38) (.c (.bool true)) (.t 43), (some [0, 1, 5, 6, 18, 19, 20, 44])⟩]
abbrev k51_o8 : List AJ := [.o ⟨(some 4), none, false, .mv (.c (.bool false)), (some [4])⟩]
def k51_15 : ACode := .seq (.region k51_o8) .ret
def k51_16 : ACode := .cond (.t 44) k51_15 .skip
def k51_17 : ACode := .seq (.region k51_o7) k51_16
abbrev k51_o9 : List AI := [⟨(some 45), none, false, .mv (.t 0), none⟩, ⟨(some 46), none, false, .nilchk (.t 45), none⟩, ⟨(some 47), none, false, .fieldA 4 (.t 46), none⟩, ⟨(some 48), none, false, .load 1 false (.t 47), none⟩, ⟨(some 49), none, false, .mv (.t 5), none⟩, ⟨(some 50), none, false, .mv (.t 6), none⟩, ⟨(some 51), none, false, .call 96 [(.t 50)], none⟩, ⟨(some 52), none, false, .mv (.t 1), none⟩, ⟨(some 53), none, false, .bsl false 1 [(.t 52)], none⟩, ⟨(some 54), none, false, .append 1 8 (.t 51) (.t 53), none⟩, ⟨(some 55), none, false, .idxA 1 (.t 48) (.t 49), none⟩, ⟨none, none, false, .store 1 (.t 55) (.t 54), none⟩]
abbrev k51_o10 : List AJ := [.o ⟨(some 45), none, false, .mv (.t 0), none⟩, .o ⟨(some 46), none, false, .nilchk (.t 45), none⟩, .o ⟨(some 47), none, false, .fieldA 4 (.t 46), none⟩, .o ⟨(some 49), none, false, .mv (.t 5), none⟩, .o ⟨(some 50), none, false, .mv (.t 6), none⟩, .o ⟨(some 52), none, false, .mv (.t 1), none⟩, .o ⟨(some 53), none, false, .bsl false 1 [(.t 52)], none⟩, .o ⟨(some 48), none, false, .load 1 false (.t 47), none⟩, .o ⟨(some 51), none, false, .call 96 [(.t 50)], none⟩, .o ⟨(some 54), none, false, .append 1 8 (.t 51) (.t 53), none⟩, .o ⟨(some 55), none, false, .idxA 1 (.t 48) (.t 49), none⟩, .o ⟨none, none, false, .store 1 (.t 55) (.t 54), (some [0, 1, 5, 6, 18, 19, 20])⟩]
abbrev k51_o11 : List AJ := [.o ⟨(some 45), none, false, .mv (.t 0), none⟩, .o ⟨(some 46), none, false, .nilchk (.t 45), none⟩, .o ⟨(some 47), none, false, .fieldA 4 (.t 46), none⟩, .o ⟨(some 49), none, false, .mv (.t 5), none⟩, .o ⟨(some 50), none, false, .mv (.t 6), none⟩, .o ⟨(some 52), none, false, .mv (.t 1), none⟩, .o ⟨(some 53), none, false, .bsl false 1 [(.t 52)], none⟩, .o ⟨(some 51), none, false, .call 96 [(.t 50)], none⟩, .o ⟨(some 48), none, false, .load 1 false (.t 47), none⟩, .o ⟨(some 54), none, false, .append 1 8 (.t 51) (.t 53), none⟩, .o ⟨(some 55), none, false, .idxA 1 (.t 48) (.t 49), none⟩, .o ⟨none, none, false, .store 1 (.t 55) (.t 54), (some [0, 1, 5, 6, 18, 19, 20])⟩]
abbrev k51_o12 : List AJ := [.o ⟨(some 45), none, false, .mv (.t 0), none⟩, .o ⟨(some 46), none, false, .nilchk (.t 45), none⟩, .o ⟨(some 47), none, false, .fieldA 4 (.t 46), none⟩, .o ⟨(some 49), none, false, .mv (.t 5), none⟩, .o ⟨(some 50), none, false, .mv (.t 6), none⟩, .o ⟨(some 52), none, false, .mv (.t 1), none⟩, .o ⟨(some 53), none, false, .bsl false 1 [(.t 52)], none⟩, .o ⟨(some 51), none, false, .call 96 [(.t 50)], none⟩, .o ⟨(some 54), none, false, .append 1 8 (.t 51) (.t 53), none⟩, .o ⟨(some 48), none, false, .load 1 false (.t 47), none⟩, .o ⟨(some 55), none, false, .idxA 1 (.t 48) (.t 49), none⟩, .o ⟨none, none, false, .store 1 (.t 55) (.t 54), (some [0, 1, 5, 6, 18, 19, 20])⟩]
abbrev k51_o13 : List AJ := [.o ⟨(some 56), none, false, .mv (.t 0), none⟩, .o ⟨(some 57), none, false, .mv (.t 1), none⟩, .o ⟨(some 58), none, true, .bin .add (.t 57) (.c (.int .i64 1)), none⟩, .o ⟨(some 59), none, false, .call 51 [(.t 56), (.t 58)], (some [0, 1, 5, 6, 18, 19, 20, 59])⟩]
abbrev k51_o14 : List AJ := [.o ⟨(some 4), none, false, .mv (.c (.bool true)), (some [4])⟩]
def k51_21 : ACode := .seq (.region k51_o14) .ret
def k51_22 : ACode := .cond (.t 59) k51_21 .skip
def k51_23 : ACode := .seq (.region k51_o13) k51_22
abbrev k51_o15 : List AJ := [.o ⟨(some 60), none, false, .mv (.t 0), none⟩, .o ⟨(some 61), none, false, .nilchk (.t 60), none⟩, .o ⟨(some 62), none, false, .fieldA 4 (.t 61), none⟩, .o ⟨(some 63), none, false, .load 1 false (.t 62), none⟩, .o ⟨(some 64), none, false, .mv (.t 5), none⟩, .o ⟨(some 65), none, false, .mv (.t 6), none⟩, .o ⟨(some 66), none, false, .idxA 1 (.t 63) (.t 64), none⟩, .o ⟨none, none, false, .store 1 (.t 66) (.t 65), (some [0, 1, 6, 18, 19, 20])⟩]
abbrev k51_o16 : List AJ := [.o ⟨(some 67), none, false, .mv (.t 6), none⟩, .o ⟨(some 68), none, false, .len (.t 67), none⟩, .o ⟨(some 69), none, false, .bin .eql (.t 68) (.c (.int .i64 0)), (some [0, 1, 18, 19, 20, 69])⟩]
def k51_26 : ACode := .cond (.t 69) (.exit 0) .skip
def k51_27 : ACode := .seq (.region k51_o16) k51_26
def k51_28 : ACode := .seq (.region k51_o15) k51_27
def k51_29 : ACode := .seq k51_23 k51_28
def k51_30 : ACode := .seq (.drawE k51_o9 [k51_o10, k51_o11, k51_o12] [[0, 1, 2, 4, 5, 7, 8, 3, 6, 9, 10, 11], [0, 1, 2, 4, 5, 7, 8, 6, 3, 9, 10, 11], [0, 1, 2, 4, 5, 7, 8, 6, 9, 3, 10, 11]] rfl rfl) (.cut k51_29)
def k51_31 : ACode := .seq k51_17 k51_30
def k51_32 : ACode := .seq k51_12 k51_31
def k51_33 : ACode := .seq (.region k51_o5) k51_32
abbrev k51_o17 : List AJ := [.o ⟨(some 70), none, true, .bin .add (.t 20) (.c (.int .i64 1)), none⟩, .o ⟨(some 20), none, false, .mv (.t 70), (some [0, 1, 18, 19, 20])⟩]
def k51_35 : ACode := .region k51_o17
def k51_36 : ACode := .seq (.block 1 k51_33) k51_35
def k51_37 : ACode := .seq (.cond (.t 21) .skip (.exit 0)) k51_36
def k51_38 : ACode := .seq (.region k51_o4) k51_37
def k51_39 : ACode := .loop k51_38
def k51_40 : ACode := .block 0 k51_39
def k51_41 : ACode := .seq (.region k51_o3) k51_40
abbrev k51_o18 : List AJ := [.o ⟨(some 4), none, false, .mv (.c (.bool false)), (some [4])⟩]
def k51_43 : ACode := .seq (.region k51_o18) .ret
def k51_44 : ACode := .seq k51_41 k51_43
def k51_45 : ACode := .seq k51_5 k51_44
def k51_46 : ACode := .seq (.region k51_o0) k51_45
@[simp, simp ↓] theorem k51_3r : sR k51_3 k51_o2 .ret := yR rfl
@[simp, simp ↓] theorem k51_4r : rC k51_4 (.t 14) k51_3 .skip := zC rfl
@[simp, simp ↓] theorem k51_5r : sR k51_5 k51_o1 k51_4 := yR rfl
@[simp, simp ↓] theorem k51_11r : rC k51_11 (.t 32) (.exit 1) .skip := zC rfl
@[simp, simp ↓] theorem k51_12r : sR k51_12 k51_o6 k51_11 := yR rfl
@[simp, simp ↓] theorem k51_15r : sR k51_15 k51_o8 .ret := yR rfl
@[simp, simp ↓] theorem k51_16r : rC k51_16 (.t 44) k51_15 .skip := zC rfl
@[simp, simp ↓] theorem k51_17r : sR k51_17 k51_o7 k51_16 := yR rfl
@[simp, simp ↓] theorem k51_21r : sR k51_21 k51_o14 .ret := yR rfl
@[simp, simp ↓] theorem k51_22r : rC k51_22 (.t 59) k51_21 .skip := zC rfl
@[simp, simp ↓] theorem k51_23r : sR k51_23 k51_o13 k51_22 := yR rfl
@[simp, simp ↓] theorem k51_26r : rC k51_26 (.t 69) (.exit 0) .skip := zC rfl
@[simp, simp ↓] theorem k51_27r : sR k51_27 k51_o16 k51_26 := yR rfl
@[simp, simp ↓] theorem k51_28r : sR k51_28 k51_o15 k51_27 := yR rfl
@[simp, simp ↓] theorem k51_29r : rS k51_29 k51_23 k51_28 := zS rfl
@[simp, simp ↓] theorem k51_30r : sE k51_30 [k51_o10, k51_o11, k51_o12] (.cut k51_29) := yE rfl
@[simp, simp ↓] theorem k51_31r : rS k51_31 k51_17 k51_30 := zS rfl
@[simp, simp ↓] theorem k51_32r : rS k51_32 k51_12 k51_31 := zS rfl
@[simp, simp ↓] theorem k51_33r : sR k51_33 k51_o5 k51_32 := yR rfl
@[simp, simp ↓] theorem k51_35r : rR k51_35 k51_o17 := zR rfl
@[simp, simp ↓] theorem k51_36r : sB k51_36 1 k51_33 k51_35 := yB rfl
@[simp, simp ↓] theorem k51_37r : sC k51_37 (.t 21) .skip (.exit 0) k51_36 := yC rfl
@[simp, simp ↓] theorem k51_38r : sR k51_38 k51_o4 k51_37 := yR rfl
@[simp, simp ↓] theorem k51_39r : rL k51_39 k51_38 := zL rfl
@[simp, simp ↓] theorem k51_40r : rB k51_40 0 k51_39 := zB rfl
@[simp, simp ↓] theorem k51_41r : sR k51_41 k51_o3 k51_40 := yR rfl
@[simp, simp ↓] theorem k51_43r : sR k51_43 k51_o18 .ret := yR rfl
@[simp, simp ↓] theorem k51_44r : rS k51_44 k51_41 k51_43 := zS rfl
@[simp, simp ↓] theorem k51_45r : rS k51_45 k51_5 k51_44 := zS rfl
@[simp, simp ↓] theorem k51_46r : sR k51_46 k51_o0 k51_45 := yR rfl
noncomputable abbrev k51_C : Orc → Cx := mkC Try.prog [99999] 51 71 [.tmp 4]
theorem k51_of0 : OfP0 Try.prog Try.f51 51 71 k51_C k51_46 := @ofP0 _ _ _ _ _ _ _ _ Try.func51 (by decide +kernel) rfl (by kernel_rfl) rfl (by kernel_rfl)
theorem plan_w (x : Gr) (hv : x.valid) (m : Nat) (hm : m ≤ 24) (B : Int) (hB : 1 ≤ B ∧ B ≤ 20000) (idp idr : Nat) (hne : ¬ idp = idr) : ∀ (d : Nat) (rs : List (List Int)) (k : Int) (us : List AV) (X : Heap), frI x m d rs → 0 ≤ k → k ≤ B → OwnRs us (padR m rs) X → idp ∉ dom X → idr ∉ dom X →
    ACalls Try.prog 51 [.ptr idp 5 0 0, .int .i64 (x.eNo d)] ((idp, plB x (B - k) false (.sl idr 1 0 m (some m))) :: (idr, ⟨1, us⟩) :: X) (FrOut x m B idp idr us X (frS x m B d rs k)) := by
  have h24 := hv.2.2.2
  intro d
  induction d with
  | zero =>
    intro rs k us X hI hk0 hkB ho hp hr
    have fin : FrOut x m B idp idr us X (frS x m B 0 rs k) (.bool true) ((idp, plB x (B - k) false (.sl idr 1 0 m (some m))) :: (idr, ⟨1, us⟩) :: X) :=
      ⟨fun h => by simp [frS] at h, fun r h => by simp only [frS, Option.some.injEq] at h; subst h; exact ⟨us, [], rfl, rfl, ho⟩⟩
    generalize FrOut x m B idp idr us X (frS x m B 0 rs k) = R at *
    have he : x.eNo 0 = (x.ts.length : Int) := by simp [Gr.eNo]
    rw [he]
    unfold plB at *
    refine k51_of0 rfl orcFr1_p fun I => ?_
    refine Run2.of I 1000 ?_
    simp -implicitDefEqProofs
    exact fin
  | succ d ihd =>
    intro rs k us X hI hk0 hkB ho hp hr
    have hIlen := hI.1
    have hpl := padR_len hIlen
    have hul := ho.len
    rw [hpl] at hul
    obtain ⟨F, hF⟩ : ∃ F, F = frL x (frS x m B d) B rs (x.eNo (d + 1)) (List.range (min m (rs.length + 1))) k := ⟨_, rfl⟩
    rw [frS_succ, ← hF]
    obtain ⟨R, hR⟩ : ∃ R, R = FrOut x m B idp idr us X F := ⟨_, rfl⟩
    rw [← hR]
    have hde : x.eNo (d + 1) = (x.ts.length : Int) - (d + 1) := by simp [Gr.eNo]
    have hd3 := hI.2.2
    have hee : ¬ x.eNo (d + 1) = (x.ts.length : Int) := by omega
    have hinR : x.inR (x.eNo (d + 1)) := ⟨by omega, by omega⟩
    have hnext : x.eNo (d + 1) + 1 = x.eNo d := by simp [Gr.eNo]; omega
    refine ACalls.sub ?_
    obtain ⟨S, hS⟩ : ∃ S, S = fun (v : AV) (h'' : Heap) => ∃ h', (∀ p ∈ h', p ∈ h'') ∧ ((dom h'').Nodup → (dom h').Nodup) ∧ R v h' := ⟨_, rfl⟩
    rw [← hS]
    have leaf : ∀ v h', R v h' → S v h' := fun v h' h => by rw [hS]; exact ⟨h', fun p hp => hp, id, h⟩
    have leafg : ∀ v a b (g : Heap), R v (a :: b :: X) → S v (a :: b :: (g ++ X)) := fun v a b g h => by
      rw [hS]
      refine ⟨_, fun p hp => ?_, fun nd => ?_, h⟩
      · simp only [List.mem_cons] at hp ⊢
        rcases hp with hp | hp | hp
        · exact .inl hp
        · exact .inr (.inl hp)
        · exact .inr (.inr (List.mem_append_right _ hp))
      · simp only [dom, List.map_cons, List.map_append, List.nodup_cons, List.nodup_append, List.mem_cons, List.mem_append, not_or] at nd ⊢
        exact ⟨⟨nd.1.1, nd.1.2.2⟩, nd.2.1.2, nd.2.2.2.1⟩
    clear hS
    refine k51_of0 rfl orcFr1_p fun I => ?_
    generalize hE : x.eNo (d + 1) = E at *
    unfold plB
    refine Run2.of I 1000 ?_
    simp -implicitDefEqProofs [hee, hne]
    refine Run2.loopE (α := Nat × Int × Bool) (fun s => [(0, .ptr idp 5 0 0), (1, .int .i64 E), (18, .sl idr 1 0 m (some m)), (19, .int .i64 m), (20, .int .i64 (s.1 : Nat))])
      (fun s => (idp, plB x (B - s.2.1) s.2.2 (.sl idr 1 0 m (some m))) :: (idr, ⟨1, us⟩) :: X) (fun s => m - s.1)
      (fun s => s.1 ≤ m ∧ s.1 ≤ rs.length ∧ 0 ≤ s.2.1 ∧ s.2.1 ≤ B ∧ F = if s.2.2 = true then (none, s.2.1, true) else frL x (frS x m B d) B rs E ((List.range (min m (rs.length + 1))).drop s.1) s.2.1)
      (0, k, false) (by simp) (by simp [plB]) ⟨Nat.zero_le _, Nat.zero_le _, hk0, hkB, by simpa using hF⟩ ?_
    clear hF hk0 hkB
    rintro ⟨i, k, f⟩ ⟨him, hir, hk0, hkB, hF⟩ ih
    replace him : i ≤ m := him
    replace hir : i ≤ rs.length := hir
    replace hk0 : 0 ≤ k := hk0
    replace hkB : k ≤ B := hkB
    simp only at hF ih ⊢
    by_cases hlt : i < m
    · have hit : i < min m (rs.length + 1) := by omega
      have hdrop : (List.range (min m (rs.length + 1))).drop i = i :: (List.range (min m (rs.length + 1))).drop (i + 1) := by
        rw [List.drop_eq_getElem_cons (by simpa using hit)]; simp
      rw [hdrop] at hF
      have hput := frI_put hI hit
      rw [hE] at hput
      obtain ⟨hu, g, og, hgX⟩ := ho.at (i := i) (by omega)
      rw [padR_at] at og
      have hus : us[i]? = some us[i] := by simp [hu]
      have hrr : ∀ a ∈ rs.getD i [], x.inR a := fun a ha => by
        by_cases h : i < rs.length
        · rw [show rs.getD i [] = rs[i] by simp [h]] at ha
          have := (hI.2.1 _ (List.getElem_mem h)).2 a ha
          exact ⟨this.1, by omega⟩
        · simp [h] at ha
      have hrl : (rs.getD i []).length ≤ 24 := by
        by_cases h : i < rs.length
        · rw [show rs.getD i [] = rs[i] by simp [h]]
          have := len_sumL (List.getElem_mem h)
          omega
        · simp [h]
      have hrn : i < rs.length → (rs.getD i []).length ≠ 0 := fun h => by
        rw [show rs.getD i [] = rs[i] by simp [h]]
        exact fun e => (hI.2.1 _ (List.getElem_mem h)).1 (List.length_eq_zero_iff.1 e)
      have hr0 : ¬ i < rs.length → rs.getD i [] = [] := fun h => by simp [h]
      generalize hr' : rs.getD i [] = r at *
      generalize hU : us[i] = u at *
      have huc := og.cell
      have hulen := og.len
      unfold plB
      refine Run2.of I 1000 ?_
      simp -implicitDefEqProofs [hlt, hne, hus, hu, hU, huc, cells_of huc, stor_of huc]
      refine (isFree_l x og E _ (fun p hp => List.mem_cons_of_mem _ (List.mem_cons_of_mem _ (hgX p hp))) (by omega) hrr hinR).mono ?_
      rintro v h' ⟨rfl, rfl⟩
      by_cases hfr : x.free r E
      · have hns : ¬ (i < rs.length ∧ ¬ x.free (rs.getD i []) E) := fun h => h.2 (by rw [hr']; exact hfr)
        cases f with
        | true =>
          refine gK.go ?_
          simp -implicitDefEqProofs [hfr, hne]
          refine leaf _ _ ?_
          rw [hR, hF]
          exact ⟨fun _ => ⟨rfl, by simp [plB]⟩, fun r h => by simp at h⟩
        | false =>
          refine gK.go ?_
          simp -implicitDefEqProofs [hfr, hne]
          refine (node_f x (B - k) false idp _ rfl _ (by omega)).mono ?_
          rintro v h' ⟨rfl, rfl⟩
          rw [if_neg (by simp)] at hF
          by_cases hkb : k = B
          · rw [frL_full hns hkb] at hF
            have h0 : B - k = 0 := by omega
            rw [if_pos h0, if_pos h0]
            unfold plB
            refine gK.go ?_
            simp -implicitDefEqProofs [h0, hne]
            refine leaf _ _ ?_
            rw [hR, hF]
            exact ⟨fun _ => ⟨rfl, by simp [plB, h0]⟩, fun r h => by simp at h⟩
          · rw [frL_go hns hkb] at hF
            have h0 : ¬ B - k = 0 := by omega
            rw [if_neg h0, if_neg h0]
            unfold plB
            have hset : (us.set i u) = us := by rw [← hU]; exact List.set_getElem_self ..
            have tail : ∀ w' g', Grow 1 w' ((r ++ [E]).map iv) g' → (∀ j ∈ dom g', j ∉ dom ((idp, plB x (B - k - 1) false (.sl idr 1 0 m (some m))) :: (idr, (⟨1, us⟩ : Blk)) :: X)) → Run2 (k51_C (lk orcFr1)) [.code k51_29, .inBlock 1, .code k51_35, .inLoop k51_38, .inBlock 0, .code k51_43]
                [(0, .ptr idp 5 0 0), (1, .int .i64 E), (5, .int .i64 i), (6, u), (18, .sl idr 1 0 m (some m)), (19, .int .i64 m), (20, .int .i64 i)] (g' ++ (idp, plB x (B - k - 1) false (.sl idr 1 0 m (some m))) :: (idr, ⟨1, us.set i w'⟩) :: X) S := by
              intro w' g' hg' hd'
              have n1 : idp ∉ dom g' := fun h => hd' _ h (by simp [dom])
              have n2 : idr ∉ dom g' := fun h => hd' _ h (by simp [dom])
              have n3 : ∀ j ∈ dom g', j ∉ dom X := fun j h1 h2 => hd' j h1 (by simp only [dom_cons, List.mem_cons]; exact .inr (.inr h2))
              have o2 : OwnRs (us.set i w') (padR m (frPut rs i E)) (g' ++ X) := by
                have := ho.set (i := i) (by omega) (hg'.own (enc := iv)) n3
                rw [← hr', padR_put hlt hir] at this
                exact this
              have hcall := ihd (frPut rs i E) (k + 1) (us.set i w') (g' ++ X) hput (by omega) (by omega) o2 (by rw [dom_append, List.mem_append]; exact fun h => h.elim n1 hp) (by rw [dom_append, List.mem_append]; exact fun h => h.elim n2 hr)
              have hbd := frS_bd x m B d (frPut rs i E) (k + 1) (by omega)
              generalize frS x m B d (frPut rs i E) (k + 1) = G at *
              obtain ⟨o, k', f'⟩ := G
              rw [← hnext, show B - (k + 1) = B - k - 1 by omega] at hcall
              unfold plB at *
              refine Run2.of I 1000 ?_
              simp -implicitDefEqProofs [n1, n2]
              refine ⟨by omega, ?_⟩
              refine ACalls.inSub (h' := (idp, _) :: (idr, ⟨1, us.set i w'⟩) :: (g' ++ X)) ?_ ?_ (hcall.mono ?_)
              · intro p hp
                simp only [List.mem_cons, List.mem_append] at hp ⊢
                rcases hp with hp | hp | hp | hp
                · exact .inr (.inl hp)
                · exact .inr (.inr (.inl hp))
                · exact .inl hp
                · exact .inr (.inr (.inr hp))
              · intro nd
                simp only [dom_append, dom_cons, List.nodup_append, List.nodup_cons, List.mem_append, List.mem_cons, not_or] at nd ⊢
                exact ⟨⟨hne, n1, hp⟩, ⟨n2, hr⟩, nd.1, nd.2.1.2.2, fun a ha b hb hab => n3 a ha (hab ▸ hb)⟩
              · rintro v h' ⟨q1, q2⟩
                replace hbd : k + 1 ≤ k' ∧ k' ≤ B := hbd
                cases o with
                | some r' =>
                  replace hF : F = (some r', k', f') := hF
                  obtain ⟨us', g2, rfl, rfl, o3⟩ := q2 r' rfl
                  refine gK.go ?_
                  simp -implicitDefEqProofs
                  refine leaf _ _ ?_
                  rw [hR, hF]
                  refine ⟨fun h => by simp at h, fun r'' h => ?_⟩
                  simp only [Option.some.injEq] at h
                  subst h
                  exact ⟨us', g2 ++ g', rfl, by simp [plB], by simpa using o3⟩
                | none =>
                  obtain ⟨rfl, rfl⟩ := q1 rfl
                  unfold plB
                  by_cases hi2 : i < rs.length
                  · have hrn0 := hrn hi2
                    have go := ih (i + 1, k', f') ⟨hlt, hi2, by simp only; omega, by simp only; omega, by
                      simp only
                      rw [hF]
                      cases f' <;> rfl⟩ (by simp; omega)
                    simp only at go
                    refine gK.go ?_
                    simp -implicitDefEqProofs [hne, hulen, huc, cells_of huc, stor_of huc, hu, hset, hrn0]
                    refine ⟨hlt, by omega, Run2.sub (h' := (idp, ⟨5, [.agg [.int .i64 (B - k'), .bool f', .int .i64 x.n, .snap 3 (x.ts.map T.av), .sl idr 1 0 m (some m)]]⟩) :: (idr, ⟨1, us⟩) :: X) (fun p hp => ?_) (fun nd => ?_) (by simpa [plB] using go)⟩
                    · simp only [List.mem_cons] at hp ⊢
                      rcases hp with hp | hp | hp
                      · exact .inl hp
                      · exact .inr (.inl hp)
                      · exact .inr (.inr (List.mem_append_right _ hp))
                    · simp only [dom, List.map_cons, List.map_append, List.nodup_cons, List.nodup_append, List.mem_cons, List.mem_append, not_or] at nd ⊢
                      exact ⟨⟨nd.1.1, nd.1.2.2⟩, nd.2.1.2, nd.2.2.2.1⟩
                  · obtain rfl : i = rs.length := by omega
                    have hr00 : r = [] := hr0 hi2
                    subst hr00
                    have hF2 : F = (none, k', f') := by
                      rw [hF]
                      cases f' with
                      | true => rfl
                      | false => simp only; rw [List.drop_of_length_le (by simp; omega)]; rfl
                    refine gK.go ?_
                    simp -implicitDefEqProofs [hne, hulen, huc, cells_of huc, stor_of huc, hu, hset]
                    refine ⟨hlt, leafg _ _ _ g' ?_⟩
                    rw [hR, hF2]
                    exact ⟨fun _ => ⟨rfl, by simp [plB]⟩, fun r h => by simp at h⟩
            refine gK.go ?_
            simp -implicitDefEqProofs [h0, hne]
            refine ⟨?_, ?_, ?_⟩
            all_goals
              refine (Clone_l og _ (fun p hp => List.mem_cons_of_mem _ (List.mem_cons_of_mem _ (hgX p hp))) (by omega)).mono ?_
              rintro v h' ⟨hp', G, hd, rfl⟩
              have n1 : idp ∉ dom hp' := fun h => hd _ h (by simp [dom])
              have n2 : idr ∉ dom hp' := fun h => hd _ h (by simp [dom])
              have cG := G.cell
              refine gK.go ?_
              simp -implicitDefEqProofs [hne, n1, n2, hget_app n1, hget_app n2, cG, cells_of cG, stor_of cG, hu]
              refine G.app_mid (pre := []) (by simp [dom]) (by simp; omega) (by simp) fun w' g' hg' hd' => ?_
              rw [List.nil_append] at hd'
              have n3 : idp ∉ dom g' := fun h => hd' _ h (by simp [dom])
              have n4 : idr ∉ dom g' := fun h => hd' _ h (by simp [dom])
              have cW := hg'.cell
              have := tail w' g' (by simpa using hg') (by simpa [plB] using hd')
              unfold plB at this
              simp -implicitDefEqProofs [hne, n3, n4, hget_app n3, hget_app n4, hset_app n3, hset_app n4, cW, cells_of cW, stor_of cW, hu]
              exact ⟨hlt, this⟩
      · have hsk : i < rs.length ∧ ¬ x.free (rs.getD i []) E := by
          refine ⟨Classical.byContradiction fun h => hfr ?_, by rw [hr']; exact hfr⟩
          rw [hr0 h]
          intro a ha; cases ha
        have go := ih (i + 1, k, f) ⟨hlt, hsk.1, hk0, hkB, by
          simp only
          rw [hF]
          cases f with
          | true => rfl
          | false => rw [if_neg (by simp), if_neg (by simp), frL_skip hsk]⟩ (by simp; omega)
        clear ih
        unfold plB at go
        refine gK.go ?_
        simp -implicitDefEqProofs [hfr]
        exact ⟨by omega, by simpa using go⟩
    · have hF' : F = (none, k, f) := by
        rw [hF, List.drop_of_length_le (by simp; omega)]
        cases f <;> rfl
      unfold plB
      refine Run2.of I 1000 ?_
      simp -implicitDefEqProofs [hlt]
      refine leaf _ _ ?_
      rw [hR, hF']
      exact ⟨fun _ => ⟨rfl, by simp [plB]⟩, fun r h => by simp at h⟩
end Go.AG
