/- Filtrations as data of the laws: how they are copied, compared, counted. No statement is made here. -/
import Derived.Test.YtamjnegnoijjlaaFxT
import Derived.Test.YtamjnegnoijjlaaISSM
import Derived.Test.YtamjnegnoijjlaaAGLists2
namespace Go.AG
open Go.Proofs Go.Proofs.Ytamjnegnoijjlaa
set_option linter.unusedSimpArgs false
set_option linter.unusedVariables false
set_option maxRecDepth 4000
@[simp] def Fil.av (x : Fil) : AV := .agg [.snap 1 (x.rs.map il), .snap 1 (x.ts.map iv)]
def Fil.wf (x : Fil) : Prop := wfSS x.rs ∧ wfI x.ts
def Fil.tot (x : Fil) : Nat := ssTot x.rs + x.ts.length
theorem Fil.ext' {x y : Fil} (h1 : x.rs = y.rs) (h2 : x.ts = y.ts) : x = y := by
  cases x; cases y; simp at h1 h2; simp [h1, h2]
theorem Fil.eq_iff (x y : Fil) : x = y ↔ x.rs = y.rs ∧ x.ts = y.ts := ⟨fun h => by rw [h]; exact ⟨rfl, rfl⟩, fun h => Fil.ext' h.1 h.2⟩
def tyF : Ty := .struct (.cons (.struct (.cons tySS .nil)) (.cons (.slice (.int .i64)) .nil))
theorem Fil_of_shape {x : AV} (h : shV tyF x) : ∃ p : Fil, x = p.av ∧ p.wf := by
  obtain ⟨h1, a1, b1, e1, ⟨a2, b2, rfl, ⟨xs, rfl, hlen, r3⟩, hb2⟩, a3, b3, rfl, ⟨ys, rfl, hlen2, r4⟩, h3⟩ := h
  have hm : maxLen ≤ 9223372036854775807 := by decide
  have h3' : b3 = [] := h3
  have hb2' : b2 = [] := hb2
  subst h3' hb2'
  obtain ⟨rs, rfl, hrs⟩ := Lists_list r3
  obtain ⟨ts, hts, hwt⟩ := Ints_of_shape (x := .snap 1 ys) ⟨rfl, ys, rfl, hlen2, r4⟩
  cases x <;> simp [isAgg, tyF, Ty.isS] at h1
  rename_i l
  refine ⟨⟨rs, ts⟩, ?_, ⟨⟨hrs, by simp only [List.length_map] at hlen; exact Nat.le_trans hlen hm⟩, hwt⟩⟩
  simp only [cellsOf] at e1
  rw [e1]
  simp only [AV.snap.injEq, true_and] at hts
  simp [Fil.av, hts, Ty.n]
/-- v is a complex in blocks of its own. -/
def OwnCx (v : AV) (rs : List (List Int)) (hp : Heap) : Prop := ∃ u, v = .agg [u] ∧ OwnLL u rs hp
def IsCx (v : AV) (rs : List (List Int)) : Prop := ∃ u, v = .agg [u] ∧ IsLL u rs
@[simp] def cx (rs : List (List Int)) : AV := .agg [.snap 1 (rs.map il)]
theorem IsCx.wk {v : AV} {rs : List (List Int)} (h : IsCx v rs) : Wk v (cx rs) := by
  obtain ⟨u, rfl, hu⟩ := h
  exact Wk.agg (.cons hu.wk .nil)
theorem IsCx.cold {v : AV} {rs : List (List Int)} (h : IsCx v rs) : Go.AG.cold v = true := by
  obtain ⟨u, rfl, hu⟩ := h
  simp [Go.AG.cold, colds, hu.cold]
theorem lend1_agg1 (L : Heap) (a : AV) : lend1 L (.agg [a]) = .agg [lend1 L a] := by
  induction L generalizing a with
  | nil => rfl
  | cons p L ih => simp only [lend1, fz, fzs]; exact ih _
theorem OwnCx.lentMid {v : AV} {rs : List (List Int)} {hp : Heap} (h : OwnCx v rs hp) {A B : Heap} (nd : (dom (A ++ (hp ++ B))).Nodup) : IsCx (lend1 (A ++ (hp ++ B)) v) rs := by
  obtain ⟨u, rfl, hu⟩ := h
  rw [lend1_agg1]
  exact ⟨_, rfl, hu.lentMid nd⟩
theorem OwnCx.nodup {v : AV} {rs : List (List Int)} {hp : Heap} (h : OwnCx v rs hp) : (dom hp).Nodup := by
  obtain ⟨u, rfl, hu⟩ := h
  exact hu.nodup
theorem OwnCx.lent {v : AV} {rs : List (List Int)} {hp : Heap} (h : OwnCx v rs hp) : IsCx (lend1 hp v) rs := by
  have := h.lentMid (A := []) (B := []) (by simpa using h.nodup)
  simpa using this
theorem OwnCx.own {v : AV} {rs : List (List Int)} {hp : Heap} (h : OwnCx v rs hp) : Go.AG.own v = true ∧ (hp.all fun p => p.2.l.all Go.AG.own) = true := by
  obtain ⟨u, rfl, hu⟩ := h
  exact ⟨by simp [Go.AG.own, owns, hu.own.1], hu.own.2⟩
theorem cx_is (rs : List (List Int)) : IsCx (cx rs) rs := ⟨_, rfl, .is _⟩
def tyCx : Ty := .struct (.cons tySS .nil)
theorem Cx_of_shape {x : AV} (h : shV tyCx x) : ∃ rs, x = cx rs ∧ wfSS rs := by
  obtain ⟨h1, a1, b1, e1, ⟨xs, rfl, hlen, r3⟩, h3⟩ := h
  have hm : maxLen ≤ 9223372036854775807 := by decide
  have h3' : b1 = [] := h3
  subst h3'
  obtain ⟨rs, rfl, hrs⟩ := Lists_list r3
  cases x <;> simp [isAgg, tyCx, Ty.isS] at h1
  rename_i l
  refine ⟨rs, ?_, ⟨hrs, by simp only [List.length_map] at hlen; exact Nat.le_trans hlen hm⟩⟩
  simp only [cellsOf] at e1
  rw [e1]; rfl
/-- v is a filtration in blocks of its own. -/
def OwnFil (v : AV) (x : Fil) (hp : Heap) : Prop := ∃ u w h1 h2, v = .agg [u, w] ∧ OwnLL u x.rs h1 ∧ OwnL iv 1 w x.ts h2 ∧ (∀ i ∈ dom h1, i ∉ dom h2) ∧ hp = h1 ++ h2
/-- v is a filtration that nobody writes. -/
def IsFil (v : AV) (x : Fil) : Prop := ∃ u w, v = .agg [u, w] ∧ IsLL u x.rs ∧ IsL iv 1 w x.ts
theorem IsFil.wk {v : AV} {x : Fil} (h : IsFil v x) : Wk v x.av := by
  obtain ⟨u, w, rfl, hu, hw⟩ := h
  exact Wk.agg (.cons hu.wk (.cons hw.wk .nil))
theorem IsFil.cold {v : AV} {x : Fil} (h : IsFil v x) : Go.AG.cold v = true := by
  obtain ⟨u, w, rfl, hu, hw⟩ := h
  simp [Go.AG.cold, colds, hu.cold, hw.cold cold_iv1]
theorem lend1_agg (L : Heap) (a u : AV) : lend1 L (.agg [a, u]) = .agg [lend1 L a, lend1 L u] := by
  induction L generalizing a u with
  | nil => rfl
  | cons p L ih => simp only [lend1, fz, fzs]; exact ih _ _
theorem OwnFil.lentMid {v : AV} {x : Fil} {hp : Heap} (h : OwnFil v x hp) {A B : Heap} (nd : (dom (A ++ (hp ++ B))).Nodup) : IsFil (lend1 (A ++ (hp ++ B)) v) x := by
  obtain ⟨u, w, h1, h2, rfl, hu, hw, hd, rfl⟩ := h
  rw [lend1_agg]
  refine ⟨_, _, rfl, ?_, hw.lentIn cold_iv1 (fun p hp => by simp [hp]) nd⟩
  have e : A ++ ((h1 ++ h2) ++ B) = A ++ (h1 ++ (h2 ++ B)) := by simp
  rw [e] at nd ⊢
  exact hu.lentMid nd
theorem OwnFil.lent {v : AV} {x : Fil} {hp : Heap} (h : OwnFil v x hp) (nd : (dom hp).Nodup) : IsFil (lend1 hp v) x := by
  have := h.lentMid (A := []) (B := []) (by simpa using nd)
  simpa using this
theorem OwnFil.own {v : AV} {x : Fil} {hp : Heap} (h : OwnFil v x hp) : Go.AG.own v = true ∧ (hp.all fun p => p.2.l.all Go.AG.own) = true := by
  obtain ⟨u, w, h1, h2, rfl, hu, hw, hd, rfl⟩ := h
  exact ⟨by simp [Go.AG.own, owns, hu.own.1, (hw.own own_iv1).1], by rw [List.all_append, hu.own.2, (hw.own own_iv1).2]; rfl⟩
theorem OwnFil.nodup {v : AV} {x : Fil} {hp : Heap} (h : OwnFil v x hp) : (dom hp).Nodup := by
  obtain ⟨u, w, h1, h2, rfl, hu, hw, hd, rfl⟩ := h
  rw [dom_append]
  exact List.nodup_append.2 ⟨hu.nodup, hw.nodup, fun a ha b hb e => hd a ha (e ▸ hb)⟩
theorem Fil.is (x : Fil) : IsFil x.av x := ⟨_, _, rfl, .is _, .snap _⟩
noncomputable def orcL : List (Nat × (List AV → Option (Prop × AV))) := (37, o_toInt64S) :: (20, o_eqInt64S) :: (50, o_toInt64SS) :: (48, o_szInt64SS) :: (45, o_eqInt64SS) :: []
theorem orcL_p : Pure Try.prog (lk orcL) := (lk_pure o_toInt64S_k (lk_pure o_eqInt64S_k (lk_pure o_toInt64SS_k (lk_pure o_szInt64SS_k (lk_pure o_eqInt64SS_k lk_pure0)))))
@[simp] theorem orcL_l (b : Bool) (g : FuncId) (l : List AV) : lk orcL b g l = if g = 37 then o_toInt64S l else if g = 20 then o_eqInt64S l else if g = 50 then o_toInt64SS l else if g = 48 then o_szInt64SS l else if g = 45 then o_eqInt64SS l else none := nr rfl
abbrev k34_o0 : List AJ := [.o ⟨(some 1), none, false, .box false 1 (.t 0), none⟩, .o ⟨(some 2), none, false, .alloc true 1 (.agg [.nilsl]), (some [1, 2])⟩]
abbrev k34_o1 : List AJ := [.o ⟨(some 3), none, false, .alloc true 1 (.agg [.nilsl]), (some [1, 2, 3])⟩]
abbrev k34_o2 : List AJ := [.o ⟨(some 4), none, false, .fieldA 0 (.t 1), none⟩, .o ⟨(some 5), none, false, .load 1 false (.t 4), none⟩, .o ⟨(some 6), none, false, .call 50 [(.t 5)], none⟩, .o ⟨(some 7), none, false, .fieldA 0 (.t 3), none⟩, .o ⟨none, none, false, .store 1 (.t 7) (.t 6), (some [2, 3])⟩]
abbrev k34_o3 : List AJ := [.o ⟨(some 8), none, false, .load 1 true (.t 3), none⟩, .o ⟨none, none, false, .store 1 (.t 2) (.t 8), (some [2])⟩]
def k34_4 : ACode := .seq (.region k34_o3) .ret
def k34_5 : ACode := .seq (.region k34_o2) k34_4
def k34_6 : ACode := .seq (.region k34_o1) k34_5
def k34_7 : ACode := .seq (.region k34_o0) k34_6
@[simp, simp ↓] theorem k34_4r : sR k34_4 k34_o3 .ret := yR rfl
@[simp, simp ↓] theorem k34_5r : sR k34_5 k34_o2 k34_4 := yR rfl
@[simp, simp ↓] theorem k34_6r : sR k34_6 k34_o1 k34_5 := yR rfl
@[simp, simp ↓] theorem k34_7r : sR k34_7 k34_o0 k34_6 := yR rfl
noncomputable abbrev k34_C : Orc → Cx := mkC Try.prog [2, 3] 34 9 [.cell 2 1 true]
theorem k34_of : OfP Try.prog Try.f34 34 9 k34_C k34_7 := @ofP _ _ _ _ _ _ _ _ Try.func34 (by decide +kernel) rfl (by kernel_rfl) rfl (by kernel_rfl)
theorem toCx_c (rs : List (List Int)) (h : Heap) (hl : ssTot rs ≤ 1048576) : ACalls Try.prog 34 [cx rs] h (fun v h' => v = cx rs ∧ h' = h) := by
  refine k34_of rfl noPure fun I => ?_
  refine Run2.of I 1000 ?_
  simp -implicitDefEqProofs
  intro a ha b hb1 hb2
  refine gK.go ?_
  simp -implicitDefEqProofs [hb1]
  refine (toInt64SS_t rs _ hl).mono ?_
  rintro v h' ⟨rfl, rfl⟩
  refine gK.go ?_
  simp -implicitDefEqProofs [hb1]
  refine .drop b (.drop a (.base ?_))
  simp -implicitDefEqProofs [hb1]
theorem toCx_o (rs : List (List Int)) (h : Heap) (hl : ssTot rs ≤ 1048576) : ACalls Try.prog 34 [cx rs] h (fun v h' => ∃ h1, OwnCx v rs h1 ∧ (∀ i ∈ dom h1, i ∉ dom h) ∧ h' = h1 ++ h) := by
  refine k34_of rfl noPure fun I => ?_
  refine Run2.of I 1000 ?_
  simp -implicitDefEqProofs
  intro a ha b hb1 hb2
  refine gK.go ?_
  simp -implicitDefEqProofs [hb1]
  refine (toInt64SS_n rs _ hl).mono ?_
  rintro u h' ⟨h1, o, hd, rfl⟩
  have hcell := o.cell
  have hst := stor_of hcell
  have hcl := cells_of hcell
  have hd1 : ∀ i ∈ dom h1, i ≠ b ∧ i ≠ a ∧ i ∉ dom h := fun i hi => by
    have := hd i hi
    simpa [dom] using this
  have hA : a ∉ dom h1 := fun hm => (hd1 a hm).2.1 rfl
  have hB : b ∉ dom h1 := fun hm => (hd1 b hm).1 rfl
  have gA : ∀ z, hget (h1 ++ z) a = hget z a := fun z => hget_app hA
  have gB : ∀ z, hget (h1 ++ z) b = hget z b := fun z => hget_app hB
  have sA : ∀ z c, hset (h1 ++ z) a c = h1 ++ hset z a c := fun z c => hset_app hA
  have sB : ∀ z c, hset (h1 ++ z) b c = h1 ++ hset z b c := fun z c => hset_app hB
  refine gK.go ?_
  simp -implicitDefEqProofs [hb1, hcell, hst, hcl, gA, gB, sA, sB]
  refine .drop b (.drop a (.base ?_))
  rw [hdel_app hB, hdel_app hA]
  refine ⟨h1, ⟨_, rfl, o⟩, fun i hi => (hd1 i hi).2.2, ?_⟩
  simp [hdel, hb1]
abbrev k32_o0 : List AJ := [.o ⟨(some 2), none, false, .box false 1 (.t 0), none⟩, .o ⟨(some 4), none, false, .mv (.c (.int .i64 0)), (some [1, 2])⟩]
abbrev k32_o1 : List AJ := [.o ⟨(some 5), none, false, .fieldA 0 (.t 2), none⟩, .o ⟨(some 6), none, false, .load 1 false (.t 5), none⟩, .o ⟨(some 7), none, false, .mv (.t 1), none⟩, .o ⟨(some 8), none, false, .call 48 [(.t 6), (.t 7)], none⟩, .o ⟨(some 1), none, false, .mv (.t 8), (some [1])⟩]
abbrev k32_o2 : List AJ := [.o ⟨(some 9), none, false, .mv (.t 1), none⟩, .o ⟨(some 10), none, false, .bin .lss (.t 9) (.c (.int .i64 0)), (some [1, 10])⟩]
abbrev k32_o3 : List AJ := [.o ⟨(some 4), none, false, .mv (.c (.int .i64 (-1))), (some [4])⟩]
def k32_4 : ACode := .seq (.region k32_o3) .ret
def k32_5 : ACode := .cond (.t 10) k32_4 .skip
def k32_6 : ACode := .seq (.region k32_o2) k32_5
abbrev k32_o4 : List AJ := [.o ⟨(some 11), none, false, .mv (.t 1), none⟩, .o ⟨(some 4), none, false, .mv (.t 11), (some [4])⟩]
def k32_8 : ACode := .seq (.region k32_o4) .ret
def k32_9 : ACode := .seq k32_6 k32_8
def k32_10 : ACode := .seq (.region k32_o1) k32_9
def k32_11 : ACode := .seq (.region k32_o0) k32_10
@[simp, simp ↓] theorem k32_4r : sR k32_4 k32_o3 .ret := yR rfl
@[simp, simp ↓] theorem k32_5r : rC k32_5 (.t 10) k32_4 .skip := zC rfl
@[simp, simp ↓] theorem k32_6r : sR k32_6 k32_o2 k32_5 := yR rfl
@[simp, simp ↓] theorem k32_8r : sR k32_8 k32_o4 .ret := yR rfl
@[simp, simp ↓] theorem k32_9r : rS k32_9 k32_6 k32_8 := zS rfl
@[simp, simp ↓] theorem k32_10r : sR k32_10 k32_o1 k32_9 := yR rfl
@[simp, simp ↓] theorem k32_11r : sR k32_11 k32_o0 k32_10 := yR rfl
noncomputable abbrev k32_C : Orc → Cx := mkC Try.prog [] 32 12 [.tmp 4]
theorem k32_of0 : OfP0 Try.prog Try.f32 32 12 k32_C k32_11 := @ofP0 _ _ _ _ _ _ _ _ Try.func32 (by decide +kernel) rfl (by kernel_rfl) rfl (by kernel_rfl)
theorem szCx_c (rs : List (List Int)) (n : Int) (h : Heap) (hn : 0 ≤ n ∧ n ≤ 1048576) (hw : wfSS rs) : ACalls Try.prog 32 [cx rs, .int .i64 n] h (fun v h' => v = .int .i64 (if n < ssTot rs then -1 else n - ssTot rs) ∧ h' = h) := by
  refine k32_of0 rfl orcL_p fun I => ?_
  refine Run2.of I 1000 ?_
  simp -implicitDefEqProofs [hn.1, hn.2, hw]
  grind
abbrev k26_o0 : List AJ := [.o ⟨(some 2), none, false, .box false 1 (.t 0), none⟩, .o ⟨(some 3), none, false, .box false 1 (.t 1), none⟩, .o ⟨(some 4), none, false, .mv (.c (.bool false)), (some [2, 3])⟩]
abbrev k26_o1 : List AJ := [.o ⟨(some 5), none, false, .fieldA 0 (.t 2), none⟩, .o ⟨(some 6), none, false, .load 1 false (.t 5), none⟩, .o ⟨(some 7), none, false, .fieldA 0 (.t 3), none⟩, .o ⟨(some 8), none, false, .load 1 false (.t 7), none⟩, .o ⟨(some 9), none, false, .call 45 [(.t 6), (.t 8)], none⟩, .o ⟨(some 10), none, false, .un .not (.t 9), (some [10])⟩]
abbrev k26_o2 : List AJ := [.o ⟨(some 4), none, false, .mv (.c (.bool false)), (some [4])⟩]
def k26_3 : ACode := .seq (.region k26_o2) .ret
def k26_4 : ACode := .cond (.t 10) k26_3 .skip
def k26_5 : ACode := .seq (.region k26_o1) k26_4
abbrev k26_o3 : List AJ := [.o ⟨(some 4), none, false, .mv (.c (.bool true)), (some [4])⟩]
def k26_7 : ACode := .seq (.region k26_o3) .ret
def k26_8 : ACode := .seq k26_5 k26_7
def k26_9 : ACode := .seq (.region k26_o0) k26_8
@[simp, simp ↓] theorem k26_3r : sR k26_3 k26_o2 .ret := yR rfl
@[simp, simp ↓] theorem k26_4r : rC k26_4 (.t 10) k26_3 .skip := zC rfl
@[simp, simp ↓] theorem k26_5r : sR k26_5 k26_o1 k26_4 := yR rfl
@[simp, simp ↓] theorem k26_7r : sR k26_7 k26_o3 .ret := yR rfl
@[simp, simp ↓] theorem k26_8r : rS k26_8 k26_5 k26_7 := zS rfl
@[simp, simp ↓] theorem k26_9r : sR k26_9 k26_o0 k26_8 := yR rfl
noncomputable abbrev k26_C : Orc → Cx := mkC Try.prog [] 26 11 [.tmp 4]
theorem k26_of0 : OfP0 Try.prog Try.f26 26 11 k26_C k26_9 := @ofP0 _ _ _ _ _ _ _ _ Try.func26 (by decide +kernel) rfl (by kernel_rfl) rfl (by kernel_rfl)
theorem eqCx_c (rs qs : List (List Int)) (h : Heap) (hl : ssTot rs ≤ 1048576) : ACalls Try.prog 26 [cx rs, cx qs] h (fun v h' => v = .bool (decide (rs = qs)) ∧ h' = h) := by
  have hf := fit_of_tot hl
  refine k26_of0 rfl orcL_p fun I => ?_
  refine Run2.of I 1000 ?_
  simp -implicitDefEqProofs [hf]
abbrev k15_o0 : List AJ := [.o ⟨(some 1), none, false, .box false 2 (.t 0), none⟩, .o ⟨(some 2), none, false, .alloc true 2 (.agg [.nilsl, .nilsl]), (some [1, 2])⟩]
abbrev k15_o1 : List AJ := [.o ⟨(some 3), none, false, .alloc true 2 (.agg [.nilsl, .nilsl]), (some [1, 2, 3])⟩]
abbrev k15_o2 : List AJ := [.o ⟨(some 4), none, false, .fieldA 0 (.t 1), none⟩, .o ⟨(some 5), none, false, .load 1 true (.t 4), none⟩, .o ⟨(some 6), none, false, .call 34 [(.t 5)], none⟩, .o ⟨(some 7), none, false, .fieldA 0 (.t 3), none⟩, .o ⟨none, none, false, .store 1 (.t 7) (.t 6), (some [1, 2, 3])⟩]
abbrev k15_o3 : List AJ := [.o ⟨(some 8), none, false, .fieldA 1 (.t 1), none⟩, .o ⟨(some 9), none, false, .load 1 false (.t 8), none⟩, .o ⟨(some 10), none, false, .call 37 [(.t 9)], none⟩, .o ⟨(some 11), none, false, .fieldA 1 (.t 3), none⟩, .o ⟨none, none, false, .store 1 (.t 11) (.t 10), (some [2, 3])⟩]
abbrev k15_o4 : List AJ := [.o ⟨(some 12), none, false, .load 2 true (.t 3), none⟩, .o ⟨none, none, false, .store 2 (.t 2) (.t 12), (some [2])⟩]
def k15_5 : ACode := .seq (.region k15_o4) .ret
def k15_6 : ACode := .seq (.region k15_o3) k15_5
def k15_7 : ACode := .seq (.region k15_o2) k15_6
def k15_8 : ACode := .seq (.region k15_o1) k15_7
def k15_9 : ACode := .seq (.region k15_o0) k15_8
@[simp, simp ↓] theorem k15_5r : sR k15_5 k15_o4 .ret := yR rfl
@[simp, simp ↓] theorem k15_6r : sR k15_6 k15_o3 k15_5 := yR rfl
@[simp, simp ↓] theorem k15_7r : sR k15_7 k15_o2 k15_6 := yR rfl
@[simp, simp ↓] theorem k15_8r : sR k15_8 k15_o1 k15_7 := yR rfl
@[simp, simp ↓] theorem k15_9r : sR k15_9 k15_o0 k15_8 := yR rfl
noncomputable abbrev k15_C : Orc → Cx := mkC Try.prog [2, 3] 15 13 [.cell 2 2 true]
theorem k15_of : OfP Try.prog Try.f15 15 13 k15_C k15_9 := @ofP _ _ _ _ _ _ _ _ Try.func15 (by decide +kernel) rfl (by kernel_rfl) rfl (by kernel_rfl)
theorem Fil.lens {x : Fil} (hl : x.tot ≤ 1048576) : ssTot x.rs ≤ 1048576 ∧ x.ts.length ≤ 1048576 := by unfold Fil.tot at hl; omega
theorem toFil_c (x : Fil) (h : Heap) (hl : x.tot ≤ 1048576) : ACalls Try.prog 15 [x.av] h (fun v h' => v = x.av ∧ h' = h) := by
  obtain ⟨hl1, hl2⟩ := x.lens hl
  refine k15_of rfl orcL_p fun I => ?_
  refine Run2.of I 1000 ?_
  simp -implicitDefEqProofs
  intro a ha b hb1 hb2
  refine gK.go ?_
  simp -implicitDefEqProofs [hb1]
  refine (toCx_c x.rs _ hl1).mono ?_
  rintro v h' ⟨rfl, rfl⟩
  refine gK.go ?_
  simp -implicitDefEqProofs [hb1, hl2]
  refine .drop b (.drop a (.base ?_))
  simp -implicitDefEqProofs [hb1]
theorem toFil_o (x : Fil) (h : Heap) (hl : x.tot ≤ 1048576) : ACalls Try.prog 15 [x.av] h (fun v h' => ∃ h1, OwnFil v x h1 ∧ (∀ i ∈ dom h1, i ∉ dom h) ∧ h' = h1 ++ h) := by
  obtain ⟨hl1, hl2⟩ := x.lens hl
  refine ACalls.permR ?_
  refine k15_of rfl noPure fun I => ?_
  refine Run2.of I 1000 ?_
  simp -implicitDefEqProofs
  intro a ha b hb1 hb2
  refine gK.go ?_
  simp -implicitDefEqProofs [hb1]
  refine (toCx_o x.rs _ hl1).mono ?_
  rintro u h' ⟨h1, ⟨u, rfl, o⟩, hd, rfl⟩
  have hcell := o.cell
  have hst := stor_of hcell
  have hcl := cells_of hcell
  have hd1 : ∀ i ∈ dom h1, i ≠ b ∧ i ≠ a ∧ i ∉ dom h := fun i hi => by
    have := hd i hi
    simpa [dom] using this
  have hA : a ∉ dom h1 := fun hm => (hd1 a hm).2.1 rfl
  have hB : b ∉ dom h1 := fun hm => (hd1 b hm).1 rfl
  have gA : ∀ z, hget (h1 ++ z) a = hget z a := fun z => hget_app hA
  have gB : ∀ z, hget (h1 ++ z) b = hget z b := fun z => hget_app hB
  have sA : ∀ z c, hset (h1 ++ z) a c = h1 ++ hset z a c := fun z c => hset_app hA
  have sB : ∀ z c, hset (h1 ++ z) b c = h1 ++ hset z b c := fun z c => hset_app hB
  refine gK.go ?_
  simp -implicitDefEqProofs [hb1, hcell, hst, hcl, gA, gB, sA, sB]
  refine (toInt64S_o x.ts _ hl2).mono ?_
  rintro w h' ⟨h2, o2, hd2, rfl⟩
  have hcell2 := o2.cell
  have hst2 := stor_of hcell2
  have hcl2 := cells_of hcell2
  have hd3 : ∀ i ∈ dom h2, i ∉ dom h1 ∧ i ≠ b ∧ i ≠ a ∧ i ∉ dom h := fun i hi => by
    have := hd2 i hi
    simpa [dom] using this
  have hA2 : a ∉ dom h2 := fun hm => (hd3 a hm).2.2.1 rfl
  have hB2 : b ∉ dom h2 := fun hm => (hd3 b hm).2.1 rfl
  have gA2 : ∀ z, hget (h2 ++ z) a = hget z a := fun z => hget_app hA2
  have gB2 : ∀ z, hget (h2 ++ z) b = hget z b := fun z => hget_app hB2
  have sA2 : ∀ z c, hset (h2 ++ z) a c = h2 ++ hset z a c := fun z c => hset_app hA2
  have sB2 : ∀ z c, hset (h2 ++ z) b c = h2 ++ hset z b c := fun z c => hset_app hB2
  refine gK.go ?_
  simp -implicitDefEqProofs [hb1, hcell, hst, hcl, gA, gB, sA, sB, hst2, hcl2, gA2, gB2, sA2, sB2, hcell2]
  refine .drop b (.drop a (.base ?_))
  rw [hdel_app hB2, hdel_app hB, hdel_app hA2, hdel_app hA]
  intro _
  refine ⟨(h1 ++ h2) ++ h, ?_, h1 ++ h2, ⟨_, _, h1, h2, rfl, o, o2, fun i hi hi2 => (hd3 i hi2).1 hi, rfl⟩, fun i hi => ?_, rfl⟩
  · simp [hdel, hb1]
    rw [← List.append_assoc, ← List.append_assoc]
    exact List.perm_append_comm.append_right h
  · rw [dom_append, List.mem_append] at hi
    rcases hi with hi | hi
    · exact (hd1 i hi).2.2
    · exact (hd3 i hi).2.2.2
abbrev k13_o0 : List AJ := [.o ⟨(some 2), none, false, .box false 2 (.t 0), none⟩, .o ⟨(some 4), none, false, .mv (.c (.int .i64 0)), (some [1, 2])⟩]
abbrev k13_o1 : List AJ := [.o ⟨(some 5), none, false, .fieldA 0 (.t 2), none⟩, .o ⟨(some 6), none, false, .load 1 true (.t 5), none⟩, .o ⟨(some 7), none, false, .mv (.t 1), none⟩, .o ⟨(some 8), none, false, .call 32 [(.t 6), (.t 7)], none⟩, .o ⟨(some 1), none, false, .mv (.t 8), (some [1, 2])⟩]
abbrev k13_o2 : List AJ := [.o ⟨(some 9), none, false, .mv (.t 1), none⟩, .o ⟨(some 10), none, false, .bin .lss (.t 9) (.c (.int .i64 0)), (some [1, 2, 10])⟩]
abbrev k13_o3 : List AJ := [.o ⟨(some 4), none, false, .mv (.c (.int .i64 (-1))), (some [4])⟩]
def k13_4 : ACode := .seq (.region k13_o3) .ret
def k13_5 : ACode := .cond (.t 10) k13_4 .skip
def k13_6 : ACode := .seq (.region k13_o2) k13_5
abbrev k13_o4 : List AJ := [.o ⟨(some 11), none, false, .fieldA 1 (.t 2), none⟩, .o ⟨(some 12), none, false, .load 1 false (.t 11), none⟩, .o ⟨(some 13), none, false, .mv (.t 1), none⟩, .o ⟨(some 14), none, false, .call 52 [(.t 12), (.t 13)], none⟩, .o ⟨(some 1), none, false, .mv (.t 14), (some [1])⟩]
abbrev k13_o5 : List AJ := [.o ⟨(some 15), none, false, .mv (.t 1), none⟩, .o ⟨(some 16), none, false, .bin .lss (.t 15) (.c (.int .i64 0)), (some [1, 16])⟩]
abbrev k13_o6 : List AJ := [.o ⟨(some 4), none, false, .mv (.c (.int .i64 (-1))), (some [4])⟩]
def k13_10 : ACode := .seq (.region k13_o6) .ret
def k13_11 : ACode := .cond (.t 16) k13_10 .skip
def k13_12 : ACode := .seq (.region k13_o5) k13_11
abbrev k13_o7 : List AJ := [.o ⟨(some 17), none, false, .mv (.t 1), none⟩, .o ⟨(some 4), none, false, .mv (.t 17), (some [4])⟩]
def k13_14 : ACode := .seq (.region k13_o7) .ret
def k13_15 : ACode := .seq k13_12 k13_14
def k13_16 : ACode := .seq (.region k13_o4) k13_15
def k13_17 : ACode := .seq k13_6 k13_16
def k13_18 : ACode := .seq (.region k13_o1) k13_17
def k13_19 : ACode := .seq (.region k13_o0) k13_18
@[simp, simp ↓] theorem k13_4r : sR k13_4 k13_o3 .ret := yR rfl
@[simp, simp ↓] theorem k13_5r : rC k13_5 (.t 10) k13_4 .skip := zC rfl
@[simp, simp ↓] theorem k13_6r : sR k13_6 k13_o2 k13_5 := yR rfl
@[simp, simp ↓] theorem k13_10r : sR k13_10 k13_o6 .ret := yR rfl
@[simp, simp ↓] theorem k13_11r : rC k13_11 (.t 16) k13_10 .skip := zC rfl
@[simp, simp ↓] theorem k13_12r : sR k13_12 k13_o5 k13_11 := yR rfl
@[simp, simp ↓] theorem k13_14r : sR k13_14 k13_o7 .ret := yR rfl
@[simp, simp ↓] theorem k13_15r : rS k13_15 k13_12 k13_14 := zS rfl
@[simp, simp ↓] theorem k13_16r : sR k13_16 k13_o4 k13_15 := yR rfl
@[simp, simp ↓] theorem k13_17r : rS k13_17 k13_6 k13_16 := zS rfl
@[simp, simp ↓] theorem k13_18r : sR k13_18 k13_o1 k13_17 := yR rfl
@[simp, simp ↓] theorem k13_19r : sR k13_19 k13_o0 k13_18 := yR rfl
noncomputable abbrev k13_C : Orc → Cx := mkC Try.prog [] 13 18 [.tmp 4]
theorem k13_of0 : OfP0 Try.prog Try.f13 13 18 k13_C k13_19 := @ofP0 _ _ _ _ _ _ _ _ Try.func13 (by decide +kernel) rfl (by kernel_rfl) rfl (by kernel_rfl)
theorem szFil_c (x : Fil) (n : Int) (h : Heap) (hn : 0 ≤ n ∧ n ≤ 1048576) (hw : x.wf) : ACalls Try.prog 13 [x.av, .int .i64 n] h (fun v h' => v = .int .i64 (if n < x.tot then -1 else n - x.tot) ∧ h' = h) := by
  have hw2 := hw.2.2
  refine k13_of0 rfl noPure fun I => ?_
  refine Run2.of I 1000 ?_
  simp -implicitDefEqProofs
  refine (szCx_c x.rs n h hn hw.1).mono ?_
  rintro v h' ⟨rfl, rfl⟩
  have e : (x.tot : Int) = ssTot x.rs + x.ts.length := by unfold Fil.tot; omega
  by_cases h1 : n < ssTot x.rs
  · refine gK.go ?_
    simp -implicitDefEqProofs [h1]
    omega
  · refine gK.go ?_
    simp -implicitDefEqProofs [h1]
    refine ⟨by omega, fun h2 => ?_⟩
    refine (szInt64S_c x.ts _ _ (by omega) hw2).mono ?_
    rintro v h' ⟨rfl, rfl⟩
    refine gK.go ?_
    simp -implicitDefEqProofs
    grind
abbrev k17_o0 : List AJ := [.o ⟨(some 2), none, false, .box false 2 (.t 0), none⟩, .o ⟨(some 3), none, false, .box false 2 (.t 1), none⟩, .o ⟨(some 4), none, false, .mv (.c (.bool false)), (some [2, 3])⟩]
abbrev k17_o1 : List AJ := [.o ⟨(some 5), none, false, .fieldA 0 (.t 2), none⟩, .o ⟨(some 6), none, false, .load 1 true (.t 5), none⟩, .o ⟨(some 7), none, false, .fieldA 0 (.t 3), none⟩, .o ⟨(some 8), none, false, .load 1 true (.t 7), none⟩, .o ⟨(some 9), none, false, .call 26 [(.t 6), (.t 8)], none⟩, .o ⟨(some 10), none, false, .un .not (.t 9), (some [2, 3, 10])⟩]
abbrev k17_o2 : List AJ := [.o ⟨(some 4), none, false, .mv (.c (.bool false)), (some [4])⟩]
def k17_3 : ACode := .seq (.region k17_o2) .ret
def k17_4 : ACode := .cond (.t 10) k17_3 .skip
def k17_5 : ACode := .seq (.region k17_o1) k17_4
abbrev k17_o3 : List AJ := [.o ⟨(some 11), none, false, .fieldA 1 (.t 2), none⟩, .o ⟨(some 12), none, false, .load 1 false (.t 11), none⟩, .o ⟨(some 13), none, false, .fieldA 1 (.t 3), none⟩, .o ⟨(some 14), none, false, .load 1 false (.t 13), none⟩, .o ⟨(some 15), none, false, .call 20 [(.t 12), (.t 14)], none⟩, .o ⟨(some 16), none, false, .un .not (.t 15), (some [16])⟩]
abbrev k17_o4 : List AJ := [.o ⟨(some 4), none, false, .mv (.c (.bool false)), (some [4])⟩]
def k17_8 : ACode := .seq (.region k17_o4) .ret
def k17_9 : ACode := .cond (.t 16) k17_8 .skip
def k17_10 : ACode := .seq (.region k17_o3) k17_9
abbrev k17_o5 : List AJ := [.o ⟨(some 4), none, false, .mv (.c (.bool true)), (some [4])⟩]
def k17_12 : ACode := .seq (.region k17_o5) .ret
def k17_13 : ACode := .seq k17_10 k17_12
def k17_14 : ACode := .seq k17_5 k17_13
def k17_15 : ACode := .seq (.region k17_o0) k17_14
@[simp, simp ↓] theorem k17_3r : sR k17_3 k17_o2 .ret := yR rfl
@[simp, simp ↓] theorem k17_4r : rC k17_4 (.t 10) k17_3 .skip := zC rfl
@[simp, simp ↓] theorem k17_5r : sR k17_5 k17_o1 k17_4 := yR rfl
@[simp, simp ↓] theorem k17_8r : sR k17_8 k17_o4 .ret := yR rfl
@[simp, simp ↓] theorem k17_9r : rC k17_9 (.t 16) k17_8 .skip := zC rfl
@[simp, simp ↓] theorem k17_10r : sR k17_10 k17_o3 k17_9 := yR rfl
@[simp, simp ↓] theorem k17_12r : sR k17_12 k17_o5 .ret := yR rfl
@[simp, simp ↓] theorem k17_13r : rS k17_13 k17_10 k17_12 := zS rfl
@[simp, simp ↓] theorem k17_14r : rS k17_14 k17_5 k17_13 := zS rfl
@[simp, simp ↓] theorem k17_15r : sR k17_15 k17_o0 k17_14 := yR rfl
noncomputable abbrev k17_C : Orc → Cx := mkC Try.prog [] 17 17 [.tmp 4]
theorem k17_of0 : OfP0 Try.prog Try.f17 17 17 k17_C k17_15 := @ofP0 _ _ _ _ _ _ _ _ Try.func17 (by decide +kernel) rfl (by kernel_rfl) rfl (by kernel_rfl)
theorem eqFil_c (x y : Fil) (h : Heap) (hl : x.tot ≤ 1048576) : ACalls Try.prog 17 [x.av, y.av] h (fun v h' => v = .bool (decide (x = y)) ∧ h' = h) := by
  obtain ⟨hl1, hl2⟩ := x.lens hl
  have hf := fit_of_tot hl1
  refine k17_of0 rfl orcL_p fun I => ?_
  cases x; cases y
  refine Run2.of I 1000 ?_
  simp -implicitDefEqProofs
  refine (eqCx_c _ _ _ hl1).mono ?_
  rintro v h' ⟨rfl, rfl⟩
  refine gK.go ?_
  simp -implicitDefEqProofs [hl2]
  grind
/-! ## In the laws: with other memory about -/
theorem eqFil_own {w u : AV} {x y : Fil} {g h : Heap} (o : OwnFil w x g) (hu : IsFil u y) (hs : ∀ p ∈ g, p ∈ h) (hl : x.tot ≤ 1048576) : ACalls Try.prog 17 [w, u] h (fun r h' => r = .bool (decide (x = y)) ∧ h' = h) := by
  refine ACalls.reads g hs ?_ rfl
  rw [lend_cons, lend_cons, lend_nil', lend1_cold g hu.cold]
  exact ACalls.wk (.cons (o.lent o.nodup).wk (.cons hu.wk .nil)) (eqFil_c x y [] hl)
theorem eqCx_own {w u : AV} {x y : List (List Int)} {g h : Heap} (o : OwnCx w x g) (hu : IsCx u y) (hs : ∀ p ∈ g, p ∈ h) (hl : ssTot x ≤ 1048576) : ACalls Try.prog 26 [w, u] h (fun r h' => r = .bool (decide (x = y)) ∧ h' = h) := by
  refine ACalls.reads g hs ?_ rfl
  rw [lend_cons, lend_cons, lend_nil', lend1_cold g hu.cold]
  exact ACalls.wk (.cons o.lent.wk (.cons hu.wk .nil)) (eqCx_c x y [] hl)
/-! ## Marks -/
abbrev k27_o0 : List AJ := [.o ⟨(some 2), none, false, .box false 1 (.t 0), none⟩, .o ⟨(some 4), none, false, .mv (.c (.int .i64 0)), (some [1, 2])⟩]
abbrev k27_o1 : List AJ := [.o ⟨(some 5), none, false, .fieldA 0 (.t 2), none⟩, .o ⟨(some 6), none, false, .load 1 false (.t 5), none⟩, .o ⟨(some 7), none, false, .mv (.t 1), none⟩, .o ⟨(some 8), none, false, .call 46 [(.t 6), (.t 7)], none⟩, .o ⟨(some 1), none, false, .mv (.t 8), (some [1])⟩]
abbrev k27_o2 : List AJ := [.o ⟨(some 9), none, false, .mv (.t 1), none⟩, .o ⟨(some 4), none, false, .mv (.t 9), (some [4])⟩]
def k27_3 : ACode := .seq (.region k27_o2) .ret
def k27_4 : ACode := .seq (.region k27_o1) k27_3
def k27_5 : ACode := .seq (.region k27_o0) k27_4
@[simp, simp ↓] theorem k27_3r : sR k27_3 k27_o2 .ret := yR rfl
@[simp, simp ↓] theorem k27_4r : sR k27_4 k27_o1 k27_3 := yR rfl
@[simp, simp ↓] theorem k27_5r : sR k27_5 k27_o0 k27_4 := yR rfl
noncomputable abbrev k27_C : Orc → Cx := mkC Try.prog [] 27 10 [.tmp 4]
theorem k27_of0 : OfP0 Try.prog Try.f27 27 10 k27_C k27_5 := @ofP0 _ _ _ _ _ _ _ _ Try.func27 (by decide +kernel) rfl (by kernel_rfl) rfl (by kernel_rfl)
theorem markCx_o {v : AV} {rs : List (List Int)} {hs : Heap} (ho : OwnCx v rs hs) (k : Int) (hk : 0 ≤ k ∧ k ≤ 1073741824) (hl : ssTot rs ≤ 1048576) : ACalls Try.prog 27 [v, .int .i64 k] hs (fun r h' => r = .int .i64 (k + sumL rs) ∧ OwnCx v (marksL k rs) h') := by
  obtain ⟨u, rfl, hu⟩ := ho
  have hc := hu.cell
  refine k27_of0 rfl noPure fun I => ?_
  refine Run2.of I 1000 ?_
  simp -implicitDefEqProofs [hc]
  refine (markInt64SS_o hu k hk hl).mono ?_
  rintro r h' ⟨rfl, hu'⟩
  refine gK.go ?_
  simp -implicitDefEqProofs
  exact ⟨_, rfl, hu'⟩
abbrev k28_o0 : List AJ := [.o ⟨(some 2), none, false, .box false 1 (.t 0), none⟩, .o ⟨(some 4), none, false, .mv (.c (.int .i64 0)), (some [1, 2])⟩]
abbrev k28_o1 : List AJ := [.o ⟨(some 5), none, false, .fieldA 0 (.t 2), none⟩, .o ⟨(some 6), none, false, .load 1 false (.t 5), none⟩, .o ⟨(some 7), none, false, .mv (.t 1), none⟩, .o ⟨(some 8), none, false, .call 47 [(.t 6), (.t 7)], none⟩, .o ⟨(some 1), none, false, .mv (.t 8), (some [1])⟩]
abbrev k28_o2 : List AJ := [.o ⟨(some 9), none, false, .mv (.t 1), none⟩, .o ⟨(some 10), none, false, .bin .lss (.t 9) (.c (.int .i64 0)), (some [1, 10])⟩]
abbrev k28_o3 : List AJ := [.o ⟨(some 4), none, false, .mv (.c (.int .i64 (-1))), (some [4])⟩]
def k28_4 : ACode := .seq (.region k28_o3) .ret
def k28_5 : ACode := .cond (.t 10) k28_4 .skip
def k28_6 : ACode := .seq (.region k28_o2) k28_5
abbrev k28_o4 : List AJ := [.o ⟨(some 11), none, false, .mv (.t 1), none⟩, .o ⟨(some 4), none, false, .mv (.t 11), (some [4])⟩]
def k28_8 : ACode := .seq (.region k28_o4) .ret
def k28_9 : ACode := .seq k28_6 k28_8
def k28_10 : ACode := .seq (.region k28_o1) k28_9
def k28_11 : ACode := .seq (.region k28_o0) k28_10
@[simp, simp ↓] theorem k28_4r : sR k28_4 k28_o3 .ret := yR rfl
@[simp, simp ↓] theorem k28_5r : rC k28_5 (.t 10) k28_4 .skip := zC rfl
@[simp, simp ↓] theorem k28_6r : sR k28_6 k28_o2 k28_5 := yR rfl
@[simp, simp ↓] theorem k28_8r : sR k28_8 k28_o4 .ret := yR rfl
@[simp, simp ↓] theorem k28_9r : rS k28_9 k28_6 k28_8 := zS rfl
@[simp, simp ↓] theorem k28_10r : sR k28_10 k28_o1 k28_9 := yR rfl
@[simp, simp ↓] theorem k28_11r : sR k28_11 k28_o0 k28_10 := yR rfl
noncomputable abbrev k28_C : Orc → Cx := mkC Try.prog [] 28 12 [.tmp 4]
theorem k28_of0 : OfP0 Try.prog Try.f28 28 12 k28_C k28_11 := @ofP0 _ _ _ _ _ _ _ _ Try.func28 (by decide +kernel) rfl (by kernel_rfl) rfl (by kernel_rfl)
theorem heldCx_s (rs : List (List Int)) (k : Int) (h : Heap) (hk : 0 ≤ k ∧ k ≤ 1073741824) (hl : ssTot rs ≤ 1048576) : ACalls Try.prog 28 [cx rs, .int .i64 k] h (fun v h' => v = .int .i64 (if rs = marksL k rs then k + sumL rs else -1) ∧ h' = h) := by
  refine k28_of0 rfl noPure fun I => ?_
  refine Run2.of I 1000 ?_
  simp -implicitDefEqProofs
  refine (heldInt64SS_s rs k h hk hl).mono ?_
  rintro r h' ⟨rfl, rfl⟩
  refine gK.go ?_
  simp -implicitDefEqProofs
  grind
abbrev k21_o0 : List AJ := [.o ⟨(some 2), none, false, .box false 2 (.t 0), none⟩, .o ⟨(some 4), none, false, .mv (.c (.int .i64 0)), (some [1, 2])⟩]
abbrev k21_o1 : List AJ := [.o ⟨(some 5), none, false, .fieldA 0 (.t 2), none⟩, .o ⟨(some 6), none, false, .load 1 true (.t 5), none⟩, .o ⟨(some 7), none, false, .mv (.t 1), none⟩, .o ⟨(some 8), none, false, .call 27 [(.t 6), (.t 7)], none⟩, .o ⟨(some 1), none, false, .mv (.t 8), (some [1, 2])⟩]
abbrev k21_o2 : List AJ := [.o ⟨(some 9), none, false, .fieldA 1 (.t 2), none⟩, .o ⟨(some 10), none, false, .load 1 false (.t 9), none⟩, .o ⟨(some 11), none, false, .mv (.t 1), none⟩, .o ⟨(some 12), none, false, .call 22 [(.t 10), (.t 11)], none⟩, .o ⟨(some 1), none, false, .mv (.t 12), (some [1])⟩]
abbrev k21_o3 : List AJ := [.o ⟨(some 13), none, false, .mv (.t 1), none⟩, .o ⟨(some 4), none, false, .mv (.t 13), (some [4])⟩]
def k21_4 : ACode := .seq (.region k21_o3) .ret
def k21_5 : ACode := .seq (.region k21_o2) k21_4
def k21_6 : ACode := .seq (.region k21_o1) k21_5
def k21_7 : ACode := .seq (.region k21_o0) k21_6
@[simp, simp ↓] theorem k21_4r : sR k21_4 k21_o3 .ret := yR rfl
@[simp, simp ↓] theorem k21_5r : sR k21_5 k21_o2 k21_4 := yR rfl
@[simp, simp ↓] theorem k21_6r : sR k21_6 k21_o1 k21_5 := yR rfl
@[simp, simp ↓] theorem k21_7r : sR k21_7 k21_o0 k21_6 := yR rfl
noncomputable abbrev k21_C : Orc → Cx := mkC Try.prog [] 21 14 [.tmp 4]
theorem k21_of0 : OfP0 Try.prog Try.f21 21 14 k21_C k21_7 := @ofP0 _ _ _ _ _ _ _ _ Try.func21 (by decide +kernel) rfl (by kernel_rfl) rfl (by kernel_rfl)
def Fil.cnt (x : Fil) : Nat := sumL x.rs + x.ts.length
def marksF (k : Int) (x : Fil) : Fil := ⟨marksL k x.rs, marks (k + sumL x.rs) x.ts.length⟩
theorem Fil.cnt_le (x : Fil) : x.cnt ≤ x.tot := by unfold Fil.cnt Fil.tot ssTot; omega
@[simp] theorem marksF_tot (k : Int) (x : Fil) : (marksF k x).tot = x.tot := by simp [marksF, Fil.tot]
@[simp] theorem marksF_cnt (k : Int) (x : Fil) : (marksF k x).cnt = x.cnt := by simp [marksF, Fil.cnt]
@[simp] theorem marksF_marksF (k : Int) (x : Fil) : marksF k (marksF k x) = marksF k x := by simp [marksF]
theorem markFil_o {v : AV} {x : Fil} {hs : Heap} (ho : OwnFil v x hs) (k : Int) (hk : 0 ≤ k ∧ k ≤ 1073741824) (hl : x.tot ≤ 1048576) : ACalls Try.prog 21 [v, .int .i64 k] hs (fun r h' => r = .int .i64 (k + x.cnt) ∧ OwnFil v (marksF k x) h') := by
  obtain ⟨hl1, hl2⟩ := x.lens hl
  obtain ⟨u, w, h1, h2, rfl, hu, hw, hd, rfl⟩ := ho
  have hc := hu.cell
  have hc2 := hw.cell
  have htot : sumL x.rs ≤ 1048576 := by unfold ssTot at hl1; omega
  refine ACalls.permR ?_
  refine k21_of0 rfl noPure fun I => ?_
  refine Run2.of I 1000 ?_
  simp -implicitDefEqProofs [hc, hc2]
  refine (ACalls.frame h1 [] h2 hu.nodup (fun p hp => List.mem_append_left _ hp) (by simp) (fun p hp => ⟨List.mem_append_right _ hp, fun hm => hd _ hm (List.mem_map.2 ⟨p, hp, rfl⟩)⟩) (fun nd => by rw [dom_append] at nd; exact (List.nodup_append.1 nd).2.1) (S := fun r h' => r = .int .i64 (k + sumL x.rs) ∧ OwnCx (.agg [u]) (marksL k x.rs) h') (by simpa [lend] using markCx_o ⟨u, rfl, hu⟩ k hk hl1) (fun v h' e => by obtain ⟨rfl, e⟩ := e; exact ⟨rfl, e.own.2⟩)).monoN ?_
  rintro v h' ⟨g', ⟨rfl, u', e, og⟩, hdg, rfl⟩ nd
  simp only [AV.agg.injEq, List.cons.injEq, and_true] at e
  subst e
  refine gK.go ?_
  simp -implicitDefEqProofs [hc, hc2]
  refine (markI_keep hw g' (fun p hp => List.mem_append_right _ hp) (fun p hp => ⟨List.mem_append_left _ hp, fun hm => ?_⟩) (fun nd => by rw [dom_append] at nd; exact (List.nodup_append.1 nd).1) (k + sumL x.rs) (by omega) (by omega)).monoN ?_
  · rw [dom_append] at nd
    exact (List.nodup_append.1 nd).2.2 _ (List.mem_map.2 ⟨p, hp, rfl⟩) _ hm rfl
  rintro v h' ⟨g2, rfl, og2, rfl⟩ nd2
  refine gK.go ?_
  simp -implicitDefEqProofs
  intro _
  refine ⟨g' ++ g2, List.perm_append_comm, by simp [Fil.cnt, Int.add_assoc], _, _, g', g2, rfl, og, og2, fun i hi hi2 => ?_, rfl⟩
  rw [dom_append] at nd2
  exact (List.nodup_append.1 nd2).2.2 _ hi2 _ hi rfl
abbrev k31_o0 : List AJ := [.o ⟨(some 2), none, false, .box false 2 (.t 0), none⟩, .o ⟨(some 4), none, false, .mv (.c (.int .i64 0)), (some [1, 2])⟩]
abbrev k31_o1 : List AJ := [.o ⟨(some 5), none, false, .fieldA 0 (.t 2), none⟩, .o ⟨(some 6), none, false, .load 1 true (.t 5), none⟩, .o ⟨(some 7), none, false, .mv (.t 1), none⟩, .o ⟨(some 8), none, false, .call 28 [(.t 6), (.t 7)], none⟩, .o ⟨(some 1), none, false, .mv (.t 8), (some [1, 2])⟩]
abbrev k31_o2 : List AJ := [.o ⟨(some 9), none, false, .mv (.t 1), none⟩, .o ⟨(some 10), none, false, .bin .lss (.t 9) (.c (.int .i64 0)), (some [1, 2, 10])⟩]
abbrev k31_o3 : List AJ := [.o ⟨(some 4), none, false, .mv (.c (.int .i64 (-1))), (some [4])⟩]
def k31_4 : ACode := .seq (.region k31_o3) .ret
def k31_5 : ACode := .cond (.t 10) k31_4 .skip
def k31_6 : ACode := .seq (.region k31_o2) k31_5
abbrev k31_o4 : List AJ := [.o ⟨(some 11), none, false, .fieldA 1 (.t 2), none⟩, .o ⟨(some 12), none, false, .load 1 false (.t 11), none⟩, .o ⟨(some 13), none, false, .mv (.t 1), none⟩, .o ⟨(some 14), none, false, .call 23 [(.t 12), (.t 13)], none⟩, .o ⟨(some 1), none, false, .mv (.t 14), (some [1])⟩]
abbrev k31_o5 : List AJ := [.o ⟨(some 15), none, false, .mv (.t 1), none⟩, .o ⟨(some 16), none, false, .bin .lss (.t 15) (.c (.int .i64 0)), (some [1, 16])⟩]
abbrev k31_o6 : List AJ := [.o ⟨(some 4), none, false, .mv (.c (.int .i64 (-1))), (some [4])⟩]
def k31_10 : ACode := .seq (.region k31_o6) .ret
def k31_11 : ACode := .cond (.t 16) k31_10 .skip
def k31_12 : ACode := .seq (.region k31_o5) k31_11
abbrev k31_o7 : List AJ := [.o ⟨(some 17), none, false, .mv (.t 1), none⟩, .o ⟨(some 4), none, false, .mv (.t 17), (some [4])⟩]
def k31_14 : ACode := .seq (.region k31_o7) .ret
def k31_15 : ACode := .seq k31_12 k31_14
def k31_16 : ACode := .seq (.region k31_o4) k31_15
def k31_17 : ACode := .seq k31_6 k31_16
def k31_18 : ACode := .seq (.region k31_o1) k31_17
def k31_19 : ACode := .seq (.region k31_o0) k31_18
@[simp, simp ↓] theorem k31_4r : sR k31_4 k31_o3 .ret := yR rfl
@[simp, simp ↓] theorem k31_5r : rC k31_5 (.t 10) k31_4 .skip := zC rfl
@[simp, simp ↓] theorem k31_6r : sR k31_6 k31_o2 k31_5 := yR rfl
@[simp, simp ↓] theorem k31_10r : sR k31_10 k31_o6 .ret := yR rfl
@[simp, simp ↓] theorem k31_11r : rC k31_11 (.t 16) k31_10 .skip := zC rfl
@[simp, simp ↓] theorem k31_12r : sR k31_12 k31_o5 k31_11 := yR rfl
@[simp, simp ↓] theorem k31_14r : sR k31_14 k31_o7 .ret := yR rfl
@[simp, simp ↓] theorem k31_15r : rS k31_15 k31_12 k31_14 := zS rfl
@[simp, simp ↓] theorem k31_16r : sR k31_16 k31_o4 k31_15 := yR rfl
@[simp, simp ↓] theorem k31_17r : rS k31_17 k31_6 k31_16 := zS rfl
@[simp, simp ↓] theorem k31_18r : sR k31_18 k31_o1 k31_17 := yR rfl
@[simp, simp ↓] theorem k31_19r : sR k31_19 k31_o0 k31_18 := yR rfl
noncomputable abbrev k31_C : Orc → Cx := mkC Try.prog [] 31 18 [.tmp 4]
theorem k31_of0 : OfP0 Try.prog Try.f31 31 18 k31_C k31_19 := @ofP0 _ _ _ _ _ _ _ _ Try.func31 (by decide +kernel) rfl (by kernel_rfl) rfl (by kernel_rfl)
theorem heldFil_s (x : Fil) (k : Int) (h : Heap) (hk : 0 ≤ k ∧ k ≤ 1073741824) (hl : x.tot ≤ 1048576) : ACalls Try.prog 31 [x.av, .int .i64 k] h (fun v h' => v = .int .i64 (if x = marksF k x then k + x.cnt else -1) ∧ h' = h) := by
  obtain ⟨hl1, hl2⟩ := x.lens hl
  have htot : sumL x.rs ≤ 1048576 := by unfold ssTot at hl1; omega
  refine k31_of0 rfl noPure fun I => ?_
  refine Run2.of I 1000 ?_
  simp -implicitDefEqProofs
  refine (heldCx_s x.rs k h hk hl1).mono ?_
  rintro r h' ⟨rfl, rfl⟩
  have e : x = marksF k x ↔ x.rs = marksL k x.rs ∧ x.ts = marks (k + sumL x.rs) x.ts.length := Fil.eq_iff _ _
  by_cases h1 : x.rs = marksL k x.rs
  · rw [if_pos h1]
    refine gK.go ?_
    simp -implicitDefEqProofs
    refine ⟨fun h => by omega, fun _ => ?_⟩
    refine (heldInt64S_s x.ts (k + sumL x.rs) h' (by omega) (by omega)).mono ?_
    rintro r h' ⟨rfl, rfl⟩
    by_cases h2 : x.ts = marks (k + sumL x.rs) x.ts.length
    · rw [if_pos h2]
      have e2 := e.2 ⟨h1, h2⟩
      have hz : ¬ (k + sumL x.rs + x.ts.length < 0) := by omega
      refine gK.go ?_
      simp -implicitDefEqProofs [hz]
      rw [if_pos e2]; unfold Fil.cnt; omega
    · rw [if_neg h2]
      have e2 : ¬ x = marksF k x := fun h => h2 (e.1 h).2
      refine gK.go ?_
      simp -implicitDefEqProofs [e2]
  · rw [if_neg h1]
    have e2 : ¬ x = marksF k x := fun h => h1 (e.1 h).1
    refine gK.go ?_
    simp -implicitDefEqProofs [e2]
theorem heldFil_own {w : AV} {l : Fil} {g h : Heap} (o : OwnFil w l g) (hs : ∀ p ∈ g, p ∈ h) (k : Int) (hk : 0 ≤ k ∧ k ≤ 1073741824) (hl : l.tot ≤ 1048576) : ACalls Try.prog 31 [w, .int .i64 k] h (fun r h' => r = .int .i64 (if l = marksF k l then k + l.cnt else -1) ∧ h' = h) := by
  refine ACalls.reads g hs ?_ rfl
  rw [lend_cons, lend_cons, lend_nil', lend1_cold g (x := .int .i64 k) rfl]
  exact ACalls.wk (.cons (o.lent o.nodup).wk (.refl _)) (heldFil_s l k [] hk hl)
theorem heldCx_own {w : AV} {l : List (List Int)} {g h : Heap} (o : OwnCx w l g) (hs : ∀ p ∈ g, p ∈ h) (k : Int) (hk : 0 ≤ k ∧ k ≤ 1073741824) (hl : ssTot l ≤ 1048576) : ACalls Try.prog 28 [w, .int .i64 k] h (fun r h' => r = .int .i64 (if l = marksL k l then k + sumL l else -1) ∧ h' = h) := by
  refine ACalls.reads g hs ?_ rfl
  rw [lend_cons, lend_cons, lend_nil', lend1_cold g (x := .int .i64 k) rfl]
  exact ACalls.wk (.cons o.lent.wk (.refl _)) (heldCx_s l k [] hk hl)
theorem markFil_drop {w : AV} {l : Fil} {g h : Heap} (o : OwnFil w l g) (keep : Heap) (hs : ∀ p ∈ g, p ∈ h) (hk : ∀ p ∈ keep, p ∈ h ∧ p.1 ∉ dom g) (nk : (dom h).Nodup → (dom keep).Nodup) (k : Int) (hk1 : 0 ≤ k ∧ k ≤ 1073741824) (hl : l.tot ≤ 1048576) : ACalls Try.prog 21 [w, .int .i64 k] h (fun r h' => r = .int .i64 (k + l.cnt) ∧ h' = keep) :=
  ACalls.marks g keep o.nodup hs hk nk (S := fun h' => OwnFil w (marksF k l) h') (markFil_o o k hk1 hl) ⟨rfl, fun h' ho => ho.own.2⟩
theorem markFil_keep {w : AV} {l : Fil} {g h : Heap} (o : OwnFil w l g) (keep : Heap) (hs : ∀ p ∈ g, p ∈ h) (hk : ∀ p ∈ keep, p ∈ h ∧ p.1 ∉ dom g) (nk : (dom h).Nodup → (dom keep).Nodup) (k : Int) (hk1 : 0 ≤ k ∧ k ≤ 1073741824) (hl : l.tot ≤ 1048576) : ACalls Try.prog 21 [w, .int .i64 k] h (fun r h' => ∃ g', r = .int .i64 (k + l.cnt) ∧ OwnFil w (marksF k l) g' ∧ h' = g' ++ keep) :=
  (ACalls.frame g [] keep o.nodup hs (by simp) hk nk (S := fun v h' => v = .int .i64 (k + l.cnt) ∧ OwnFil w (marksF k l) h') (by simpa [lend] using markFil_o o k hk1 hl) (fun v h' e => by obtain ⟨rfl, e⟩ := e; exact ⟨rfl, e.own.2⟩)).mono fun v h' ⟨g', ⟨e1, e2⟩, _, e3⟩ => ⟨g', e1, e2, e3⟩
theorem markCx_drop {w : AV} {l : List (List Int)} {g h : Heap} (o : OwnCx w l g) (keep : Heap) (hs : ∀ p ∈ g, p ∈ h) (hk : ∀ p ∈ keep, p ∈ h ∧ p.1 ∉ dom g) (nk : (dom h).Nodup → (dom keep).Nodup) (k : Int) (hk1 : 0 ≤ k ∧ k ≤ 1073741824) (hl : ssTot l ≤ 1048576) : ACalls Try.prog 27 [w, .int .i64 k] h (fun r h' => r = .int .i64 (k + sumL l) ∧ h' = keep) :=
  ACalls.marks g keep o.nodup hs hk nk (S := fun h' => OwnCx w (marksL k l) h') (markCx_o o k hk1 hl) ⟨rfl, fun h' ho => ho.own.2⟩
theorem markCx_keep {w : AV} {l : List (List Int)} {g h : Heap} (o : OwnCx w l g) (keep : Heap) (hs : ∀ p ∈ g, p ∈ h) (hk : ∀ p ∈ keep, p ∈ h ∧ p.1 ∉ dom g) (nk : (dom h).Nodup → (dom keep).Nodup) (k : Int) (hk1 : 0 ≤ k ∧ k ≤ 1073741824) (hl : ssTot l ≤ 1048576) : ACalls Try.prog 27 [w, .int .i64 k] h (fun r h' => ∃ g', r = .int .i64 (k + sumL l) ∧ OwnCx w (marksL k l) g' ∧ h' = g' ++ keep) :=
  (ACalls.frame g [] keep o.nodup hs (by simp) hk nk (S := fun v h' => v = .int .i64 (k + sumL l) ∧ OwnCx w (marksL k l) h') (by simpa [lend] using markCx_o o k hk1 hl) (fun v h' e => by obtain ⟨rfl, e⟩ := e; exact ⟨rfl, e.own.2⟩)).mono fun v h' ⟨g', ⟨e1, e2⟩, _, e3⟩ => ⟨g', e1, e2, e3⟩
end Go.AG
