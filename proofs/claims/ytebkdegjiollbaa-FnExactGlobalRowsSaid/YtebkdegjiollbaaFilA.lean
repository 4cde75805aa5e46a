/- Filtrations as data of the laws: how they are copied, compared, counted. No statement is made here. -/
import Derived.Test.YtebkdegjiollbaaFxT
import Derived.Test.YtebkdegjiollbaaISSM
import Derived.Test.YtebkdegjiollbaaAGLists2
namespace Go.AG
open Go.Proofs Go.Proofs.Ytebkdegjiollbaa
set_option linter.unusedSimpArgs false
set_option linter.unusedVariables false
set_option maxRecDepth 4000
@[simp] def Fil.av (x : Fil) : AV := .agg [.snap 1 (x.rs.map il), .snap 1 (x.ts.map iv)]
def Fil.wf (x : Fil) : Prop := wfSS x.rs ∧ wfI x.ts
def Fil.tot (x : Fil) : Nat := ssTot x.rs + x.ts.length
theorem Fil.ext' {x y : Fil} (h1 : x.rs = y.rs) (h2 : x.ts = y.ts) : x = y := by
  cases x; cases y; simp at h1 h2; simp [h1, h2]
theorem Fil.eq_iff (x y : Fil) : x = y ↔ x.rs = y.rs ∧ x.ts = y.ts := ⟨fun h => by rw [h]; exact ⟨rfl, rfl⟩, fun h => Fil.ext' h.1 h.2⟩
def tyF : Ty := .struct (.cons (.struct (.cons tySS .nil)) (.cons (.slice (.int .i64)) .nil))
theorem Fil_of_shape {x : AV} (h : shV tyF x) : ∃ p : Fil, x = p.av ∧ p.wf := by
  obtain ⟨h1, a1, b1, e1, ⟨a2, b2, rfl, ⟨xs, rfl, hlen, r3⟩, hb2⟩, a3, b3, rfl, ⟨ys, rfl, hlen2, r4⟩, h3⟩ := h
  have hm : maxLen ≤ 9223372036854775807 := by decide
  have h3' : b3 = [] := h3
  have hb2' : b2 = [] := hb2
  subst h3' hb2'
  obtain ⟨rs, rfl, hrs⟩ := Lists_list r3
  obtain ⟨ts, hts, hwt⟩ := Ints_of_shape (x := .snap 1 ys) ⟨rfl, ys, rfl, hlen2, r4⟩
  cases x <;> simp [isAgg, tyF, Ty.isS] at h1
  rename_i l
  refine ⟨⟨rs, ts⟩, ?_, ⟨⟨hrs, by simp only [List.length_map] at hlen; exact Nat.le_trans hlen hm⟩, hwt⟩⟩
  simp only [cellsOf] at e1
  rw [e1]
  simp only [AV.snap.injEq, true_and] at hts
  simp [Fil.av, hts, Ty.n]
/-- v is a complex in blocks of its own. -/
def OwnCx (v : AV) (rs : List (List Int)) (hp : Heap) : Prop := ∃ u, v = .agg [u] ∧ OwnLL u rs hp
def IsCx (v : AV) (rs : List (List Int)) : Prop := ∃ u, v = .agg [u] ∧ IsLL u rs
@[simp] def cx (rs : List (List Int)) : AV := .agg [.snap 1 (rs.map il)]
theorem IsCx.wk {v : AV} {rs : List (List Int)} (h : IsCx v rs) : Wk v (cx rs) := by
  obtain ⟨u, rfl, hu⟩ := h
  exact Wk.agg (.cons hu.wk .nil)
theorem IsCx.cold {v : AV} {rs : List (List Int)} (h : IsCx v rs) : Go.AG.cold v = true := by
  obtain ⟨u, rfl, hu⟩ := h
  simp [Go.AG.cold, colds, hu.cold]
theorem lend1_agg1 (L : Heap) (a : AV) : lend1 L (.agg [a]) = .agg [lend1 L a] := by
  induction L generalizing a with
  | nil => rfl
  | cons p L ih => simp only [lend1, fz, fzs]; exact ih _
theorem OwnCx.lentMid {v : AV} {rs : List (List Int)} {hp : Heap} (h : OwnCx v rs hp) {A B : Heap} (nd : (dom (A ++ (hp ++ B))).Nodup) : IsCx (lend1 (A ++ (hp ++ B)) v) rs := by
  obtain ⟨u, rfl, hu⟩ := h
  rw [lend1_agg1]
  exact ⟨_, rfl, hu.lentMid nd⟩
theorem OwnCx.nodup {v : AV} {rs : List (List Int)} {hp : Heap} (h : OwnCx v rs hp) : (dom hp).Nodup := by
  obtain ⟨u, rfl, hu⟩ := h
  exact hu.nodup
theorem OwnCx.lent {v : AV} {rs : List (List Int)} {hp : Heap} (h : OwnCx v rs hp) : IsCx (lend1 hp v) rs := by
  have := h.lentMid (A := []) (B := []) (by simpa using h.nodup)
  simpa using this
theorem OwnCx.own {v : AV} {rs : List (List Int)} {hp : Heap} (h : OwnCx v rs hp) : Go.AG.own v = true ∧ (hp.all fun p => p.2.l.all Go.AG.own) = true := by
  obtain ⟨u, rfl, hu⟩ := h
  exact ⟨by simp [Go.AG.own, owns, hu.own.1], hu.own.2⟩
theorem cx_is (rs : List (List Int)) : IsCx (cx rs) rs := ⟨_, rfl, .is _⟩
def tyCx : Ty := .struct (.cons tySS .nil)
theorem Cx_of_shape {x : AV} (h : shV tyCx x) : ∃ rs, x = cx rs ∧ wfSS rs := by
  obtain ⟨h1, a1, b1, e1, ⟨xs, rfl, hlen, r3⟩, h3⟩ := h
  have hm : maxLen ≤ 9223372036854775807 := by decide
  have h3' : b1 = [] := h3
  subst h3'
  obtain ⟨rs, rfl, hrs⟩ := Lists_list r3
  cases x <;> simp [isAgg, tyCx, Ty.isS] at h1
  rename_i l
  refine ⟨rs, ?_, ⟨hrs, by simp only [List.length_map] at hlen; exact Nat.le_trans hlen hm⟩⟩
  simp only [cellsOf] at e1
  rw [e1]; rfl
/-- v is a filtration in blocks of its own. -/
def OwnFil (v : AV) (x : Fil) (hp : Heap) : Prop := ∃ u w h1 h2, v = .agg [u, w] ∧ OwnLL u x.rs h1 ∧ OwnL iv 1 w x.ts h2 ∧ (∀ i ∈ dom h1, i ∉ dom h2) ∧ hp = h1 ++ h2
/-- v is a filtration that nobody writes. -/
def IsFil (v : AV) (x : Fil) : Prop := ∃ u w, v = .agg [u, w] ∧ IsLL u x.rs ∧ IsL iv 1 w x.ts
theorem IsFil.wk {v : AV} {x : Fil} (h : IsFil v x) : Wk v x.av := by
  obtain ⟨u, w, rfl, hu, hw⟩ := h
  exact Wk.agg (.cons hu.wk (.cons hw.wk .nil))
theorem IsFil.cold {v : AV} {x : Fil} (h : IsFil v x) : Go.AG.cold v = true := by
  obtain ⟨u, w, rfl, hu, hw⟩ := h
  simp [Go.AG.cold, colds, hu.cold, hw.cold cold_iv1]
theorem lend1_agg (L : Heap) (a u : AV) : lend1 L (.agg [a, u]) = .agg [lend1 L a, lend1 L u] := by
  induction L generalizing a u with
  | nil => rfl
  | cons p L ih => simp only [lend1, fz, fzs]; exact ih _ _
theorem OwnFil.lentMid {v : AV} {x : Fil} {hp : Heap} (h : OwnFil v x hp) {A B : Heap} (nd : (dom (A ++ (hp ++ B))).Nodup) : IsFil (lend1 (A ++ (hp ++ B)) v) x := by
  obtain ⟨u, w, h1, h2, rfl, hu, hw, hd, rfl⟩ := h
  rw [lend1_agg]
  refine ⟨_, _, rfl, ?_, hw.lentIn cold_iv1 (fun p hp => by simp [hp]) nd⟩
  have e : A ++ ((h1 ++ h2) ++ B) = A ++ (h1 ++ (h2 ++ B)) := by simp
  rw [e] at nd ⊢
  exact hu.lentMid nd
theorem OwnFil.lent {v : AV} {x : Fil} {hp : Heap} (h : OwnFil v x hp) (nd : (dom hp).Nodup) : IsFil (lend1 hp v) x := by
  have := h.lentMid (A := []) (B := []) (by simpa using nd)
  simpa using this
theorem OwnFil.own {v : AV} {x : Fil} {hp : Heap} (h : OwnFil v x hp) : Go.AG.own v = true ∧ (hp.all fun p => p.2.l.all Go.AG.own) = true := by
  obtain ⟨u, w, h1, h2, rfl, hu, hw, hd, rfl⟩ := h
  exact ⟨by simp [Go.AG.own, owns, hu.own.1, (hw.own own_iv1).1], by rw [List.all_append, hu.own.2, (hw.own own_iv1).2]; rfl⟩
theorem OwnFil.nodup {v : AV} {x : Fil} {hp : Heap} (h : OwnFil v x hp) : (dom hp).Nodup := by
  obtain ⟨u, w, h1, h2, rfl, hu, hw, hd, rfl⟩ := h
  rw [dom_append]
  exact List.nodup_append.2 ⟨hu.nodup, hw.nodup, fun a ha b hb e => hd a ha (e ▸ hb)⟩
theorem Fil.is (x : Fil) : IsFil x.av x := ⟨_, _, rfl, .is _, .snap _⟩
noncomputable def orcL : List (Nat × (List AV → Option (Prop × AV))) := (82, o_toInt64S) :: (26, o_eqInt64S) :: (38, o_toInt64SS) :: (36, o_szInt64SS) :: (12, o_eqInt64SS) :: []
theorem orcL_p : Pure Try.prog (lk orcL) := (lk_pure o_toInt64S_k (lk_pure o_eqInt64S_k (lk_pure o_toInt64SS_k (lk_pure o_szInt64SS_k (lk_pure o_eqInt64SS_k lk_pure0)))))
@[simp] theorem orcL_l (b : Bool) (g : FuncId) (l : List AV) : lk orcL b g l = if g = 82 then o_toInt64S l else if g = 26 then o_eqInt64S l else if g = 38 then o_toInt64SS l else if g = 36 then o_szInt64SS l else if g = 12 then o_eqInt64SS l else none := nr rfl
abbrev k19_o0 : List AJ := [.o ⟨(some 1), none, false, .box false 1 (.t 0), none⟩, .o ⟨(some 2), none, false, .alloc true 1 (.agg [.nilsl]), (some [1, 2])⟩]
abbrev k19_o1 : List AJ := [.o ⟨(some 3), none, false, .alloc true 1 (.agg [.nilsl]), (some [1, 2, 3])⟩]
abbrev k19_o2 : List AJ := [.o ⟨(some 4), none, false, .fieldA 0 (.t 1), none⟩, .o ⟨(some 5), none, false, .load 1 false (.t 4), none⟩, .o ⟨(some 6), none, false, .call 38 [(.t 5)], none⟩, .o ⟨(some 7), none, false, .fieldA 0 (.t 3), none⟩, .o ⟨none, none, false, .store 1 (.t 7) (.t 6), (some [2, 3])⟩]
abbrev k19_o3 : List AJ := [.o ⟨(some 8), none, false, .load 1 true (.t 3), none⟩, .o ⟨none, none, false, .store 1 (.t 2) (.t 8), (some [2])⟩]
def k19_4 : ACode := .seq (.region k19_o3) .ret
def k19_5 : ACode := .seq (.region k19_o2) k19_4
def k19_6 : ACode := .seq (.region k19_o1) k19_5
def k19_7 : ACode := .seq (.region k19_o0) k19_6
@[simp, simp ↓] theorem k19_4r : sR k19_4 k19_o3 .ret := yR rfl
@[simp, simp ↓] theorem k19_5r : sR k19_5 k19_o2 k19_4 := yR rfl
@[simp, simp ↓] theorem k19_6r : sR k19_6 k19_o1 k19_5 := yR rfl
@[simp, simp ↓] theorem k19_7r : sR k19_7 k19_o0 k19_6 := yR rfl
noncomputable abbrev k19_C : Orc → Cx := mkC Try.prog [2, 3] 19 9 [.cell 2 1 true]
theorem k19_of : OfP Try.prog Try.f19 19 9 k19_C k19_7 := @ofP _ _ _ _ _ _ _ _ Try.func19 (by decide +kernel) rfl (by kernel_rfl) rfl (by kernel_rfl)
theorem toCx_c (rs : List (List Int)) (h : Heap) (hl : ssTot rs ≤ 1048576) : ACalls Try.prog 19 [cx rs] h (fun v h' => v = cx rs ∧ h' = h) := by
  refine k19_of rfl noPure fun I => ?_
  refine Run2.of I 1000 ?_
  simp -implicitDefEqProofs
  intro a ha b hb1 hb2
  refine gK.go ?_
  simp -implicitDefEqProofs [hb1]
  refine (toInt64SS_t rs _ hl).mono ?_
  rintro v h' ⟨rfl, rfl⟩
  refine gK.go ?_
  simp -implicitDefEqProofs [hb1]
  refine .drop b (.drop a (.base ?_))
  simp -implicitDefEqProofs [hb1]
theorem toCx_o (rs : List (List Int)) (h : Heap) (hl : ssTot rs ≤ 1048576) : ACalls Try.prog 19 [cx rs] h (fun v h' => ∃ h1, OwnCx v rs h1 ∧ (∀ i ∈ dom h1, i ∉ dom h) ∧ h' = h1 ++ h) := by
  refine k19_of rfl noPure fun I => ?_
  refine Run2.of I 1000 ?_
  simp -implicitDefEqProofs
  intro a ha b hb1 hb2
  refine gK.go ?_
  simp -implicitDefEqProofs [hb1]
  refine (toInt64SS_n rs _ hl).mono ?_
  rintro u h' ⟨h1, o, hd, rfl⟩
  have hcell := o.cell
  have hst := stor_of hcell
  have hcl := cells_of hcell
  have hd1 : ∀ i ∈ dom h1, i ≠ b ∧ i ≠ a ∧ i ∉ dom h := fun i hi => by
    have := hd i hi
    simpa [dom] using this
  have hA : a ∉ dom h1 := fun hm => (hd1 a hm).2.1 rfl
  have hB : b ∉ dom h1 := fun hm => (hd1 b hm).1 rfl
  have gA : ∀ z, hget (h1 ++ z) a = hget z a := fun z => hget_app hA
  have gB : ∀ z, hget (h1 ++ z) b = hget z b := fun z => hget_app hB
  have sA : ∀ z c, hset (h1 ++ z) a c = h1 ++ hset z a c := fun z c => hset_app hA
  have sB : ∀ z c, hset (h1 ++ z) b c = h1 ++ hset z b c := fun z c => hset_app hB
  refine gK.go ?_
  simp -implicitDefEqProofs [hb1, hcell, hst, hcl, gA, gB, sA, sB]
  refine .drop b (.drop a (.base ?_))
  rw [hdel_app hB, hdel_app hA]
  refine ⟨h1, ⟨_, rfl, o⟩, fun i hi => (hd1 i hi).2.2, ?_⟩
  simp [hdel, hb1]
abbrev k17_o0 : List AJ := [.o ⟨(some 2), none, false, .box false 1 (.t 0), none⟩, .o ⟨(some 4), none, false, .mv (.c (.int .i64 0)), (some [1, 2])⟩]
abbrev k17_o1 : List AJ := [.o ⟨(some 5), none, false, .fieldA 0 (.t 2), none⟩, .o ⟨(some 6), none, false, .load 1 false (.t 5), none⟩, .o ⟨(some 7), none, false, .mv (.t 1), none⟩, .o ⟨(some 8), none, false, .call 36 [(.t 6), (.t 7)], none⟩, .o ⟨(some 1), none, false, .mv (.t 8), (some [1])⟩]
abbrev k17_o2 : List AJ := [.o ⟨(some 9), none, false, .mv (.t 1), none⟩, .o ⟨(some 10), none, false, .bin .lss (.t 9) (.c (.int .i64 0)), (some [1, 10])⟩]
abbrev k17_o3 : List AJ := [.o ⟨(some 4), none, false, .mv (.c (.int .i64 (-1))), (some [4])⟩]
def k17_4 : ACode := .seq (.region k17_o3) .ret
def k17_5 : ACode := .cond (.t 10) k17_4 .skip
def k17_6 : ACode := .seq (.region k17_o2) k17_5
abbrev k17_o4 : List AJ := [.o ⟨(some 11), none, false, .mv (.t 1), none⟩, .o ⟨(some 4), none, false, .mv (.t 11), (some [4])⟩]
def k17_8 : ACode := .seq (.region k17_o4) .ret
def k17_9 : ACode := .seq k17_6 k17_8
def k17_10 : ACode := .seq (.region k17_o1) k17_9
def k17_11 : ACode := .seq (.region k17_o0) k17_10
@[simp, simp ↓] theorem k17_4r : sR k17_4 k17_o3 .ret := yR rfl
@[simp, simp ↓] theorem k17_5r : rC k17_5 (.t 10) k17_4 .skip := zC rfl
@[simp, simp ↓] theorem k17_6r : sR k17_6 k17_o2 k17_5 := yR rfl
@[simp, simp ↓] theorem k17_8r : sR k17_8 k17_o4 .ret := yR rfl
@[simp, simp ↓] theorem k17_9r : rS k17_9 k17_6 k17_8 := zS rfl
@[simp, simp ↓] theorem k17_10r : sR k17_10 k17_o1 k17_9 := yR rfl
@[simp, simp ↓] theorem k17_11r : sR k17_11 k17_o0 k17_10 := yR rfl
noncomputable abbrev k17_C : Orc → Cx := mkC Try.prog [] 17 12 [.tmp 4]
theorem k17_of0 : OfP0 Try.prog Try.f17 17 12 k17_C k17_11 := @ofP0 _ _ _ _ _ _ _ _ Try.func17 (by decide +kernel) rfl (by kernel_rfl) rfl (by kernel_rfl)
theorem szCx_c (rs : List (List Int)) (n : Int) (h : Heap) (hn : 0 ≤ n ∧ n ≤ 1048576) (hw : wfSS rs) : ACalls Try.prog 17 [cx rs, .int .i64 n] h (fun v h' => v = .int .i64 (if n < ssTot rs then -1 else n - ssTot rs) ∧ h' = h) := by
  refine k17_of0 rfl orcL_p fun I => ?_
  refine Run2.of I 1000 ?_
  simp -implicitDefEqProofs [hn.1, hn.2, hw]
  grind
abbrev k21_o0 : List AJ := [.o ⟨(some 2), none, false, .box false 1 (.t 0), none⟩, .o ⟨(some 3), none, false, .box false 1 (.t 1), none⟩, .o ⟨(some 4), none, false, .mv (.c (.bool false)), (some [2, 3])⟩]
abbrev k21_o1 : List AJ := [.o ⟨(some 5), none, false, .fieldA 0 (.t 2), none⟩, .o ⟨(some 6), none, false, .load 1 false (.t 5), none⟩, .o ⟨(some 7), none, false, .fieldA 0 (.t 3), none⟩, .o ⟨(some 8), none, false, .load 1 false (.t 7), none⟩, .o ⟨(some 9), none, false, .call 12 [(.t 6), (.t 8)], none⟩, .o ⟨(some 10), none, false, .un .not (.t 9), (some [10])⟩]
abbrev k21_o2 : List AJ := [.o ⟨(some 4), none, false, .mv (.c (.bool false)), (some [4])⟩]
def k21_3 : ACode := .seq (.region k21_o2) .ret
def k21_4 : ACode := .cond (.t 10) k21_3 .skip
def k21_5 : ACode := .seq (.region k21_o1) k21_4
abbrev k21_o3 : List AJ := [.o ⟨(some 4), none, false, .mv (.c (.bool true)), (some [4])⟩]
def k21_7 : ACode := .seq (.region k21_o3) .ret
def k21_8 : ACode := .seq k21_5 k21_7
def k21_9 : ACode := .seq (.region k21_o0) k21_8
@[simp, simp ↓] theorem k21_3r : sR k21_3 k21_o2 .ret := yR rfl
@[simp, simp ↓] theorem k21_4r : rC k21_4 (.t 10) k21_3 .skip := zC rfl
@[simp, simp ↓] theorem k21_5r : sR k21_5 k21_o1 k21_4 := yR rfl
@[simp, simp ↓] theorem k21_7r : sR k21_7 k21_o3 .ret := yR rfl
@[simp, simp ↓] theorem k21_8r : rS k21_8 k21_5 k21_7 := zS rfl
@[simp, simp ↓] theorem k21_9r : sR k21_9 k21_o0 k21_8 := yR rfl
noncomputable abbrev k21_C : Orc → Cx := mkC Try.prog [] 21 11 [.tmp 4]
theorem k21_of0 : OfP0 Try.prog Try.f21 21 11 k21_C k21_9 := @ofP0 _ _ _ _ _ _ _ _ Try.func21 (by decide +kernel) rfl (by kernel_rfl) rfl (by kernel_rfl)
theorem eqCx_c (rs qs : List (List Int)) (h : Heap) (hl : ssTot rs ≤ 1048576) : ACalls Try.prog 21 [cx rs, cx qs] h (fun v h' => v = .bool (decide (rs = qs)) ∧ h' = h) := by
  have hf := fit_of_tot hl
  refine k21_of0 rfl orcL_p fun I => ?_
  refine Run2.of I 1000 ?_
  simp -implicitDefEqProofs [hf]
theorem Fil.lens {x : Fil} (hl : x.tot ≤ 1048576) : ssTot x.rs ≤ 1048576 ∧ x.ts.length ≤ 1048576 := by unfold Fil.tot at hl; omega
abbrev k40_o0 : List AJ := [.o ⟨(some 2), none, false, .box false 2 (.t 0), none⟩, .o ⟨(some 3), none, false, .box false 2 (.t 1), none⟩, .o ⟨(some 4), none, false, .mv (.c (.bool false)), (some [2, 3])⟩]
abbrev k40_o1 : List AJ := [.o ⟨(some 5), none, false, .fieldA 0 (.t 2), none⟩, .o ⟨(some 6), none, false, .load 1 true (.t 5), none⟩, .o ⟨(some 7), none, false, .fieldA 0 (.t 3), none⟩, .o ⟨(some 8), none, false, .load 1 true (.t 7), none⟩, .o ⟨(some 9), none, false, .call 21 [(.t 6), (.t 8)], none⟩, .o ⟨(some 10), none, false, .un .not (.t 9), (some [2, 3, 10])⟩]
abbrev k40_o2 : List AJ := [.o ⟨(some 4), none, false, .mv (.c (.bool false)), (some [4])⟩]
def k40_3 : ACode := .seq (.region k40_o2) .ret
def k40_4 : ACode := .cond (.t 10) k40_3 .skip
def k40_5 : ACode := .seq (.region k40_o1) k40_4
abbrev k40_o3 : List AJ := [.o ⟨(some 11), none, false, .fieldA 1 (.t 2), none⟩, .o ⟨(some 12), none, false, .load 1 false (.t 11), none⟩, .o ⟨(some 13), none, false, .fieldA 1 (.t 3), none⟩, .o ⟨(some 14), none, false, .load 1 false (.t 13), none⟩, .o ⟨(some 15), none, false, .call 26 [(.t 12), (.t 14)], none⟩, .o ⟨(some 16), none, false, .un .not (.t 15), (some [16])⟩]
abbrev k40_o4 : List AJ := [.o ⟨(some 4), none, false, .mv (.c (.bool false)), (some [4])⟩]
def k40_8 : ACode := .seq (.region k40_o4) .ret
def k40_9 : ACode := .cond (.t 16) k40_8 .skip
def k40_10 : ACode := .seq (.region k40_o3) k40_9
abbrev k40_o5 : List AJ := [.o ⟨(some 4), none, false, .mv (.c (.bool true)), (some [4])⟩]
def k40_12 : ACode := .seq (.region k40_o5) .ret
def k40_13 : ACode := .seq k40_10 k40_12
def k40_14 : ACode := .seq k40_5 k40_13
def k40_15 : ACode := .seq (.region k40_o0) k40_14
@[simp, simp ↓] theorem k40_3r : sR k40_3 k40_o2 .ret := yR rfl
@[simp, simp ↓] theorem k40_4r : rC k40_4 (.t 10) k40_3 .skip := zC rfl
@[simp, simp ↓] theorem k40_5r : sR k40_5 k40_o1 k40_4 := yR rfl
@[simp, simp ↓] theorem k40_8r : sR k40_8 k40_o4 .ret := yR rfl
@[simp, simp ↓] theorem k40_9r : rC k40_9 (.t 16) k40_8 .skip := zC rfl
@[simp, simp ↓] theorem k40_10r : sR k40_10 k40_o3 k40_9 := yR rfl
@[simp, simp ↓] theorem k40_12r : sR k40_12 k40_o5 .ret := yR rfl
@[simp, simp ↓] theorem k40_13r : rS k40_13 k40_10 k40_12 := zS rfl
@[simp, simp ↓] theorem k40_14r : rS k40_14 k40_5 k40_13 := zS rfl
@[simp, simp ↓] theorem k40_15r : sR k40_15 k40_o0 k40_14 := yR rfl
noncomputable abbrev k40_C : Orc → Cx := mkC Try.prog [] 40 17 [.tmp 4]
theorem k40_of0 : OfP0 Try.prog Try.f40 40 17 k40_C k40_15 := @ofP0 _ _ _ _ _ _ _ _ Try.func40 (by decide +kernel) rfl (by kernel_rfl) rfl (by kernel_rfl)
theorem eqFil_c (x y : Fil) (h : Heap) (hl : x.tot ≤ 1048576) : ACalls Try.prog 40 [x.av, y.av] h (fun v h' => v = .bool (decide (x = y)) ∧ h' = h) := by
  obtain ⟨hl1, hl2⟩ := x.lens hl
  have hf := fit_of_tot hl1
  refine k40_of0 rfl orcL_p fun I => ?_
  cases x; cases y
  refine Run2.of I 1000 ?_
  simp -implicitDefEqProofs
  refine (eqCx_c _ _ _ hl1).mono ?_
  rintro v h' ⟨rfl, rfl⟩
  refine gK.go ?_
  simp -implicitDefEqProofs [hl2]
  grind
/-! ## In the laws: with other memory about -/
theorem eqFil_own {w u : AV} {x y : Fil} {g h : Heap} (o : OwnFil w x g) (hu : IsFil u y) (hs : ∀ p ∈ g, p ∈ h) (hl : x.tot ≤ 1048576) : ACalls Try.prog 40 [w, u] h (fun r h' => r = .bool (decide (x = y)) ∧ h' = h) := by
  refine ACalls.reads g hs ?_ rfl
  rw [lend_cons, lend_cons, lend_nil', lend1_cold g hu.cold]
  exact ACalls.wk (.cons (o.lent o.nodup).wk (.cons hu.wk .nil)) (eqFil_c x y [] hl)
theorem eqCx_own {w u : AV} {x y : List (List Int)} {g h : Heap} (o : OwnCx w x g) (hu : IsCx u y) (hs : ∀ p ∈ g, p ∈ h) (hl : ssTot x ≤ 1048576) : ACalls Try.prog 21 [w, u] h (fun r h' => r = .bool (decide (x = y)) ∧ h' = h) := by
  refine ACalls.reads g hs ?_ rfl
  rw [lend_cons, lend_cons, lend_nil', lend1_cold g hu.cold]
  exact ACalls.wk (.cons o.lent.wk (.cons hu.wk .nil)) (eqCx_c x y [] hl)
/-! ## Marks -/
abbrev k87_o0 : List AJ := [.o ⟨(some 2), none, false, .box false 1 (.t 0), none⟩, .o ⟨(some 4), none, false, .mv (.c (.int .i64 0)), (some [1, 2])⟩]
abbrev k87_o1 : List AJ := [.o ⟨(some 5), none, false, .fieldA 0 (.t 2), none⟩, .o ⟨(some 6), none, false, .load 1 false (.t 5), none⟩, .o ⟨(some 7), none, false, .mv (.t 1), none⟩, .o ⟨(some 8), none, false, .call 15 [(.t 6), (.t 7)], none⟩, .o ⟨(some 1), none, false, .mv (.t 8), (some [1])⟩]
abbrev k87_o2 : List AJ := [.o ⟨(some 9), none, false, .mv (.t 1), none⟩, .o ⟨(some 4), none, false, .mv (.t 9), (some [4])⟩]
def k87_3 : ACode := .seq (.region k87_o2) .ret
def k87_4 : ACode := .seq (.region k87_o1) k87_3
def k87_5 : ACode := .seq (.region k87_o0) k87_4
@[simp, simp ↓] theorem k87_3r : sR k87_3 k87_o2 .ret := yR rfl
@[simp, simp ↓] theorem k87_4r : sR k87_4 k87_o1 k87_3 := yR rfl
@[simp, simp ↓] theorem k87_5r : sR k87_5 k87_o0 k87_4 := yR rfl
noncomputable abbrev k87_C : Orc → Cx := mkC Try.prog [] 87 10 [.tmp 4]
theorem k87_of0 : OfP0 Try.prog Try.f87 87 10 k87_C k87_5 := @ofP0 _ _ _ _ _ _ _ _ Try.func87 (by decide +kernel) rfl (by kernel_rfl) rfl (by kernel_rfl)
theorem markCx_o {v : AV} {rs : List (List Int)} {hs : Heap} (ho : OwnCx v rs hs) (k : Int) (hk : 0 ≤ k ∧ k ≤ 1073741824) (hl : ssTot rs ≤ 1048576) : ACalls Try.prog 87 [v, .int .i64 k] hs (fun r h' => r = .int .i64 (k + sumL rs) ∧ OwnCx v (marksL k rs) h') := by
  obtain ⟨u, rfl, hu⟩ := ho
  have hc := hu.cell
  refine k87_of0 rfl noPure fun I => ?_
  refine Run2.of I 1000 ?_
  simp -implicitDefEqProofs [hc]
  refine (markInt64SS_o hu k hk hl).mono ?_
  rintro r h' ⟨rfl, hu'⟩
  refine gK.go ?_
  simp -implicitDefEqProofs
  exact ⟨_, rfl, hu'⟩
abbrev k88_o0 : List AJ := [.o ⟨(some 2), none, false, .box false 1 (.t 0), none⟩, .o ⟨(some 4), none, false, .mv (.c (.int .i64 0)), (some [1, 2])⟩]
abbrev k88_o1 : List AJ := [.o ⟨(some 5), none, false, .fieldA 0 (.t 2), none⟩, .o ⟨(some 6), none, false, .load 1 false (.t 5), none⟩, .o ⟨(some 7), none, false, .mv (.t 1), none⟩, .o ⟨(some 8), none, false, .call 16 [(.t 6), (.t 7)], none⟩, .o ⟨(some 1), none, false, .mv (.t 8), (some [1])⟩]
abbrev k88_o2 : List AJ := [.o ⟨(some 9), none, false, .mv (.t 1), none⟩, .o ⟨(some 10), none, false, .bin .lss (.t 9) (.c (.int .i64 0)), (some [1, 10])⟩]
abbrev k88_o3 : List AJ := [.o ⟨(some 4), none, false, .mv (.c (.int .i64 (-1))), (some [4])⟩]
def k88_4 : ACode := .seq (.region k88_o3) .ret
def k88_5 : ACode := .cond (.t 10) k88_4 .skip
def k88_6 : ACode := .seq (.region k88_o2) k88_5
abbrev k88_o4 : List AJ := [.o ⟨(some 11), none, false, .mv (.t 1), none⟩, .o ⟨(some 4), none, false, .mv (.t 11), (some [4])⟩]
def k88_8 : ACode := .seq (.region k88_o4) .ret
def k88_9 : ACode := .seq k88_6 k88_8
def k88_10 : ACode := .seq (.region k88_o1) k88_9
def k88_11 : ACode := .seq (.region k88_o0) k88_10
@[simp, simp ↓] theorem k88_4r : sR k88_4 k88_o3 .ret := yR rfl
@[simp, simp ↓] theorem k88_5r : rC k88_5 (.t 10) k88_4 .skip := zC rfl
@[simp, simp ↓] theorem k88_6r : sR k88_6 k88_o2 k88_5 := yR rfl
@[simp, simp ↓] theorem k88_8r : sR k88_8 k88_o4 .ret := yR rfl
@[simp, simp ↓] theorem k88_9r : rS k88_9 k88_6 k88_8 := zS rfl
@[simp, simp ↓] theorem k88_10r : sR k88_10 k88_o1 k88_9 := yR rfl
@[simp, simp ↓] theorem k88_11r : sR k88_11 k88_o0 k88_10 := yR rfl
noncomputable abbrev k88_C : Orc → Cx := mkC Try.prog [] 88 12 [.tmp 4]
theorem k88_of0 : OfP0 Try.prog Try.f88 88 12 k88_C k88_11 := @ofP0 _ _ _ _ _ _ _ _ Try.func88 (by decide +kernel) rfl (by kernel_rfl) rfl (by kernel_rfl)
theorem heldCx_s (rs : List (List Int)) (k : Int) (h : Heap) (hk : 0 ≤ k ∧ k ≤ 1073741824) (hl : ssTot rs ≤ 1048576) : ACalls Try.prog 88 [cx rs, .int .i64 k] h (fun v h' => v = .int .i64 (if rs = marksL k rs then k + sumL rs else -1) ∧ h' = h) := by
  refine k88_of0 rfl noPure fun I => ?_
  refine Run2.of I 1000 ?_
  simp -implicitDefEqProofs
  refine (heldInt64SS_s rs k h hk hl).mono ?_
  rintro r h' ⟨rfl, rfl⟩
  refine gK.go ?_
  simp -implicitDefEqProofs
  grind
abbrev k41_o0 : List AJ := [.o ⟨(some 2), none, false, .box false 2 (.t 0), none⟩, .o ⟨(some 4), none, false, .mv (.c (.int .i64 0)), (some [1, 2])⟩]
abbrev k41_o1 : List AJ := [.o ⟨(some 5), none, false, .fieldA 0 (.t 2), none⟩, .o ⟨(some 6), none, false, .load 1 true (.t 5), none⟩, .o ⟨(some 7), none, false, .mv (.t 1), none⟩, .o ⟨(some 8), none, false, .call 87 [(.t 6), (.t 7)], none⟩, .o ⟨(some 1), none, false, .mv (.t 8), (some [1, 2])⟩]
abbrev k41_o2 : List AJ := [.o ⟨(some 9), none, false, .fieldA 1 (.t 2), none⟩, .o ⟨(some 10), none, false, .load 1 false (.t 9), none⟩, .o ⟨(some 11), none, false, .mv (.t 1), none⟩, .o ⟨(some 12), none, false, .call 29 [(.t 10), (.t 11)], none⟩, .o ⟨(some 1), none, false, .mv (.t 12), (some [1])⟩]
abbrev k41_o3 : List AJ := [.o ⟨(some 13), none, false, .mv (.t 1), none⟩, .o ⟨(some 4), none, false, .mv (.t 13), (some [4])⟩]
def k41_4 : ACode := .seq (.region k41_o3) .ret
def k41_5 : ACode := .seq (.region k41_o2) k41_4
def k41_6 : ACode := .seq (.region k41_o1) k41_5
def k41_7 : ACode := .seq (.region k41_o0) k41_6
@[simp, simp ↓] theorem k41_4r : sR k41_4 k41_o3 .ret := yR rfl
@[simp, simp ↓] theorem k41_5r : sR k41_5 k41_o2 k41_4 := yR rfl
@[simp, simp ↓] theorem k41_6r : sR k41_6 k41_o1 k41_5 := yR rfl
@[simp, simp ↓] theorem k41_7r : sR k41_7 k41_o0 k41_6 := yR rfl
noncomputable abbrev k41_C : Orc → Cx := mkC Try.prog [] 41 14 [.tmp 4]
theorem k41_of0 : OfP0 Try.prog Try.f41 41 14 k41_C k41_7 := @ofP0 _ _ _ _ _ _ _ _ Try.func41 (by decide +kernel) rfl (by kernel_rfl) rfl (by kernel_rfl)
def Fil.cnt (x : Fil) : Nat := sumL x.rs + x.ts.length
def marksF (k : Int) (x : Fil) : Fil := ⟨marksL k x.rs, marks (k + sumL x.rs) x.ts.length⟩
theorem Fil.cnt_le (x : Fil) : x.cnt ≤ x.tot := by unfold Fil.cnt Fil.tot ssTot; omega
@[simp] theorem marksF_tot (k : Int) (x : Fil) : (marksF k x).tot = x.tot := by simp [marksF, Fil.tot]
@[simp] theorem marksF_cnt (k : Int) (x : Fil) : (marksF k x).cnt = x.cnt := by simp [marksF, Fil.cnt]
@[simp] theorem marksF_marksF (k : Int) (x : Fil) : marksF k (marksF k x) = marksF k x := by simp [marksF]
theorem markFil_o {v : AV} {x : Fil} {hs : Heap} (ho : OwnFil v x hs) (k : Int) (hk : 0 ≤ k ∧ k ≤ 1073741824) (hl : x.tot ≤ 1048576) : ACalls Try.prog 41 [v, .int .i64 k] hs (fun r h' => r = .int .i64 (k + x.cnt) ∧ OwnFil v (marksF k x) h') := by
  obtain ⟨hl1, hl2⟩ := x.lens hl
  obtain ⟨u, w, h1, h2, rfl, hu, hw, hd, rfl⟩ := ho
  have hc := hu.cell
  have hc2 := hw.cell
  have htot : sumL x.rs ≤ 1048576 := by unfold ssTot at hl1; omega
  refine ACalls.permR ?_
  refine k41_of0 rfl noPure fun I => ?_
  refine Run2.of I 1000 ?_
  simp -implicitDefEqProofs [hc, hc2]
  refine (ACalls.frame h1 [] h2 hu.nodup (fun p hp => List.mem_append_left _ hp) (by simp) (fun p hp => ⟨List.mem_append_right _ hp, fun hm => hd _ hm (List.mem_map.2 ⟨p, hp, rfl⟩)⟩) (fun nd => by rw [dom_append] at nd; exact (List.nodup_append.1 nd).2.1) (S := fun r h' => r = .int .i64 (k + sumL x.rs) ∧ OwnCx (.agg [u]) (marksL k x.rs) h') (by simpa [lend] using markCx_o ⟨u, rfl, hu⟩ k hk hl1) (fun v h' e => by obtain ⟨rfl, e⟩ := e; exact ⟨rfl, e.own.2⟩)).monoN ?_
  rintro v h' ⟨g', ⟨rfl, u', e, og⟩, hdg, rfl⟩ nd
  simp only [AV.agg.injEq, List.cons.injEq, and_true] at e
  subst e
  refine gK.go ?_
  simp -implicitDefEqProofs [hc, hc2]
  refine (markI_keep hw g' (fun p hp => List.mem_append_right _ hp) (fun p hp => ⟨List.mem_append_left _ hp, fun hm => ?_⟩) (fun nd => by rw [dom_append] at nd; exact (List.nodup_append.1 nd).1) (k + sumL x.rs) (by omega) (by omega)).monoN ?_
  · rw [dom_append] at nd
    exact (List.nodup_append.1 nd).2.2 _ (List.mem_map.2 ⟨p, hp, rfl⟩) _ hm rfl
  rintro v h' ⟨g2, rfl, og2, rfl⟩ nd2
  refine gK.go ?_
  simp -implicitDefEqProofs
  intro _
  refine ⟨g' ++ g2, List.perm_append_comm, by simp [Fil.cnt, Int.add_assoc], _, _, g', g2, rfl, og, og2, fun i hi hi2 => ?_, rfl⟩
  rw [dom_append] at nd2
  exact (List.nodup_append.1 nd2).2.2 _ hi2 _ hi rfl
abbrev k42_o0 : List AJ := [.o ⟨(some 2), none, false, .box false 2 (.t 0), none⟩, .o ⟨(some 4), none, false, .mv (.c (.int .i64 0)), (some [1, 2])⟩]
abbrev k42_o1 : List AJ := [.o ⟨(some 5), none, false, .fieldA 0 (.t 2), none⟩, .o ⟨(some 6), none, false, .load 1 true (.t 5), none⟩, .o ⟨(some 7), none, false, .mv (.t 1), none⟩, .o ⟨(some 8), none, false, .call 88 [(.t 6), (.t 7)], none⟩, .o ⟨(some 1), none, false, .mv (.t 8), (some [1, 2])⟩]
abbrev k42_o2 : List AJ := [.o ⟨(some 9), none, false, .mv (.t 1), none⟩, .o ⟨(some 10), none, false, .bin .lss (.t 9) (.c (.int .i64 0)), (some [1, 2, 10])⟩]
abbrev k42_o3 : List AJ := [.o ⟨(some 4), none, false, .mv (.c (.int .i64 (-1))), (some [4])⟩]
def k42_4 : ACode := .seq (.region k42_o3) .ret
def k42_5 : ACode := .cond (.t 10) k42_4 .skip
def k42_6 : ACode := .seq (.region k42_o2) k42_5
abbrev k42_o4 : List AJ := [.o ⟨(some 11), none, false, .fieldA 1 (.t 2), none⟩, .o ⟨(some 12), none, false, .load 1 false (.t 11), none⟩, .o ⟨(some 13), none, false, .mv (.t 1), none⟩, .o ⟨(some 14), none, false, .call 30 [(.t 12), (.t 13)], none⟩, .o ⟨(some 1), none, false, .mv (.t 14), (some [1])⟩]
abbrev k42_o5 : List AJ := [.o ⟨(some 15), none, false, .mv (.t 1), none⟩, .o ⟨(some 16), none, false, .bin .lss (.t 15) (.c (.int .i64 0)), (some [1, 16])⟩]
abbrev k42_o6 : List AJ := [.o ⟨(some 4), none, false, .mv (.c (.int .i64 (-1))), (some [4])⟩]
def k42_10 : ACode := .seq (.region k42_o6) .ret
def k42_11 : ACode := .cond (.t 16) k42_10 .skip
def k42_12 : ACode := .seq (.region k42_o5) k42_11
abbrev k42_o7 : List AJ := [.o ⟨(some 17), none, false, .mv (.t 1), none⟩, .o ⟨(some 4), none, false, .mv (.t 17), (some [4])⟩]
def k42_14 : ACode := .seq (.region k42_o7) .ret
def k42_15 : ACode := .seq k42_12 k42_14
def k42_16 : ACode := .seq (.region k42_o4) k42_15
def k42_17 : ACode := .seq k42_6 k42_16
def k42_18 : ACode := .seq (.region k42_o1) k42_17
def k42_19 : ACode := .seq (.region k42_o0) k42_18
@[simp, simp ↓] theorem k42_4r : sR k42_4 k42_o3 .ret := yR rfl
@[simp, simp ↓] theorem k42_5r : rC k42_5 (.t 10) k42_4 .skip := zC rfl
@[simp, simp ↓] theorem k42_6r : sR k42_6 k42_o2 k42_5 := yR rfl
@[simp, simp ↓] theorem k42_10r : sR k42_10 k42_o6 .ret := yR rfl
@[simp, simp ↓] theorem k42_11r : rC k42_11 (.t 16) k42_10 .skip := zC rfl
@[simp, simp ↓] theorem k42_12r : sR k42_12 k42_o5 k42_11 := yR rfl
@[simp, simp ↓] theorem k42_14r : sR k42_14 k42_o7 .ret := yR rfl
@[simp, simp ↓] theorem k42_15r : rS k42_15 k42_12 k42_14 := zS rfl
@[simp, simp ↓] theorem k42_16r : sR k42_16 k42_o4 k42_15 := yR rfl
@[simp, simp ↓] theorem k42_17r : rS k42_17 k42_6 k42_16 := zS rfl
@[simp, simp ↓] theorem k42_18r : sR k42_18 k42_o1 k42_17 := yR rfl
@[simp, simp ↓] theorem k42_19r : sR k42_19 k42_o0 k42_18 := yR rfl
noncomputable abbrev k42_C : Orc → Cx := mkC Try.prog [] 42 18 [.tmp 4]
theorem k42_of0 : OfP0 Try.prog Try.f42 42 18 k42_C k42_19 := @ofP0 _ _ _ _ _ _ _ _ Try.func42 (by decide +kernel) rfl (by kernel_rfl) rfl (by kernel_rfl)
theorem heldFil_s (x : Fil) (k : Int) (h : Heap) (hk : 0 ≤ k ∧ k ≤ 1073741824) (hl : x.tot ≤ 1048576) : ACalls Try.prog 42 [x.av, .int .i64 k] h (fun v h' => v = .int .i64 (if x = marksF k x then k + x.cnt else -1) ∧ h' = h) := by
  obtain ⟨hl1, hl2⟩ := x.lens hl
  have htot : sumL x.rs ≤ 1048576 := by unfold ssTot at hl1; omega
  refine k42_of0 rfl noPure fun I => ?_
  refine Run2.of I 1000 ?_
  simp -implicitDefEqProofs
  refine (heldCx_s x.rs k h hk hl1).mono ?_
  rintro r h' ⟨rfl, rfl⟩
  have e : x = marksF k x ↔ x.rs = marksL k x.rs ∧ x.ts = marks (k + sumL x.rs) x.ts.length := Fil.eq_iff _ _
  by_cases h1 : x.rs = marksL k x.rs
  · rw [if_pos h1]
    refine gK.go ?_
    simp -implicitDefEqProofs
    refine ⟨fun h => by omega, fun _ => ?_⟩
    refine (heldInt64S_s x.ts (k + sumL x.rs) h' (by omega) (by omega)).mono ?_
    rintro r h' ⟨rfl, rfl⟩
    by_cases h2 : x.ts = marks (k + sumL x.rs) x.ts.length
    · rw [if_pos h2]
      have e2 := e.2 ⟨h1, h2⟩
      have hz : ¬ (k + sumL x.rs + x.ts.length < 0) := by omega
      refine gK.go ?_
      simp -implicitDefEqProofs [hz]
      rw [if_pos e2]; unfold Fil.cnt; omega
    · rw [if_neg h2]
      have e2 : ¬ x = marksF k x := fun h => h2 (e.1 h).2
      refine gK.go ?_
      simp -implicitDefEqProofs [e2]
  · rw [if_neg h1]
    have e2 : ¬ x = marksF k x := fun h => h1 (e.1 h).1
    refine gK.go ?_
    simp -implicitDefEqProofs [e2]
theorem heldFil_own {w : AV} {l : Fil} {g h : Heap} (o : OwnFil w l g) (hs : ∀ p ∈ g, p ∈ h) (k : Int) (hk : 0 ≤ k ∧ k ≤ 1073741824) (hl : l.tot ≤ 1048576) : ACalls Try.prog 42 [w, .int .i64 k] h (fun r h' => r = .int .i64 (if l = marksF k l then k + l.cnt else -1) ∧ h' = h) := by
  refine ACalls.reads g hs ?_ rfl
  rw [lend_cons, lend_cons, lend_nil', lend1_cold g (x := .int .i64 k) rfl]
  exact ACalls.wk (.cons (o.lent o.nodup).wk (.refl _)) (heldFil_s l k [] hk hl)
theorem heldCx_own {w : AV} {l : List (List Int)} {g h : Heap} (o : OwnCx w l g) (hs : ∀ p ∈ g, p ∈ h) (k : Int) (hk : 0 ≤ k ∧ k ≤ 1073741824) (hl : ssTot l ≤ 1048576) : ACalls Try.prog 88 [w, .int .i64 k] h (fun r h' => r = .int .i64 (if l = marksL k l then k + sumL l else -1) ∧ h' = h) := by
  refine ACalls.reads g hs ?_ rfl
  rw [lend_cons, lend_cons, lend_nil', lend1_cold g (x := .int .i64 k) rfl]
  exact ACalls.wk (.cons o.lent.wk (.refl _)) (heldCx_s l k [] hk hl)
theorem markFil_drop {w : AV} {l : Fil} {g h : Heap} (o : OwnFil w l g) (keep : Heap) (hs : ∀ p ∈ g, p ∈ h) (hk : ∀ p ∈ keep, p ∈ h ∧ p.1 ∉ dom g) (nk : (dom h).Nodup → (dom keep).Nodup) (k : Int) (hk1 : 0 ≤ k ∧ k ≤ 1073741824) (hl : l.tot ≤ 1048576) : ACalls Try.prog 41 [w, .int .i64 k] h (fun r h' => r = .int .i64 (k + l.cnt) ∧ h' = keep) :=
  ACalls.marks g keep o.nodup hs hk nk (S := fun h' => OwnFil w (marksF k l) h') (markFil_o o k hk1 hl) ⟨rfl, fun h' ho => ho.own.2⟩
theorem markFil_keep {w : AV} {l : Fil} {g h : Heap} (o : OwnFil w l g) (keep : Heap) (hs : ∀ p ∈ g, p ∈ h) (hk : ∀ p ∈ keep, p ∈ h ∧ p.1 ∉ dom g) (nk : (dom h).Nodup → (dom keep).Nodup) (k : Int) (hk1 : 0 ≤ k ∧ k ≤ 1073741824) (hl : l.tot ≤ 1048576) : ACalls Try.prog 41 [w, .int .i64 k] h (fun r h' => ∃ g', r = .int .i64 (k + l.cnt) ∧ OwnFil w (marksF k l) g' ∧ h' = g' ++ keep) :=
  (ACalls.frame g [] keep o.nodup hs (by simp) hk nk (S := fun v h' => v = .int .i64 (k + l.cnt) ∧ OwnFil w (marksF k l) h') (by simpa [lend] using markFil_o o k hk1 hl) (fun v h' e => by obtain ⟨rfl, e⟩ := e; exact ⟨rfl, e.own.2⟩)).mono fun v h' ⟨g', ⟨e1, e2⟩, _, e3⟩ => ⟨g', e1, e2, e3⟩
theorem markCx_drop {w : AV} {l : List (List Int)} {g h : Heap} (o : OwnCx w l g) (keep : Heap) (hs : ∀ p ∈ g, p ∈ h) (hk : ∀ p ∈ keep, p ∈ h ∧ p.1 ∉ dom g) (nk : (dom h).Nodup → (dom keep).Nodup) (k : Int) (hk1 : 0 ≤ k ∧ k ≤ 1073741824) (hl : ssTot l ≤ 1048576) : ACalls Try.prog 87 [w, .int .i64 k] h (fun r h' => r = .int .i64 (k + sumL l) ∧ h' = keep) :=
  ACalls.marks g keep o.nodup hs hk nk (S := fun h' => OwnCx w (marksL k l) h') (markCx_o o k hk1 hl) ⟨rfl, fun h' ho => ho.own.2⟩
theorem markCx_keep {w : AV} {l : List (List Int)} {g h : Heap} (o : OwnCx w l g) (keep : Heap) (hs : ∀ p ∈ g, p ∈ h) (hk : ∀ p ∈ keep, p ∈ h ∧ p.1 ∉ dom g) (nk : (dom h).Nodup → (dom keep).Nodup) (k : Int) (hk1 : 0 ≤ k ∧ k ≤ 1073741824) (hl : ssTot l ≤ 1048576) : ACalls Try.prog 87 [w, .int .i64 k] h (fun r h' => ∃ g', r = .int .i64 (k + sumL l) ∧ OwnCx w (marksL k l) g' ∧ h' = g' ++ keep) :=
  (ACalls.frame g [] keep o.nodup hs (by simp) hk nk (S := fun v h' => v = .int .i64 (k + sumL l) ∧ OwnCx w (marksL k l) h') (by simpa [lend] using markCx_o o k hk1 hl) (fun v h' e => by obtain ⟨rfl, e⟩ := e; exact ⟨rfl, e.own.2⟩)).mono fun v h' ⟨g', ⟨e1, e2⟩, _, e3⟩ => ⟨g', e1, e2, e3⟩
end Go.AG
