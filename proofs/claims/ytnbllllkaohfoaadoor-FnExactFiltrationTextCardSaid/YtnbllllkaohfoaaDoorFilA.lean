/- Filtrations as data of the laws: how they are copied, compared, counted. No statement is made here. -/
import Derived.Test.YtnbllllkaohfoaaDoorFxT
import Derived.Test.YtnbllllkaohfoaaDoorISSM
import Derived.Test.YtnbllllkaohfoaaDoorAGLists2
namespace Go.AG
open Go.Proofs Go.Proofs.YtnbllllkaohfoaaDoor
set_option linter.unusedSimpArgs false
set_option linter.unusedVariables false
set_option maxRecDepth 4000
@[simp] def Fil.av (x : Fil) : AV := .agg [.snap 1 (x.rs.map il), .snap 1 (x.ts.map iv)]
def Fil.wf (x : Fil) : Prop := wfSS x.rs ∧ wfI x.ts
def Fil.tot (x : Fil) : Nat := ssTot x.rs + x.ts.length
theorem Fil.ext' {x y : Fil} (h1 : x.rs = y.rs) (h2 : x.ts = y.ts) : x = y := by
  cases x; cases y; simp at h1 h2; simp [h1, h2]
theorem Fil.eq_iff (x y : Fil) : x = y ↔ x.rs = y.rs ∧ x.ts = y.ts := ⟨fun h => by rw [h]; exact ⟨rfl, rfl⟩, fun h => Fil.ext' h.1 h.2⟩
def tyF : Ty := .struct (.cons (.struct (.cons tySS .nil)) (.cons (.slice (.int .i64)) .nil))
theorem Fil_of_shape {x : AV} (h : shV tyF x) : ∃ p : Fil, x = p.av ∧ p.wf := by
  obtain ⟨h1, a1, b1, e1, ⟨a2, b2, rfl, ⟨xs, rfl, hlen, r3⟩, hb2⟩, a3, b3, rfl, ⟨ys, rfl, hlen2, r4⟩, h3⟩ := h
  have hm : maxLen ≤ 9223372036854775807 := by decide
  have h3' : b3 = [] := h3
  have hb2' : b2 = [] := hb2
  subst h3' hb2'
  obtain ⟨rs, rfl, hrs⟩ := Lists_list r3
  obtain ⟨ts, hts, hwt⟩ := Ints_of_shape (x := .snap 1 ys) ⟨rfl, ys, rfl, hlen2, r4⟩
  cases x <;> simp [isAgg, tyF, Ty.isS] at h1
  rename_i l
  refine ⟨⟨rs, ts⟩, ?_, ⟨⟨hrs, by simp only [List.length_map] at hlen; exact Nat.le_trans hlen hm⟩, hwt⟩⟩
  simp only [cellsOf] at e1
  rw [e1]
  simp only [AV.snap.injEq, true_and] at hts
  simp [Fil.av, hts, Ty.n]
/-- v is a complex in blocks of its own. -/
def OwnCx (v : AV) (rs : List (List Int)) (hp : Heap) : Prop := ∃ u, v = .agg [u] ∧ OwnLL u rs hp
def IsCx (v : AV) (rs : List (List Int)) : Prop := ∃ u, v = .agg [u] ∧ IsLL u rs
@[simp] def cx (rs : List (List Int)) : AV := .agg [.snap 1 (rs.map il)]
theorem IsCx.wk {v : AV} {rs : List (List Int)} (h : IsCx v rs) : Wk v (cx rs) := by
  obtain ⟨u, rfl, hu⟩ := h
  exact Wk.agg (.cons hu.wk .nil)
theorem IsCx.cold {v : AV} {rs : List (List Int)} (h : IsCx v rs) : Go.AG.cold v = true := by
  obtain ⟨u, rfl, hu⟩ := h
  simp [Go.AG.cold, colds, hu.cold]
theorem lend1_agg1 (L : Heap) (a : AV) : lend1 L (.agg [a]) = .agg [lend1 L a] := by
  induction L generalizing a with
  | nil => rfl
  | cons p L ih => simp only [lend1, fz, fzs]; exact ih _
theorem OwnCx.lentMid {v : AV} {rs : List (List Int)} {hp : Heap} (h : OwnCx v rs hp) {A B : Heap} (nd : (dom (A ++ (hp ++ B))).Nodup) : IsCx (lend1 (A ++ (hp ++ B)) v) rs := by
  obtain ⟨u, rfl, hu⟩ := h
  rw [lend1_agg1]
  exact ⟨_, rfl, hu.lentMid nd⟩
theorem OwnCx.nodup {v : AV} {rs : List (List Int)} {hp : Heap} (h : OwnCx v rs hp) : (dom hp).Nodup := by
  obtain ⟨u, rfl, hu⟩ := h
  exact hu.nodup
theorem OwnCx.lent {v : AV} {rs : List (List Int)} {hp : Heap} (h : OwnCx v rs hp) : IsCx (lend1 hp v) rs := by
  have := h.lentMid (A := []) (B := []) (by simpa using h.nodup)
  simpa using this
theorem OwnCx.own {v : AV} {rs : List (List Int)} {hp : Heap} (h : OwnCx v rs hp) : Go.AG.own v = true ∧ (hp.all fun p => p.2.l.all Go.AG.own) = true := by
  obtain ⟨u, rfl, hu⟩ := h
  exact ⟨by simp [Go.AG.own, owns, hu.own.1], hu.own.2⟩
theorem cx_is (rs : List (List Int)) : IsCx (cx rs) rs := ⟨_, rfl, .is _⟩
def tyCx : Ty := .struct (.cons tySS .nil)
theorem Cx_of_shape {x : AV} (h : shV tyCx x) : ∃ rs, x = cx rs ∧ wfSS rs := by
  obtain ⟨h1, a1, b1, e1, ⟨xs, rfl, hlen, r3⟩, h3⟩ := h
  have hm : maxLen ≤ 9223372036854775807 := by decide
  have h3' : b1 = [] := h3
  subst h3'
  obtain ⟨rs, rfl, hrs⟩ := Lists_list r3
  cases x <;> simp [isAgg, tyCx, Ty.isS] at h1
  rename_i l
  refine ⟨rs, ?_, ⟨hrs, by simp only [List.length_map] at hlen; exact Nat.le_trans hlen hm⟩⟩
  simp only [cellsOf] at e1
  rw [e1]; rfl
/-- v is a filtration in blocks of its own. -/
def OwnFil (v : AV) (x : Fil) (hp : Heap) : Prop := ∃ u w h1 h2, v = .agg [u, w] ∧ OwnLL u x.rs h1 ∧ OwnL iv 1 w x.ts h2 ∧ (∀ i ∈ dom h1, i ∉ dom h2) ∧ hp = h1 ++ h2
/-- v is a filtration that nobody writes. -/
def IsFil (v : AV) (x : Fil) : Prop := ∃ u w, v = .agg [u, w] ∧ IsLL u x.rs ∧ IsL iv 1 w x.ts
theorem IsFil.wk {v : AV} {x : Fil} (h : IsFil v x) : Wk v x.av := by
  obtain ⟨u, w, rfl, hu, hw⟩ := h
  exact Wk.agg (.cons hu.wk (.cons hw.wk .nil))
theorem IsFil.cold {v : AV} {x : Fil} (h : IsFil v x) : Go.AG.cold v = true := by
  obtain ⟨u, w, rfl, hu, hw⟩ := h
  simp [Go.AG.cold, colds, hu.cold, hw.cold cold_iv1]
theorem lend1_agg (L : Heap) (a u : AV) : lend1 L (.agg [a, u]) = .agg [lend1 L a, lend1 L u] := by
  induction L generalizing a u with
  | nil => rfl
  | cons p L ih => simp only [lend1, fz, fzs]; exact ih _ _
theorem OwnFil.lentMid {v : AV} {x : Fil} {hp : Heap} (h : OwnFil v x hp) {A B : Heap} (nd : (dom (A ++ (hp ++ B))).Nodup) : IsFil (lend1 (A ++ (hp ++ B)) v) x := by
  obtain ⟨u, w, h1, h2, rfl, hu, hw, hd, rfl⟩ := h
  rw [lend1_agg]
  refine ⟨_, _, rfl, ?_, hw.lentIn cold_iv1 (fun p hp => by simp [hp]) nd⟩
  have e : A ++ ((h1 ++ h2) ++ B) = A ++ (h1 ++ (h2 ++ B)) := by simp
  rw [e] at nd ⊢
  exact hu.lentMid nd
theorem OwnFil.lent {v : AV} {x : Fil} {hp : Heap} (h : OwnFil v x hp) (nd : (dom hp).Nodup) : IsFil (lend1 hp v) x := by
  have := h.lentMid (A := []) (B := []) (by simpa using nd)
  simpa using this
theorem OwnFil.own {v : AV} {x : Fil} {hp : Heap} (h : OwnFil v x hp) : Go.AG.own v = true ∧ (hp.all fun p => p.2.l.all Go.AG.own) = true := by
  obtain ⟨u, w, h1, h2, rfl, hu, hw, hd, rfl⟩ := h
  exact ⟨by simp [Go.AG.own, owns, hu.own.1, (hw.own own_iv1).1], by rw [List.all_append, hu.own.2, (hw.own own_iv1).2]; rfl⟩
theorem OwnFil.nodup {v : AV} {x : Fil} {hp : Heap} (h : OwnFil v x hp) : (dom hp).Nodup := by
  obtain ⟨u, w, h1, h2, rfl, hu, hw, hd, rfl⟩ := h
  rw [dom_append]
  exact List.nodup_append.2 ⟨hu.nodup, hw.nodup, fun a ha b hb e => hd a ha (e ▸ hb)⟩
theorem Fil.is (x : Fil) : IsFil x.av x := ⟨_, _, rfl, .is _, .snap _⟩
noncomputable def orcL : List (Nat × (List AV → Option (Prop × AV))) := (30, o_toInt64S) :: (35, o_eqInt64S) :: (9, o_toInt64SS) :: (7, o_szInt64SS) :: (11, o_eqInt64SS) :: []
theorem orcL_p : Pure Tryd.prog (lk orcL) := (lk_pure o_toInt64S_k (lk_pure o_eqInt64S_k (lk_pure o_toInt64SS_k (lk_pure o_szInt64SS_k (lk_pure o_eqInt64SS_k lk_pure0)))))
@[simp] theorem orcL_l (b : Bool) (g : FuncId) (l : List AV) : lk orcL b g l = if g = 30 then o_toInt64S l else if g = 35 then o_eqInt64S l else if g = 9 then o_toInt64SS l else if g = 7 then o_szInt64SS l else if g = 11 then o_eqInt64SS l else none := nr rfl
abbrev k52_o0 : List AJ := [.o ⟨(some 1), none, false, .box false 1 (.t 0), none⟩, .o ⟨(some 2), none, false, .alloc true 1 (.agg [.nilsl]), (some [1, 2])⟩]
abbrev k52_o1 : List AJ := [.o ⟨(some 3), none, false, .alloc true 1 (.agg [.nilsl]), (some [1, 2, 3])⟩]
abbrev k52_o2 : List AJ := [.o ⟨(some 4), none, false, .fieldA 0 (.t 1), none⟩, .o ⟨(some 5), none, false, .load 1 false (.t 4), none⟩, .o ⟨(some 6), none, false, .call 9 [(.t 5)], none⟩, .o ⟨(some 7), none, false, .fieldA 0 (.t 3), none⟩, .o ⟨none, none, false, .store 1 (.t 7) (.t 6), (some [2, 3])⟩]
abbrev k52_o3 : List AJ := [.o ⟨(some 8), none, false, .load 1 true (.t 3), none⟩, .o ⟨none, none, false, .store 1 (.t 2) (.t 8), (some [2])⟩]
def k52_4 : ACode := .seq (.region k52_o3) .ret
def k52_5 : ACode := .seq (.region k52_o2) k52_4
def k52_6 : ACode := .seq (.region k52_o1) k52_5
def k52_7 : ACode := .seq (.region k52_o0) k52_6
@[simp, simp ↓] theorem k52_4r : sR k52_4 k52_o3 .ret := yR rfl
@[simp, simp ↓] theorem k52_5r : sR k52_5 k52_o2 k52_4 := yR rfl
@[simp, simp ↓] theorem k52_6r : sR k52_6 k52_o1 k52_5 := yR rfl
@[simp, simp ↓] theorem k52_7r : sR k52_7 k52_o0 k52_6 := yR rfl
noncomputable abbrev k52_C : Orc → Cx := mkC Tryd.prog [2, 3] 52 9 [.cell 2 1 true]
theorem k52_of : OfP Tryd.prog Tryd.f52 52 9 k52_C k52_7 := @ofP _ _ _ _ _ _ _ _ Tryd.func52 (by decide +kernel) rfl (by kernel_rfl) rfl (by kernel_rfl)
theorem toCx_c (rs : List (List Int)) (h : Heap) (hl : ssTot rs ≤ 1048576) : ACalls Tryd.prog 52 [cx rs] h (fun v h' => v = cx rs ∧ h' = h) := by
  refine k52_of rfl noPure fun I => ?_
  refine Run2.of I 1000 ?_
  simp -implicitDefEqProofs
  intro a ha b hb1 hb2
  refine gK.go ?_
  simp -implicitDefEqProofs [hb1]
  refine (toInt64SS_t rs _ hl).mono ?_
  rintro v h' ⟨rfl, rfl⟩
  refine gK.go ?_
  simp -implicitDefEqProofs [hb1]
  refine .drop b (.drop a (.base ?_))
  simp -implicitDefEqProofs [hb1]
theorem toCx_o (rs : List (List Int)) (h : Heap) (hl : ssTot rs ≤ 1048576) : ACalls Tryd.prog 52 [cx rs] h (fun v h' => ∃ h1, OwnCx v rs h1 ∧ (∀ i ∈ dom h1, i ∉ dom h) ∧ h' = h1 ++ h) := by
  refine k52_of rfl noPure fun I => ?_
  refine Run2.of I 1000 ?_
  simp -implicitDefEqProofs
  intro a ha b hb1 hb2
  refine gK.go ?_
  simp -implicitDefEqProofs [hb1]
  refine (toInt64SS_n rs _ hl).mono ?_
  rintro u h' ⟨h1, o, hd, rfl⟩
  have hcell := o.cell
  have hst := stor_of hcell
  have hcl := cells_of hcell
  have hd1 : ∀ i ∈ dom h1, i ≠ b ∧ i ≠ a ∧ i ∉ dom h := fun i hi => by
    have := hd i hi
    simpa [dom] using this
  have hA : a ∉ dom h1 := fun hm => (hd1 a hm).2.1 rfl
  have hB : b ∉ dom h1 := fun hm => (hd1 b hm).1 rfl
  have gA : ∀ z, hget (h1 ++ z) a = hget z a := fun z => hget_app hA
  have gB : ∀ z, hget (h1 ++ z) b = hget z b := fun z => hget_app hB
  have sA : ∀ z c, hset (h1 ++ z) a c = h1 ++ hset z a c := fun z c => hset_app hA
  have sB : ∀ z c, hset (h1 ++ z) b c = h1 ++ hset z b c := fun z c => hset_app hB
  refine gK.go ?_
  simp -implicitDefEqProofs [hb1, hcell, hst, hcl, gA, gB, sA, sB]
  refine .drop b (.drop a (.base ?_))
  rw [hdel_app hB, hdel_app hA]
  refine ⟨h1, ⟨_, rfl, o⟩, fun i hi => (hd1 i hi).2.2, ?_⟩
  simp [hdel, hb1]
abbrev k49_o0 : List AJ := [.o ⟨(some 2), none, false, .box false 1 (.t 0), none⟩, .o ⟨(some 4), none, false, .mv (.c (.int .i64 0)), (some [1, 2])⟩]
abbrev k49_o1 : List AJ := [.o ⟨(some 5), none, false, .fieldA 0 (.t 2), none⟩, .o ⟨(some 6), none, false, .load 1 false (.t 5), none⟩, .o ⟨(some 7), none, false, .mv (.t 1), none⟩, .o ⟨(some 8), none, false, .call 7 [(.t 6), (.t 7)], none⟩, .o ⟨(some 1), none, false, .mv (.t 8), (some [1])⟩]
abbrev k49_o2 : List AJ := [.o ⟨(some 9), none, false, .mv (.t 1), none⟩, .o ⟨(some 10), none, false, .bin .lss (.t 9) (.c (.int .i64 0)), (some [1, 10])⟩]
abbrev k49_o3 : List AJ := [.o ⟨(some 4), none, false, .mv (.c (.int .i64 (-1))), (some [4])⟩]
def k49_4 : ACode := .seq (.region k49_o3) .ret
def k49_5 : ACode := .cond (.t 10) k49_4 .skip
def k49_6 : ACode := .seq (.region k49_o2) k49_5
abbrev k49_o4 : List AJ := [.o ⟨(some 11), none, false, .mv (.t 1), none⟩, .o ⟨(some 4), none, false, .mv (.t 11), (some [4])⟩]
def k49_8 : ACode := .seq (.region k49_o4) .ret
def k49_9 : ACode := .seq k49_6 k49_8
def k49_10 : ACode := .seq (.region k49_o1) k49_9
def k49_11 : ACode := .seq (.region k49_o0) k49_10
@[simp, simp ↓] theorem k49_4r : sR k49_4 k49_o3 .ret := yR rfl
@[simp, simp ↓] theorem k49_5r : rC k49_5 (.t 10) k49_4 .skip := zC rfl
@[simp, simp ↓] theorem k49_6r : sR k49_6 k49_o2 k49_5 := yR rfl
@[simp, simp ↓] theorem k49_8r : sR k49_8 k49_o4 .ret := yR rfl
@[simp, simp ↓] theorem k49_9r : rS k49_9 k49_6 k49_8 := zS rfl
@[simp, simp ↓] theorem k49_10r : sR k49_10 k49_o1 k49_9 := yR rfl
@[simp, simp ↓] theorem k49_11r : sR k49_11 k49_o0 k49_10 := yR rfl
noncomputable abbrev k49_C : Orc → Cx := mkC Tryd.prog [] 49 12 [.tmp 4]
theorem k49_of0 : OfP0 Tryd.prog Tryd.f49 49 12 k49_C k49_11 := @ofP0 _ _ _ _ _ _ _ _ Tryd.func49 (by decide +kernel) rfl (by kernel_rfl) rfl (by kernel_rfl)
theorem szCx_c (rs : List (List Int)) (n : Int) (h : Heap) (hn : 0 ≤ n ∧ n ≤ 1048576) (hw : wfSS rs) : ACalls Tryd.prog 49 [cx rs, .int .i64 n] h (fun v h' => v = .int .i64 (if n < ssTot rs then -1 else n - ssTot rs) ∧ h' = h) := by
  refine k49_of0 rfl orcL_p fun I => ?_
  refine Run2.of I 1000 ?_
  simp -implicitDefEqProofs [hn.1, hn.2, hw]
  grind
abbrev k55_o0 : List AJ := [.o ⟨(some 2), none, false, .box false 1 (.t 0), none⟩, .o ⟨(some 3), none, false, .box false 1 (.t 1), none⟩, .o ⟨(some 4), none, false, .mv (.c (.bool false)), (some [2, 3])⟩]
abbrev k55_o1 : List AJ := [.o ⟨(some 5), none, false, .fieldA 0 (.t 2), none⟩, .o ⟨(some 6), none, false, .load 1 false (.t 5), none⟩, .o ⟨(some 7), none, false, .fieldA 0 (.t 3), none⟩, .o ⟨(some 8), none, false, .load 1 false (.t 7), none⟩, .o ⟨(some 9), none, false, .call 11 [(.t 6), (.t 8)], none⟩, .o ⟨(some 10), none, false, .un .not (.t 9), (some [10])⟩]
abbrev k55_o2 : List AJ := [.o ⟨(some 4), none, false, .mv (.c (.bool false)), (some [4])⟩]
def k55_3 : ACode := .seq (.region k55_o2) .ret
def k55_4 : ACode := .cond (.t 10) k55_3 .skip
def k55_5 : ACode := .seq (.region k55_o1) k55_4
abbrev k55_o3 : List AJ := [.o ⟨(some 4), none, false, .mv (.c (.bool true)), (some [4])⟩]
def k55_7 : ACode := .seq (.region k55_o3) .ret
def k55_8 : ACode := .seq k55_5 k55_7
def k55_9 : ACode := .seq (.region k55_o0) k55_8
@[simp, simp ↓] theorem k55_3r : sR k55_3 k55_o2 .ret := yR rfl
@[simp, simp ↓] theorem k55_4r : rC k55_4 (.t 10) k55_3 .skip := zC rfl
@[simp, simp ↓] theorem k55_5r : sR k55_5 k55_o1 k55_4 := yR rfl
@[simp, simp ↓] theorem k55_7r : sR k55_7 k55_o3 .ret := yR rfl
@[simp, simp ↓] theorem k55_8r : rS k55_8 k55_5 k55_7 := zS rfl
@[simp, simp ↓] theorem k55_9r : sR k55_9 k55_o0 k55_8 := yR rfl
noncomputable abbrev k55_C : Orc → Cx := mkC Tryd.prog [] 55 11 [.tmp 4]
theorem k55_of0 : OfP0 Tryd.prog Tryd.f55 55 11 k55_C k55_9 := @ofP0 _ _ _ _ _ _ _ _ Tryd.func55 (by decide +kernel) rfl (by kernel_rfl) rfl (by kernel_rfl)
theorem eqCx_c (rs qs : List (List Int)) (h : Heap) (hl : ssTot rs ≤ 1048576) : ACalls Tryd.prog 55 [cx rs, cx qs] h (fun v h' => v = .bool (decide (rs = qs)) ∧ h' = h) := by
  have hf := fit_of_tot hl
  refine k55_of0 rfl orcL_p fun I => ?_
  refine Run2.of I 1000 ?_
  simp -implicitDefEqProofs [hf]
abbrev k24_o0 : List AJ := [.o ⟨(some 1), none, false, .box false 2 (.t 0), none⟩, .o ⟨(some 2), none, false, .alloc true 2 (.agg [.nilsl, .nilsl]), (some [1, 2])⟩]
abbrev k24_o1 : List AJ := [.o ⟨(some 3), none, false, .alloc true 2 (.agg [.nilsl, .nilsl]), (some [1, 2, 3])⟩]
abbrev k24_o2 : List AJ := [.o ⟨(some 4), none, false, .fieldA 0 (.t 1), none⟩, .o ⟨(some 5), none, false, .load 1 true (.t 4), none⟩, .o ⟨(some 6), none, false, .call 52 [(.t 5)], none⟩, .o ⟨(some 7), none, false, .fieldA 0 (.t 3), none⟩, .o ⟨none, none, false, .store 1 (.t 7) (.t 6), (some [1, 2, 3])⟩]
abbrev k24_o3 : List AJ := [.o ⟨(some 8), none, false, .fieldA 1 (.t 1), none⟩, .o ⟨(some 9), none, false, .load 1 false (.t 8), none⟩, .o ⟨(some 10), none, false, .call 30 [(.t 9)], none⟩, .o ⟨(some 11), none, false, .fieldA 1 (.t 3), none⟩, .o ⟨none, none, false, .store 1 (.t 11) (.t 10), (some [2, 3])⟩]
abbrev k24_o4 : List AJ := [.o ⟨(some 12), none, false, .load 2 true (.t 3), none⟩, .o ⟨none, none, false, .store 2 (.t 2) (.t 12), (some [2])⟩]
def k24_5 : ACode := .seq (.region k24_o4) .ret
def k24_6 : ACode := .seq (.region k24_o3) k24_5
def k24_7 : ACode := .seq (.region k24_o2) k24_6
def k24_8 : ACode := .seq (.region k24_o1) k24_7
def k24_9 : ACode := .seq (.region k24_o0) k24_8
@[simp, simp ↓] theorem k24_5r : sR k24_5 k24_o4 .ret := yR rfl
@[simp, simp ↓] theorem k24_6r : sR k24_6 k24_o3 k24_5 := yR rfl
@[simp, simp ↓] theorem k24_7r : sR k24_7 k24_o2 k24_6 := yR rfl
@[simp, simp ↓] theorem k24_8r : sR k24_8 k24_o1 k24_7 := yR rfl
@[simp, simp ↓] theorem k24_9r : sR k24_9 k24_o0 k24_8 := yR rfl
noncomputable abbrev k24_C : Orc → Cx := mkC Tryd.prog [2, 3] 24 13 [.cell 2 2 true]
theorem k24_of : OfP Tryd.prog Tryd.f24 24 13 k24_C k24_9 := @ofP _ _ _ _ _ _ _ _ Tryd.func24 (by decide +kernel) rfl (by kernel_rfl) rfl (by kernel_rfl)
theorem Fil.lens {x : Fil} (hl : x.tot ≤ 1048576) : ssTot x.rs ≤ 1048576 ∧ x.ts.length ≤ 1048576 := by unfold Fil.tot at hl; omega
theorem toFil_c (x : Fil) (h : Heap) (hl : x.tot ≤ 1048576) : ACalls Tryd.prog 24 [x.av] h (fun v h' => v = x.av ∧ h' = h) := by
  obtain ⟨hl1, hl2⟩ := x.lens hl
  refine k24_of rfl orcL_p fun I => ?_
  refine Run2.of I 1000 ?_
  simp -implicitDefEqProofs
  intro a ha b hb1 hb2
  refine gK.go ?_
  simp -implicitDefEqProofs [hb1]
  refine (toCx_c x.rs _ hl1).mono ?_
  rintro v h' ⟨rfl, rfl⟩
  refine gK.go ?_
  simp -implicitDefEqProofs [hb1, hl2]
  refine .drop b (.drop a (.base ?_))
  simp -implicitDefEqProofs [hb1]
theorem toFil_o (x : Fil) (h : Heap) (hl : x.tot ≤ 1048576) : ACalls Tryd.prog 24 [x.av] h (fun v h' => ∃ h1, OwnFil v x h1 ∧ (∀ i ∈ dom h1, i ∉ dom h) ∧ h' = h1 ++ h) := by
  obtain ⟨hl1, hl2⟩ := x.lens hl
  refine ACalls.permR ?_
  refine k24_of rfl noPure fun I => ?_
  refine Run2.of I 1000 ?_
  simp -implicitDefEqProofs
  intro a ha b hb1 hb2
  refine gK.go ?_
  simp -implicitDefEqProofs [hb1]
  refine (toCx_o x.rs _ hl1).mono ?_
  rintro u h' ⟨h1, ⟨u, rfl, o⟩, hd, rfl⟩
  have hcell := o.cell
  have hst := stor_of hcell
  have hcl := cells_of hcell
  have hd1 : ∀ i ∈ dom h1, i ≠ b ∧ i ≠ a ∧ i ∉ dom h := fun i hi => by
    have := hd i hi
    simpa [dom] using this
  have hA : a ∉ dom h1 := fun hm => (hd1 a hm).2.1 rfl
  have hB : b ∉ dom h1 := fun hm => (hd1 b hm).1 rfl
  have gA : ∀ z, hget (h1 ++ z) a = hget z a := fun z => hget_app hA
  have gB : ∀ z, hget (h1 ++ z) b = hget z b := fun z => hget_app hB
  have sA : ∀ z c, hset (h1 ++ z) a c = h1 ++ hset z a c := fun z c => hset_app hA
  have sB : ∀ z c, hset (h1 ++ z) b c = h1 ++ hset z b c := fun z c => hset_app hB
  refine gK.go ?_
  simp -implicitDefEqProofs [hb1, hcell, hst, hcl, gA, gB, sA, sB]
  refine (toInt64S_o x.ts _ hl2).mono ?_
  rintro w h' ⟨h2, o2, hd2, rfl⟩
  have hcell2 := o2.cell
  have hst2 := stor_of hcell2
  have hcl2 := cells_of hcell2
  have hd3 : ∀ i ∈ dom h2, i ∉ dom h1 ∧ i ≠ b ∧ i ≠ a ∧ i ∉ dom h := fun i hi => by
    have := hd2 i hi
    simpa [dom] using this
  have hA2 : a ∉ dom h2 := fun hm => (hd3 a hm).2.2.1 rfl
  have hB2 : b ∉ dom h2 := fun hm => (hd3 b hm).2.1 rfl
  have gA2 : ∀ z, hget (h2 ++ z) a = hget z a := fun z => hget_app hA2
  have gB2 : ∀ z, hget (h2 ++ z) b = hget z b := fun z => hget_app hB2
  have sA2 : ∀ z c, hset (h2 ++ z) a c = h2 ++ hset z a c := fun z c => hset_app hA2
  have sB2 : ∀ z c, hset (h2 ++ z) b c = h2 ++ hset z b c := fun z c => hset_app hB2
  refine gK.go ?_
  simp -implicitDefEqProofs [hb1, hcell, hst, hcl, gA, gB, sA, sB, hst2, hcl2, gA2, gB2, sA2, sB2, hcell2]
  refine .drop b (.drop a (.base ?_))
  rw [hdel_app hB2, hdel_app hB, hdel_app hA2, hdel_app hA]
  intro _
  refine ⟨(h1 ++ h2) ++ h, ?_, h1 ++ h2, ⟨_, _, h1, h2, rfl, o, o2, fun i hi hi2 => (hd3 i hi2).1 hi, rfl⟩, fun i hi => ?_, rfl⟩
  · simp [hdel, hb1]
    rw [← List.append_assoc, ← List.append_assoc]
    exact List.perm_append_comm.append_right h
  · rw [dom_append, List.mem_append] at hi
    rcases hi with hi | hi
    · exact (hd1 i hi).2.2
    · exact (hd3 i hi).2.2.2
abbrev k22_o0 : List AJ := [.o ⟨(some 2), none, false, .box false 2 (.t 0), none⟩, .o ⟨(some 4), none, false, .mv (.c (.int .i64 0)), (some [1, 2])⟩]
abbrev k22_o1 : List AJ := [.o ⟨(some 5), none, false, .fieldA 0 (.t 2), none⟩, .o ⟨(some 6), none, false, .load 1 true (.t 5), none⟩, .o ⟨(some 7), none, false, .mv (.t 1), none⟩, .o ⟨(some 8), none, false, .call 49 [(.t 6), (.t 7)], none⟩, .o ⟨(some 1), none, false, .mv (.t 8), (some [1, 2])⟩]
abbrev k22_o2 : List AJ := [.o ⟨(some 9), none, false, .mv (.t 1), none⟩, .o ⟨(some 10), none, false, .bin .lss (.t 9) (.c (.int .i64 0)), (some [1, 2, 10])⟩]
abbrev k22_o3 : List AJ := [.o ⟨(some 4), none, false, .mv (.c (.int .i64 (-1))), (some [4])⟩]
def k22_4 : ACode := .seq (.region k22_o3) .ret
def k22_5 : ACode := .cond (.t 10) k22_4 .skip
def k22_6 : ACode := .seq (.region k22_o2) k22_5
abbrev k22_o4 : List AJ := [.o ⟨(some 11), none, false, .fieldA 1 (.t 2), none⟩, .o ⟨(some 12), none, false, .load 1 false (.t 11), none⟩, .o ⟨(some 13), none, false, .mv (.t 1), none⟩, .o ⟨(some 14), none, false, .call 27 [(.t 12), (.t 13)], none⟩, .o ⟨(some 1), none, false, .mv (.t 14), (some [1])⟩]
abbrev k22_o5 : List AJ := [.o ⟨(some 15), none, false, .mv (.t 1), none⟩, .o ⟨(some 16), none, false, .bin .lss (.t 15) (.c (.int .i64 0)), (some [1, 16])⟩]
abbrev k22_o6 : List AJ := [.o ⟨(some 4), none, false, .mv (.c (.int .i64 (-1))), (some [4])⟩]
def k22_10 : ACode := .seq (.region k22_o6) .ret
def k22_11 : ACode := .cond (.t 16) k22_10 .skip
def k22_12 : ACode := .seq (.region k22_o5) k22_11
abbrev k22_o7 : List AJ := [.o ⟨(some 17), none, false, .mv (.t 1), none⟩, .o ⟨(some 4), none, false, .mv (.t 17), (some [4])⟩]
def k22_14 : ACode := .seq (.region k22_o7) .ret
def k22_15 : ACode := .seq k22_12 k22_14
def k22_16 : ACode := .seq (.region k22_o4) k22_15
def k22_17 : ACode := .seq k22_6 k22_16
def k22_18 : ACode := .seq (.region k22_o1) k22_17
def k22_19 : ACode := .seq (.region k22_o0) k22_18
@[simp, simp ↓] theorem k22_4r : sR k22_4 k22_o3 .ret := yR rfl
@[simp, simp ↓] theorem k22_5r : rC k22_5 (.t 10) k22_4 .skip := zC rfl
@[simp, simp ↓] theorem k22_6r : sR k22_6 k22_o2 k22_5 := yR rfl
@[simp, simp ↓] theorem k22_10r : sR k22_10 k22_o6 .ret := yR rfl
@[simp, simp ↓] theorem k22_11r : rC k22_11 (.t 16) k22_10 .skip := zC rfl
@[simp, simp ↓] theorem k22_12r : sR k22_12 k22_o5 k22_11 := yR rfl
@[simp, simp ↓] theorem k22_14r : sR k22_14 k22_o7 .ret := yR rfl
@[simp, simp ↓] theorem k22_15r : rS k22_15 k22_12 k22_14 := zS rfl
@[simp, simp ↓] theorem k22_16r : sR k22_16 k22_o4 k22_15 := yR rfl
@[simp, simp ↓] theorem k22_17r : rS k22_17 k22_6 k22_16 := zS rfl
@[simp, simp ↓] theorem k22_18r : sR k22_18 k22_o1 k22_17 := yR rfl
@[simp, simp ↓] theorem k22_19r : sR k22_19 k22_o0 k22_18 := yR rfl
noncomputable abbrev k22_C : Orc → Cx := mkC Tryd.prog [] 22 18 [.tmp 4]
theorem k22_of0 : OfP0 Tryd.prog Tryd.f22 22 18 k22_C k22_19 := @ofP0 _ _ _ _ _ _ _ _ Tryd.func22 (by decide +kernel) rfl (by kernel_rfl) rfl (by kernel_rfl)
theorem szFil_c (x : Fil) (n : Int) (h : Heap) (hn : 0 ≤ n ∧ n ≤ 1048576) (hw : x.wf) : ACalls Tryd.prog 22 [x.av, .int .i64 n] h (fun v h' => v = .int .i64 (if n < x.tot then -1 else n - x.tot) ∧ h' = h) := by
  have hw2 := hw.2.2
  refine k22_of0 rfl noPure fun I => ?_
  refine Run2.of I 1000 ?_
  simp -implicitDefEqProofs
  refine (szCx_c x.rs n h hn hw.1).mono ?_
  rintro v h' ⟨rfl, rfl⟩
  have e : (x.tot : Int) = ssTot x.rs + x.ts.length := by unfold Fil.tot; omega
  by_cases h1 : n < ssTot x.rs
  · refine gK.go ?_
    simp -implicitDefEqProofs [h1]
    omega
  · refine gK.go ?_
    simp -implicitDefEqProofs [h1]
    refine ⟨by omega, fun h2 => ?_⟩
    refine (szInt64S_c x.ts _ _ (by omega) hw2).mono ?_
    rintro v h' ⟨rfl, rfl⟩
    refine gK.go ?_
    simp -implicitDefEqProofs
    grind
abbrev k26_o0 : List AJ := [.o ⟨(some 2), none, false, .box false 2 (.t 0), none⟩, .o ⟨(some 3), none, false, .box false 2 (.t 1), none⟩, .o ⟨(some 4), none, false, .mv (.c (.bool false)), (some [2, 3])⟩]
abbrev k26_o1 : List AJ := [.o ⟨(some 5), none, false, .fieldA 0 (.t 2), none⟩, .o ⟨(some 6), none, false, .load 1 true (.t 5), none⟩, .o ⟨(some 7), none, false, .fieldA 0 (.t 3), none⟩, .o ⟨(some 8), none, false, .load 1 true (.t 7), none⟩, .o ⟨(some 9), none, false, .call 55 [(.t 6), (.t 8)], none⟩, .o ⟨(some 10), none, false, .un .not (.t 9), (some [2, 3, 10])⟩]
abbrev k26_o2 : List AJ := [.o ⟨(some 4), none, false, .mv (.c (.bool false)), (some [4])⟩]
def k26_3 : ACode := .seq (.region k26_o2) .ret
def k26_4 : ACode := .cond (.t 10) k26_3 .skip
def k26_5 : ACode := .seq (.region k26_o1) k26_4
abbrev k26_o3 : List AJ := [.o ⟨(some 11), none, false, .fieldA 1 (.t 2), none⟩, .o ⟨(some 12), none, false, .load 1 false (.t 11), none⟩, .o ⟨(some 13), none, false, .fieldA 1 (.t 3), none⟩, .o ⟨(some 14), none, false, .load 1 false (.t 13), none⟩, .o ⟨(some 15), none, false, .call 35 [(.t 12), (.t 14)], none⟩, .o ⟨(some 16), none, false, .un .not (.t 15), (some [16])⟩]
abbrev k26_o4 : List AJ := [.o ⟨(some 4), none, false, .mv (.c (.bool false)), (some [4])⟩]
def k26_8 : ACode := .seq (.region k26_o4) .ret
def k26_9 : ACode := .cond (.t 16) k26_8 .skip
def k26_10 : ACode := .seq (.region k26_o3) k26_9
abbrev k26_o5 : List AJ := [.o ⟨(some 4), none, false, .mv (.c (.bool true)), (some [4])⟩]
def k26_12 : ACode := .seq (.region k26_o5) .ret
def k26_13 : ACode := .seq k26_10 k26_12
def k26_14 : ACode := .seq k26_5 k26_13
def k26_15 : ACode := .seq (.region k26_o0) k26_14
@[simp, simp ↓] theorem k26_3r : sR k26_3 k26_o2 .ret := yR rfl
@[simp, simp ↓] theorem k26_4r : rC k26_4 (.t 10) k26_3 .skip := zC rfl
@[simp, simp ↓] theorem k26_5r : sR k26_5 k26_o1 k26_4 := yR rfl
@[simp, simp ↓] theorem k26_8r : sR k26_8 k26_o4 .ret := yR rfl
@[simp, simp ↓] theorem k26_9r : rC k26_9 (.t 16) k26_8 .skip := zC rfl
@[simp, simp ↓] theorem k26_10r : sR k26_10 k26_o3 k26_9 := yR rfl
@[simp, simp ↓] theorem k26_12r : sR k26_12 k26_o5 .ret := yR rfl
@[simp, simp ↓] theorem k26_13r : rS k26_13 k26_10 k26_12 := zS rfl
@[simp, simp ↓] theorem k26_14r : rS k26_14 k26_5 k26_13 := zS rfl
@[simp, simp ↓] theorem k26_15r : sR k26_15 k26_o0 k26_14 := yR rfl
noncomputable abbrev k26_C : Orc → Cx := mkC Tryd.prog [] 26 17 [.tmp 4]
theorem k26_of0 : OfP0 Tryd.prog Tryd.f26 26 17 k26_C k26_15 := @ofP0 _ _ _ _ _ _ _ _ Tryd.func26 (by decide +kernel) rfl (by kernel_rfl) rfl (by kernel_rfl)
theorem eqFil_c (x y : Fil) (h : Heap) (hl : x.tot ≤ 1048576) : ACalls Tryd.prog 26 [x.av, y.av] h (fun v h' => v = .bool (decide (x = y)) ∧ h' = h) := by
  obtain ⟨hl1, hl2⟩ := x.lens hl
  have hf := fit_of_tot hl1
  refine k26_of0 rfl orcL_p fun I => ?_
  cases x; cases y
  refine Run2.of I 1000 ?_
  simp -implicitDefEqProofs
  refine (eqCx_c _ _ _ hl1).mono ?_
  rintro v h' ⟨rfl, rfl⟩
  refine gK.go ?_
  simp -implicitDefEqProofs [hl2]
  grind
/-! ## In the laws: with other memory about -/
theorem eqFil_own {w u : AV} {x y : Fil} {g h : Heap} (o : OwnFil w x g) (hu : IsFil u y) (hs : ∀ p ∈ g, p ∈ h) (hl : x.tot ≤ 1048576) : ACalls Tryd.prog 26 [w, u] h (fun r h' => r = .bool (decide (x = y)) ∧ h' = h) := by
  refine ACalls.reads g hs ?_ rfl
  rw [lend_cons, lend_cons, lend_nil', lend1_cold g hu.cold]
  exact ACalls.wk (.cons (o.lent o.nodup).wk (.cons hu.wk .nil)) (eqFil_c x y [] hl)
theorem eqCx_own {w u : AV} {x y : List (List Int)} {g h : Heap} (o : OwnCx w x g) (hu : IsCx u y) (hs : ∀ p ∈ g, p ∈ h) (hl : ssTot x ≤ 1048576) : ACalls Tryd.prog 55 [w, u] h (fun r h' => r = .bool (decide (x = y)) ∧ h' = h) := by
  refine ACalls.reads g hs ?_ rfl
  rw [lend_cons, lend_cons, lend_nil', lend1_cold g hu.cold]
  exact ACalls.wk (.cons o.lent.wk (.cons hu.wk .nil)) (eqCx_c x y [] hl)
/-! ## Marks -/
end Go.AG
