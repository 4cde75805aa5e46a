/- Filtrations as data of the laws: how they are copied, compared, counted. No statement is made here. -/
import Derived.Test.YtamjnegnoijjlaaGreatFxT
import Derived.Test.YtamjnegnoijjlaaGreatISSM
import Derived.Test.YtamjnegnoijjlaaGreatAGLists2
namespace Go.AG
open Go.Proofs Go.Proofs.YtamjnegnoijjlaaGreat
set_option linter.unusedSimpArgs false
set_option linter.unusedVariables false
set_option maxRecDepth 4000
@[simp] def Fil.av (x : Fil) : AV := .agg [.snap 1 (x.rs.map il), .snap 1 (x.ts.map iv)]
def Fil.wf (x : Fil) : Prop := wfSS x.rs ∧ wfI x.ts
def Fil.tot (x : Fil) : Nat := ssTot x.rs + x.ts.length
theorem Fil.ext' {x y : Fil} (h1 : x.rs = y.rs) (h2 : x.ts = y.ts) : x = y := by
  cases x; cases y; simp at h1 h2; simp [h1, h2]
theorem Fil.eq_iff (x y : Fil) : x = y ↔ x.rs = y.rs ∧ x.ts = y.ts := ⟨fun h => by rw [h]; exact ⟨rfl, rfl⟩, fun h => Fil.ext' h.1 h.2⟩
def tyF : Ty := .struct (.cons (.struct (.cons tySS .nil)) (.cons (.slice (.int .i64)) .nil))
theorem Fil_of_shape {x : AV} (h : shV tyF x) : ∃ p : Fil, x = p.av ∧ p.wf := by
  obtain ⟨h1, a1, b1, e1, ⟨a2, b2, rfl, ⟨xs, rfl, hlen, r3⟩, hb2⟩, a3, b3, rfl, ⟨ys, rfl, hlen2, r4⟩, h3⟩ := h
  have hm : maxLen ≤ 9223372036854775807 := by decide
  have h3' : b3 = [] := h3
  have hb2' : b2 = [] := hb2
  subst h3' hb2'
  obtain ⟨rs, rfl, hrs⟩ := Lists_list r3
  obtain ⟨ts, hts, hwt⟩ := Ints_of_shape (x := .snap 1 ys) ⟨rfl, ys, rfl, hlen2, r4⟩
  cases x <;> simp [isAgg, tyF, Ty.isS] at h1
  rename_i l
  refine ⟨⟨rs, ts⟩, ?_, ⟨⟨hrs, by simp only [List.length_map] at hlen; exact Nat.le_trans hlen hm⟩, hwt⟩⟩
  simp only [cellsOf] at e1
  rw [e1]
  simp only [AV.snap.injEq, true_and] at hts
  simp [Fil.av, hts, Ty.n]
/-- v is a complex in blocks of its own. -/
def OwnCx (v : AV) (rs : List (List Int)) (hp : Heap) : Prop := ∃ u, v = .agg [u] ∧ OwnLL u rs hp
def IsCx (v : AV) (rs : List (List Int)) : Prop := ∃ u, v = .agg [u] ∧ IsLL u rs
@[simp] def cx (rs : List (List Int)) : AV := .agg [.snap 1 (rs.map il)]
theorem IsCx.wk {v : AV} {rs : List (List Int)} (h : IsCx v rs) : Wk v (cx rs) := by
  obtain ⟨u, rfl, hu⟩ := h
  exact Wk.agg (.cons hu.wk .nil)
theorem IsCx.cold {v : AV} {rs : List (List Int)} (h : IsCx v rs) : Go.AG.cold v = true := by
  obtain ⟨u, rfl, hu⟩ := h
  simp [Go.AG.cold, colds, hu.cold]
theorem lend1_agg1 (L : Heap) (a : AV) : lend1 L (.agg [a]) = .agg [lend1 L a] := by
  induction L generalizing a with
  | nil => rfl
  | cons p L ih => simp only [lend1, fz, fzs]; exact ih _
theorem OwnCx.lentMid {v : AV} {rs : List (List Int)} {hp : Heap} (h : OwnCx v rs hp) {A B : Heap} (nd : (dom (A ++ (hp ++ B))).Nodup) : IsCx (lend1 (A ++ (hp ++ B)) v) rs := by
  obtain ⟨u, rfl, hu⟩ := h
  rw [lend1_agg1]
  exact ⟨_, rfl, hu.lentMid nd⟩
theorem OwnCx.nodup {v : AV} {rs : List (List Int)} {hp : Heap} (h : OwnCx v rs hp) : (dom hp).Nodup := by
  obtain ⟨u, rfl, hu⟩ := h
  exact hu.nodup
theorem OwnCx.lent {v : AV} {rs : List (List Int)} {hp : Heap} (h : OwnCx v rs hp) : IsCx (lend1 hp v) rs := by
  have := h.lentMid (A := []) (B := []) (by simpa using h.nodup)
  simpa using this
theorem OwnCx.own {v : AV} {rs : List (List Int)} {hp : Heap} (h : OwnCx v rs hp) : Go.AG.own v = true ∧ (hp.all fun p => p.2.l.all Go.AG.own) = true := by
  obtain ⟨u, rfl, hu⟩ := h
  exact ⟨by simp [Go.AG.own, owns, hu.own.1], hu.own.2⟩
theorem cx_is (rs : List (List Int)) : IsCx (cx rs) rs := ⟨_, rfl, .is _⟩
def tyCx : Ty := .struct (.cons tySS .nil)
theorem Cx_of_shape {x : AV} (h : shV tyCx x) : ∃ rs, x = cx rs ∧ wfSS rs := by
  obtain ⟨h1, a1, b1, e1, ⟨xs, rfl, hlen, r3⟩, h3⟩ := h
  have hm : maxLen ≤ 9223372036854775807 := by decide
  have h3' : b1 = [] := h3
  subst h3'
  obtain ⟨rs, rfl, hrs⟩ := Lists_list r3
  cases x <;> simp [isAgg, tyCx, Ty.isS] at h1
  rename_i l
  refine ⟨rs, ?_, ⟨hrs, by simp only [List.length_map] at hlen; exact Nat.le_trans hlen hm⟩⟩
  simp only [cellsOf] at e1
  rw [e1]; rfl
/-- v is a filtration in blocks of its own. -/
def OwnFil (v : AV) (x : Fil) (hp : Heap) : Prop := ∃ u w h1 h2, v = .agg [u, w] ∧ OwnLL u x.rs h1 ∧ OwnL iv 1 w x.ts h2 ∧ (∀ i ∈ dom h1, i ∉ dom h2) ∧ hp = h1 ++ h2
/-- v is a filtration that nobody writes. -/
def IsFil (v : AV) (x : Fil) : Prop := ∃ u w, v = .agg [u, w] ∧ IsLL u x.rs ∧ IsL iv 1 w x.ts
theorem IsFil.wk {v : AV} {x : Fil} (h : IsFil v x) : Wk v x.av := by
  obtain ⟨u, w, rfl, hu, hw⟩ := h
  exact Wk.agg (.cons hu.wk (.cons hw.wk .nil))
theorem IsFil.cold {v : AV} {x : Fil} (h : IsFil v x) : Go.AG.cold v = true := by
  obtain ⟨u, w, rfl, hu, hw⟩ := h
  simp [Go.AG.cold, colds, hu.cold, hw.cold cold_iv1]
theorem lend1_agg (L : Heap) (a u : AV) : lend1 L (.agg [a, u]) = .agg [lend1 L a, lend1 L u] := by
  induction L generalizing a u with
  | nil => rfl
  | cons p L ih => simp only [lend1, fz, fzs]; exact ih _ _
theorem OwnFil.lentMid {v : AV} {x : Fil} {hp : Heap} (h : OwnFil v x hp) {A B : Heap} (nd : (dom (A ++ (hp ++ B))).Nodup) : IsFil (lend1 (A ++ (hp ++ B)) v) x := by
  obtain ⟨u, w, h1, h2, rfl, hu, hw, hd, rfl⟩ := h
  rw [lend1_agg]
  refine ⟨_, _, rfl, ?_, hw.lentIn cold_iv1 (fun p hp => by simp [hp]) nd⟩
  have e : A ++ ((h1 ++ h2) ++ B) = A ++ (h1 ++ (h2 ++ B)) := by simp
  rw [e] at nd ⊢
  exact hu.lentMid nd
theorem OwnFil.lent {v : AV} {x : Fil} {hp : Heap} (h : OwnFil v x hp) (nd : (dom hp).Nodup) : IsFil (lend1 hp v) x := by
  have := h.lentMid (A := []) (B := []) (by simpa using nd)
  simpa using this
theorem OwnFil.own {v : AV} {x : Fil} {hp : Heap} (h : OwnFil v x hp) : Go.AG.own v = true ∧ (hp.all fun p => p.2.l.all Go.AG.own) = true := by
  obtain ⟨u, w, h1, h2, rfl, hu, hw, hd, rfl⟩ := h
  exact ⟨by simp [Go.AG.own, owns, hu.own.1, (hw.own own_iv1).1], by rw [List.all_append, hu.own.2, (hw.own own_iv1).2]; rfl⟩
theorem OwnFil.nodup {v : AV} {x : Fil} {hp : Heap} (h : OwnFil v x hp) : (dom hp).Nodup := by
  obtain ⟨u, w, h1, h2, rfl, hu, hw, hd, rfl⟩ := h
  rw [dom_append]
  exact List.nodup_append.2 ⟨hu.nodup, hw.nodup, fun a ha b hb e => hd a ha (e ▸ hb)⟩
theorem Fil.is (x : Fil) : IsFil x.av x := ⟨_, _, rfl, .is _, .snap _⟩
noncomputable def orcL : List (Nat × (List AV → Option (Prop × AV))) := (32, o_toInt64S) :: (20, o_eqInt64S) :: (60, o_toInt64SS) :: (53, o_szInt64SS) :: (70, o_eqInt64SS) :: []
theorem orcL_p : Pure Tryz.prog (lk orcL) := (lk_pure o_toInt64S_k (lk_pure o_eqInt64S_k (lk_pure o_toInt64SS_k (lk_pure o_szInt64SS_k (lk_pure o_eqInt64SS_k lk_pure0)))))
@[simp] theorem orcL_l (b : Bool) (g : FuncId) (l : List AV) : lk orcL b g l = if g = 32 then o_toInt64S l else if g = 20 then o_eqInt64S l else if g = 60 then o_toInt64SS l else if g = 53 then o_szInt64SS l else if g = 70 then o_eqInt64SS l else none := nr rfl
abbrev k31_o0 : List AJ := [.o ⟨(some 1), none, false, .box false 1 (.t 0), none⟩, .o ⟨(some 2), none, false, .alloc true 1 (.agg [.nilsl]), (some [1, 2])⟩]
abbrev k31_o1 : List AJ := [.o ⟨(some 3), none, false, .alloc true 1 (.agg [.nilsl]), (some [1, 2, 3])⟩]
abbrev k31_o2 : List AJ := [.o ⟨(some 4), none, false, .fieldA 0 (.t 1), none⟩, .o ⟨(some 5), none, false, .load 1 false (.t 4), none⟩, .o ⟨(some 6), none, false, .call 60 [(.t 5)], none⟩, .o ⟨(some 7), none, false, .fieldA 0 (.t 3), none⟩, .o ⟨none, none, false, .store 1 (.t 7) (.t 6), (some [2, 3])⟩]
abbrev k31_o3 : List AJ := [.o ⟨(some 8), none, false, .load 1 true (.t 3), none⟩, .o ⟨none, none, false, .store 1 (.t 2) (.t 8), (some [2])⟩]
def k31_4 : ACode := .seq (.region k31_o3) .ret
def k31_5 : ACode := .seq (.region k31_o2) k31_4
def k31_6 : ACode := .seq (.region k31_o1) k31_5
def k31_7 : ACode := .seq (.region k31_o0) k31_6
@[simp, simp ↓] theorem k31_4r : sR k31_4 k31_o3 .ret := yR rfl
@[simp, simp ↓] theorem k31_5r : sR k31_5 k31_o2 k31_4 := yR rfl
@[simp, simp ↓] theorem k31_6r : sR k31_6 k31_o1 k31_5 := yR rfl
@[simp, simp ↓] theorem k31_7r : sR k31_7 k31_o0 k31_6 := yR rfl
noncomputable abbrev k31_C : Orc → Cx := mkC Tryz.prog [2, 3] 31 9 [.cell 2 1 true]
theorem k31_of : OfP Tryz.prog Tryz.f31 31 9 k31_C k31_7 := @ofP _ _ _ _ _ _ _ _ Tryz.func31 (by decide +kernel) rfl (by kernel_rfl) rfl (by kernel_rfl)
theorem toCx_c (rs : List (List Int)) (h : Heap) (hl : ssTot rs ≤ 1048576) : ACalls Tryz.prog 31 [cx rs] h (fun v h' => v = cx rs ∧ h' = h) := by
  refine k31_of rfl noPure fun I => ?_
  refine Run2.of I 1000 ?_
  simp -implicitDefEqProofs
  intro a ha b hb1 hb2
  refine gK.go ?_
  simp -implicitDefEqProofs [hb1]
  refine (toInt64SS_t rs _ hl).mono ?_
  rintro v h' ⟨rfl, rfl⟩
  refine gK.go ?_
  simp -implicitDefEqProofs [hb1]
  refine .drop b (.drop a (.base ?_))
  simp -implicitDefEqProofs [hb1]
theorem toCx_o (rs : List (List Int)) (h : Heap) (hl : ssTot rs ≤ 1048576) : ACalls Tryz.prog 31 [cx rs] h (fun v h' => ∃ h1, OwnCx v rs h1 ∧ (∀ i ∈ dom h1, i ∉ dom h) ∧ h' = h1 ++ h) := by
  refine k31_of rfl noPure fun I => ?_
  refine Run2.of I 1000 ?_
  simp -implicitDefEqProofs
  intro a ha b hb1 hb2
  refine gK.go ?_
  simp -implicitDefEqProofs [hb1]
  refine (toInt64SS_n rs _ hl).mono ?_
  rintro u h' ⟨h1, o, hd, rfl⟩
  have hcell := o.cell
  have hst := stor_of hcell
  have hcl := cells_of hcell
  have hd1 : ∀ i ∈ dom h1, i ≠ b ∧ i ≠ a ∧ i ∉ dom h := fun i hi => by
    have := hd i hi
    simpa [dom] using this
  have hA : a ∉ dom h1 := fun hm => (hd1 a hm).2.1 rfl
  have hB : b ∉ dom h1 := fun hm => (hd1 b hm).1 rfl
  have gA : ∀ z, hget (h1 ++ z) a = hget z a := fun z => hget_app hA
  have gB : ∀ z, hget (h1 ++ z) b = hget z b := fun z => hget_app hB
  have sA : ∀ z c, hset (h1 ++ z) a c = h1 ++ hset z a c := fun z c => hset_app hA
  have sB : ∀ z c, hset (h1 ++ z) b c = h1 ++ hset z b c := fun z c => hset_app hB
  refine gK.go ?_
  simp -implicitDefEqProofs [hb1, hcell, hst, hcl, gA, gB, sA, sB]
  refine .drop b (.drop a (.base ?_))
  rw [hdel_app hB, hdel_app hA]
  refine ⟨h1, ⟨_, rfl, o⟩, fun i hi => (hd1 i hi).2.2, ?_⟩
  simp [hdel, hb1]
abbrev k23_o0 : List AJ := [.o ⟨(some 2), none, false, .box false 1 (.t 0), none⟩, .o ⟨(some 4), none, false, .mv (.c (.int .i64 0)), (some [1, 2])⟩]
abbrev k23_o1 : List AJ := [.o ⟨(some 5), none, false, .fieldA 0 (.t 2), none⟩, .o ⟨(some 6), none, false, .load 1 false (.t 5), none⟩, .o ⟨(some 7), none, false, .mv (.t 1), none⟩, .o ⟨(some 8), none, false, .call 53 [(.t 6), (.t 7)], none⟩, .o ⟨(some 1), none, false, .mv (.t 8), (some [1])⟩]
abbrev k23_o2 : List AJ := [.o ⟨(some 9), none, false, .mv (.t 1), none⟩, .o ⟨(some 10), none, false, .bin .lss (.t 9) (.c (.int .i64 0)), (some [1, 10])⟩]
abbrev k23_o3 : List AJ := [.o ⟨(some 4), none, false, .mv (.c (.int .i64 (-1))), (some [4])⟩]
def k23_4 : ACode := .seq (.region k23_o3) .ret
def k23_5 : ACode := .cond (.t 10) k23_4 .skip
def k23_6 : ACode := .seq (.region k23_o2) k23_5
abbrev k23_o4 : List AJ := [.o ⟨(some 11), none, false, .mv (.t 1), none⟩, .o ⟨(some 4), none, false, .mv (.t 11), (some [4])⟩]
def k23_8 : ACode := .seq (.region k23_o4) .ret
def k23_9 : ACode := .seq k23_6 k23_8
def k23_10 : ACode := .seq (.region k23_o1) k23_9
def k23_11 : ACode := .seq (.region k23_o0) k23_10
@[simp, simp ↓] theorem k23_4r : sR k23_4 k23_o3 .ret := yR rfl
@[simp, simp ↓] theorem k23_5r : rC k23_5 (.t 10) k23_4 .skip := zC rfl
@[simp, simp ↓] theorem k23_6r : sR k23_6 k23_o2 k23_5 := yR rfl
@[simp, simp ↓] theorem k23_8r : sR k23_8 k23_o4 .ret := yR rfl
@[simp, simp ↓] theorem k23_9r : rS k23_9 k23_6 k23_8 := zS rfl
@[simp, simp ↓] theorem k23_10r : sR k23_10 k23_o1 k23_9 := yR rfl
@[simp, simp ↓] theorem k23_11r : sR k23_11 k23_o0 k23_10 := yR rfl
noncomputable abbrev k23_C : Orc → Cx := mkC Tryz.prog [] 23 12 [.tmp 4]
theorem k23_of0 : OfP0 Tryz.prog Tryz.f23 23 12 k23_C k23_11 := @ofP0 _ _ _ _ _ _ _ _ Tryz.func23 (by decide +kernel) rfl (by kernel_rfl) rfl (by kernel_rfl)
theorem szCx_c (rs : List (List Int)) (n : Int) (h : Heap) (hn : 0 ≤ n ∧ n ≤ 1048576) (hw : wfSS rs) : ACalls Tryz.prog 23 [cx rs, .int .i64 n] h (fun v h' => v = .int .i64 (if n < ssTot rs then -1 else n - ssTot rs) ∧ h' = h) := by
  refine k23_of0 rfl orcL_p fun I => ?_
  refine Run2.of I 1000 ?_
  simp -implicitDefEqProofs [hn.1, hn.2, hw]
  grind
abbrev k39_o0 : List AJ := [.o ⟨(some 2), none, false, .box false 1 (.t 0), none⟩, .o ⟨(some 3), none, false, .box false 1 (.t 1), none⟩, .o ⟨(some 4), none, false, .mv (.c (.bool false)), (some [2, 3])⟩]
abbrev k39_o1 : List AJ := [.o ⟨(some 5), none, false, .fieldA 0 (.t 2), none⟩, .o ⟨(some 6), none, false, .load 1 false (.t 5), none⟩, .o ⟨(some 7), none, false, .fieldA 0 (.t 3), none⟩, .o ⟨(some 8), none, false, .load 1 false (.t 7), none⟩, .o ⟨(some 9), none, false, .call 70 [(.t 6), (.t 8)], none⟩, .o ⟨(some 10), none, false, .un .not (.t 9), (some [10])⟩]
abbrev k39_o2 : List AJ := [.o ⟨(some 4), none, false, .mv (.c (.bool false)), (some [4])⟩]
def k39_3 : ACode := .seq (.region k39_o2) .ret
def k39_4 : ACode := .cond (.t 10) k39_3 .skip
def k39_5 : ACode := .seq (.region k39_o1) k39_4
abbrev k39_o3 : List AJ := [.o ⟨(some 4), none, false, .mv (.c (.bool true)), (some [4])⟩]
def k39_7 : ACode := .seq (.region k39_o3) .ret
def k39_8 : ACode := .seq k39_5 k39_7
def k39_9 : ACode := .seq (.region k39_o0) k39_8
@[simp, simp ↓] theorem k39_3r : sR k39_3 k39_o2 .ret := yR rfl
@[simp, simp ↓] theorem k39_4r : rC k39_4 (.t 10) k39_3 .skip := zC rfl
@[simp, simp ↓] theorem k39_5r : sR k39_5 k39_o1 k39_4 := yR rfl
@[simp, simp ↓] theorem k39_7r : sR k39_7 k39_o3 .ret := yR rfl
@[simp, simp ↓] theorem k39_8r : rS k39_8 k39_5 k39_7 := zS rfl
@[simp, simp ↓] theorem k39_9r : sR k39_9 k39_o0 k39_8 := yR rfl
noncomputable abbrev k39_C : Orc → Cx := mkC Tryz.prog [] 39 11 [.tmp 4]
theorem k39_of0 : OfP0 Tryz.prog Tryz.f39 39 11 k39_C k39_9 := @ofP0 _ _ _ _ _ _ _ _ Tryz.func39 (by decide +kernel) rfl (by kernel_rfl) rfl (by kernel_rfl)
theorem eqCx_c (rs qs : List (List Int)) (h : Heap) (hl : ssTot rs ≤ 1048576) : ACalls Tryz.prog 39 [cx rs, cx qs] h (fun v h' => v = .bool (decide (rs = qs)) ∧ h' = h) := by
  have hf := fit_of_tot hl
  refine k39_of0 rfl orcL_p fun I => ?_
  refine Run2.of I 1000 ?_
  simp -implicitDefEqProofs [hf]
abbrev k9_o0 : List AJ := [.o ⟨(some 1), none, false, .box false 2 (.t 0), none⟩, .o ⟨(some 2), none, false, .alloc true 2 (.agg [.nilsl, .nilsl]), (some [1, 2])⟩]
abbrev k9_o1 : List AJ := [.o ⟨(some 3), none, false, .alloc true 2 (.agg [.nilsl, .nilsl]), (some [1, 2, 3])⟩]
abbrev k9_o2 : List AJ := [.o ⟨(some 4), none, false, .fieldA 0 (.t 1), none⟩, .o ⟨(some 5), none, false, .load 1 true (.t 4), none⟩, .o ⟨(some 6), none, false, .call 31 [(.t 5)], none⟩, .o ⟨(some 7), none, false, .fieldA 0 (.t 3), none⟩, .o ⟨none, none, false, .store 1 (.t 7) (.t 6), (some [1, 2, 3])⟩]
abbrev k9_o3 : List AJ := [.o ⟨(some 8), none, false, .fieldA 1 (.t 1), none⟩, .o ⟨(some 9), none, false, .load 1 false (.t 8), none⟩, .o ⟨(some 10), none, false, .call 32 [(.t 9)], none⟩, .o ⟨(some 11), none, false, .fieldA 1 (.t 3), none⟩, .o ⟨none, none, false, .store 1 (.t 11) (.t 10), (some [2, 3])⟩]
abbrev k9_o4 : List AJ := [.o ⟨(some 12), none, false, .load 2 true (.t 3), none⟩, .o ⟨none, none, false, .store 2 (.t 2) (.t 12), (some [2])⟩]
def k9_5 : ACode := .seq (.region k9_o4) .ret
def k9_6 : ACode := .seq (.region k9_o3) k9_5
def k9_7 : ACode := .seq (.region k9_o2) k9_6
def k9_8 : ACode := .seq (.region k9_o1) k9_7
def k9_9 : ACode := .seq (.region k9_o0) k9_8
@[simp, simp ↓] theorem k9_5r : sR k9_5 k9_o4 .ret := yR rfl
@[simp, simp ↓] theorem k9_6r : sR k9_6 k9_o3 k9_5 := yR rfl
@[simp, simp ↓] theorem k9_7r : sR k9_7 k9_o2 k9_6 := yR rfl
@[simp, simp ↓] theorem k9_8r : sR k9_8 k9_o1 k9_7 := yR rfl
@[simp, simp ↓] theorem k9_9r : sR k9_9 k9_o0 k9_8 := yR rfl
noncomputable abbrev k9_C : Orc → Cx := mkC Tryz.prog [2, 3] 9 13 [.cell 2 2 true]
theorem k9_of : OfP Tryz.prog Tryz.f9 9 13 k9_C k9_9 := @ofP _ _ _ _ _ _ _ _ Tryz.func9 (by decide +kernel) rfl (by kernel_rfl) rfl (by kernel_rfl)
theorem Fil.lens {x : Fil} (hl : x.tot ≤ 1048576) : ssTot x.rs ≤ 1048576 ∧ x.ts.length ≤ 1048576 := by unfold Fil.tot at hl; omega
theorem toFil_c (x : Fil) (h : Heap) (hl : x.tot ≤ 1048576) : ACalls Tryz.prog 9 [x.av] h (fun v h' => v = x.av ∧ h' = h) := by
  obtain ⟨hl1, hl2⟩ := x.lens hl
  refine k9_of rfl orcL_p fun I => ?_
  refine Run2.of I 1000 ?_
  simp -implicitDefEqProofs
  intro a ha b hb1 hb2
  refine gK.go ?_
  simp -implicitDefEqProofs [hb1]
  refine (toCx_c x.rs _ hl1).mono ?_
  rintro v h' ⟨rfl, rfl⟩
  refine gK.go ?_
  simp -implicitDefEqProofs [hb1, hl2]
  refine .drop b (.drop a (.base ?_))
  simp -implicitDefEqProofs [hb1]
theorem toFil_o (x : Fil) (h : Heap) (hl : x.tot ≤ 1048576) : ACalls Tryz.prog 9 [x.av] h (fun v h' => ∃ h1, OwnFil v x h1 ∧ (∀ i ∈ dom h1, i ∉ dom h) ∧ h' = h1 ++ h) := by
  obtain ⟨hl1, hl2⟩ := x.lens hl
  refine ACalls.permR ?_
  refine k9_of rfl noPure fun I => ?_
  refine Run2.of I 1000 ?_
  simp -implicitDefEqProofs
  intro a ha b hb1 hb2
  refine gK.go ?_
  simp -implicitDefEqProofs [hb1]
  refine (toCx_o x.rs _ hl1).mono ?_
  rintro u h' ⟨h1, ⟨u, rfl, o⟩, hd, rfl⟩
  have hcell := o.cell
  have hst := stor_of hcell
  have hcl := cells_of hcell
  have hd1 : ∀ i ∈ dom h1, i ≠ b ∧ i ≠ a ∧ i ∉ dom h := fun i hi => by
    have := hd i hi
    simpa [dom] using this
  have hA : a ∉ dom h1 := fun hm => (hd1 a hm).2.1 rfl
  have hB : b ∉ dom h1 := fun hm => (hd1 b hm).1 rfl
  have gA : ∀ z, hget (h1 ++ z) a = hget z a := fun z => hget_app hA
  have gB : ∀ z, hget (h1 ++ z) b = hget z b := fun z => hget_app hB
  have sA : ∀ z c, hset (h1 ++ z) a c = h1 ++ hset z a c := fun z c => hset_app hA
  have sB : ∀ z c, hset (h1 ++ z) b c = h1 ++ hset z b c := fun z c => hset_app hB
  refine gK.go ?_
  simp -implicitDefEqProofs [hb1, hcell, hst, hcl, gA, gB, sA, sB]
  refine (toInt64S_o x.ts _ hl2).mono ?_
  rintro w h' ⟨h2, o2, hd2, rfl⟩
  have hcell2 := o2.cell
  have hst2 := stor_of hcell2
  have hcl2 := cells_of hcell2
  have hd3 : ∀ i ∈ dom h2, i ∉ dom h1 ∧ i ≠ b ∧ i ≠ a ∧ i ∉ dom h := fun i hi => by
    have := hd2 i hi
    simpa [dom] using this
  have hA2 : a ∉ dom h2 := fun hm => (hd3 a hm).2.2.1 rfl
  have hB2 : b ∉ dom h2 := fun hm => (hd3 b hm).2.1 rfl
  have gA2 : ∀ z, hget (h2 ++ z) a = hget z a := fun z => hget_app hA2
  have gB2 : ∀ z, hget (h2 ++ z) b = hget z b := fun z => hget_app hB2
  have sA2 : ∀ z c, hset (h2 ++ z) a c = h2 ++ hset z a c := fun z c => hset_app hA2
  have sB2 : ∀ z c, hset (h2 ++ z) b c = h2 ++ hset z b c := fun z c => hset_app hB2
  refine gK.go ?_
  simp -implicitDefEqProofs [hb1, hcell, hst, hcl, gA, gB, sA, sB, hst2, hcl2, gA2, gB2, sA2, sB2, hcell2]
  refine .drop b (.drop a (.base ?_))
  rw [hdel_app hB2, hdel_app hB, hdel_app hA2, hdel_app hA]
  intro _
  refine ⟨(h1 ++ h2) ++ h, ?_, h1 ++ h2, ⟨_, _, h1, h2, rfl, o, o2, fun i hi hi2 => (hd3 i hi2).1 hi, rfl⟩, fun i hi => ?_, rfl⟩
  · simp [hdel, hb1]
    rw [← List.append_assoc, ← List.append_assoc]
    exact List.perm_append_comm.append_right h
  · rw [dom_append, List.mem_append] at hi
    rcases hi with hi | hi
    · exact (hd1 i hi).2.2
    · exact (hd3 i hi).2.2.2
abbrev k7_o0 : List AJ := [.o ⟨(some 2), none, false, .box false 2 (.t 0), none⟩, .o ⟨(some 4), none, false, .mv (.c (.int .i64 0)), (some [1, 2])⟩]
abbrev k7_o1 : List AJ := [.o ⟨(some 5), none, false, .fieldA 0 (.t 2), none⟩, .o ⟨(some 6), none, false, .load 1 true (.t 5), none⟩, .o ⟨(some 7), none, false, .mv (.t 1), none⟩, .o ⟨(some 8), none, false, .call 23 [(.t 6), (.t 7)], none⟩, .o ⟨(some 1), none, false, .mv (.t 8), (some [1, 2])⟩]
abbrev k7_o2 : List AJ := [.o ⟨(some 9), none, false, .mv (.t 1), none⟩, .o ⟨(some 10), none, false, .bin .lss (.t 9) (.c (.int .i64 0)), (some [1, 2, 10])⟩]
abbrev k7_o3 : List AJ := [.o ⟨(some 4), none, false, .mv (.c (.int .i64 (-1))), (some [4])⟩]
def k7_4 : ACode := .seq (.region k7_o3) .ret
def k7_5 : ACode := .cond (.t 10) k7_4 .skip
def k7_6 : ACode := .seq (.region k7_o2) k7_5
abbrev k7_o4 : List AJ := [.o ⟨(some 11), none, false, .fieldA 1 (.t 2), none⟩, .o ⟨(some 12), none, false, .load 1 false (.t 11), none⟩, .o ⟨(some 13), none, false, .mv (.t 1), none⟩, .o ⟨(some 14), none, false, .call 24 [(.t 12), (.t 13)], none⟩, .o ⟨(some 1), none, false, .mv (.t 14), (some [1])⟩]
abbrev k7_o5 : List AJ := [.o ⟨(some 15), none, false, .mv (.t 1), none⟩, .o ⟨(some 16), none, false, .bin .lss (.t 15) (.c (.int .i64 0)), (some [1, 16])⟩]
abbrev k7_o6 : List AJ := [.o ⟨(some 4), none, false, .mv (.c (.int .i64 (-1))), (some [4])⟩]
def k7_10 : ACode := .seq (.region k7_o6) .ret
def k7_11 : ACode := .cond (.t 16) k7_10 .skip
def k7_12 : ACode := .seq (.region k7_o5) k7_11
abbrev k7_o7 : List AJ := [.o ⟨(some 17), none, false, .mv (.t 1), none⟩, .o ⟨(some 4), none, false, .mv (.t 17), (some [4])⟩]
def k7_14 : ACode := .seq (.region k7_o7) .ret
def k7_15 : ACode := .seq k7_12 k7_14
def k7_16 : ACode := .seq (.region k7_o4) k7_15
def k7_17 : ACode := .seq k7_6 k7_16
def k7_18 : ACode := .seq (.region k7_o1) k7_17
def k7_19 : ACode := .seq (.region k7_o0) k7_18
@[simp, simp ↓] theorem k7_4r : sR k7_4 k7_o3 .ret := yR rfl
@[simp, simp ↓] theorem k7_5r : rC k7_5 (.t 10) k7_4 .skip := zC rfl
@[simp, simp ↓] theorem k7_6r : sR k7_6 k7_o2 k7_5 := yR rfl
@[simp, simp ↓] theorem k7_10r : sR k7_10 k7_o6 .ret := yR rfl
@[simp, simp ↓] theorem k7_11r : rC k7_11 (.t 16) k7_10 .skip := zC rfl
@[simp, simp ↓] theorem k7_12r : sR k7_12 k7_o5 k7_11 := yR rfl
@[simp, simp ↓] theorem k7_14r : sR k7_14 k7_o7 .ret := yR rfl
@[simp, simp ↓] theorem k7_15r : rS k7_15 k7_12 k7_14 := zS rfl
@[simp, simp ↓] theorem k7_16r : sR k7_16 k7_o4 k7_15 := yR rfl
@[simp, simp ↓] theorem k7_17r : rS k7_17 k7_6 k7_16 := zS rfl
@[simp, simp ↓] theorem k7_18r : sR k7_18 k7_o1 k7_17 := yR rfl
@[simp, simp ↓] theorem k7_19r : sR k7_19 k7_o0 k7_18 := yR rfl
noncomputable abbrev k7_C : Orc → Cx := mkC Tryz.prog [] 7 18 [.tmp 4]
theorem k7_of0 : OfP0 Tryz.prog Tryz.f7 7 18 k7_C k7_19 := @ofP0 _ _ _ _ _ _ _ _ Tryz.func7 (by decide +kernel) rfl (by kernel_rfl) rfl (by kernel_rfl)
theorem szFil_c (x : Fil) (n : Int) (h : Heap) (hn : 0 ≤ n ∧ n ≤ 1048576) (hw : x.wf) : ACalls Tryz.prog 7 [x.av, .int .i64 n] h (fun v h' => v = .int .i64 (if n < x.tot then -1 else n - x.tot) ∧ h' = h) := by
  have hw2 := hw.2.2
  refine k7_of0 rfl noPure fun I => ?_
  refine Run2.of I 1000 ?_
  simp -implicitDefEqProofs
  refine (szCx_c x.rs n h hn hw.1).mono ?_
  rintro v h' ⟨rfl, rfl⟩
  have e : (x.tot : Int) = ssTot x.rs + x.ts.length := by unfold Fil.tot; omega
  by_cases h1 : n < ssTot x.rs
  · refine gK.go ?_
    simp -implicitDefEqProofs [h1]
    omega
  · refine gK.go ?_
    simp -implicitDefEqProofs [h1]
    refine ⟨by omega, fun h2 => ?_⟩
    refine (szInt64S_c x.ts _ _ (by omega) hw2).mono ?_
    rintro v h' ⟨rfl, rfl⟩
    refine gK.go ?_
    simp -implicitDefEqProofs
    grind
abbrev k11_o0 : List AJ := [.o ⟨(some 2), none, false, .box false 2 (.t 0), none⟩, .o ⟨(some 3), none, false, .box false 2 (.t 1), none⟩, .o ⟨(some 4), none, false, .mv (.c (.bool false)), (some [2, 3])⟩]
abbrev k11_o1 : List AJ := [.o ⟨(some 5), none, false, .fieldA 0 (.t 2), none⟩, .o ⟨(some 6), none, false, .load 1 true (.t 5), none⟩, .o ⟨(some 7), none, false, .fieldA 0 (.t 3), none⟩, .o ⟨(some 8), none, false, .load 1 true (.t 7), none⟩, .o ⟨(some 9), none, false, .call 39 [(.t 6), (.t 8)], none⟩, .o ⟨(some 10), none, false, .un .not (.t 9), (some [2, 3, 10])⟩]
abbrev k11_o2 : List AJ := [.o ⟨(some 4), none, false, .mv (.c (.bool false)), (some [4])⟩]
def k11_3 : ACode := .seq (.region k11_o2) .ret
def k11_4 : ACode := .cond (.t 10) k11_3 .skip
def k11_5 : ACode := .seq (.region k11_o1) k11_4
abbrev k11_o3 : List AJ := [.o ⟨(some 11), none, false, .fieldA 1 (.t 2), none⟩, .o ⟨(some 12), none, false, .load 1 false (.t 11), none⟩, .o ⟨(some 13), none, false, .fieldA 1 (.t 3), none⟩, .o ⟨(some 14), none, false, .load 1 false (.t 13), none⟩, .o ⟨(some 15), none, false, .call 20 [(.t 12), (.t 14)], none⟩, .o ⟨(some 16), none, false, .un .not (.t 15), (some [16])⟩]
abbrev k11_o4 : List AJ := [.o ⟨(some 4), none, false, .mv (.c (.bool false)), (some [4])⟩]
def k11_8 : ACode := .seq (.region k11_o4) .ret
def k11_9 : ACode := .cond (.t 16) k11_8 .skip
def k11_10 : ACode := .seq (.region k11_o3) k11_9
abbrev k11_o5 : List AJ := [.o ⟨(some 4), none, false, .mv (.c (.bool true)), (some [4])⟩]
def k11_12 : ACode := .seq (.region k11_o5) .ret
def k11_13 : ACode := .seq k11_10 k11_12
def k11_14 : ACode := .seq k11_5 k11_13
def k11_15 : ACode := .seq (.region k11_o0) k11_14
@[simp, simp ↓] theorem k11_3r : sR k11_3 k11_o2 .ret := yR rfl
@[simp, simp ↓] theorem k11_4r : rC k11_4 (.t 10) k11_3 .skip := zC rfl
@[simp, simp ↓] theorem k11_5r : sR k11_5 k11_o1 k11_4 := yR rfl
@[simp, simp ↓] theorem k11_8r : sR k11_8 k11_o4 .ret := yR rfl
@[simp, simp ↓] theorem k11_9r : rC k11_9 (.t 16) k11_8 .skip := zC rfl
@[simp, simp ↓] theorem k11_10r : sR k11_10 k11_o3 k11_9 := yR rfl
@[simp, simp ↓] theorem k11_12r : sR k11_12 k11_o5 .ret := yR rfl
@[simp, simp ↓] theorem k11_13r : rS k11_13 k11_10 k11_12 := zS rfl
@[simp, simp ↓] theorem k11_14r : rS k11_14 k11_5 k11_13 := zS rfl
@[simp, simp ↓] theorem k11_15r : sR k11_15 k11_o0 k11_14 := yR rfl
noncomputable abbrev k11_C : Orc → Cx := mkC Tryz.prog [] 11 17 [.tmp 4]
theorem k11_of0 : OfP0 Tryz.prog Tryz.f11 11 17 k11_C k11_15 := @ofP0 _ _ _ _ _ _ _ _ Tryz.func11 (by decide +kernel) rfl (by kernel_rfl) rfl (by kernel_rfl)
theorem eqFil_c (x y : Fil) (h : Heap) (hl : x.tot ≤ 1048576) : ACalls Tryz.prog 11 [x.av, y.av] h (fun v h' => v = .bool (decide (x = y)) ∧ h' = h) := by
  obtain ⟨hl1, hl2⟩ := x.lens hl
  have hf := fit_of_tot hl1
  refine k11_of0 rfl orcL_p fun I => ?_
  cases x; cases y
  refine Run2.of I 1000 ?_
  simp -implicitDefEqProofs
  refine (eqCx_c _ _ _ hl1).mono ?_
  rintro v h' ⟨rfl, rfl⟩
  refine gK.go ?_
  simp -implicitDefEqProofs [hl2]
  grind
/-! ## In the laws: with other memory about -/
theorem eqFil_own {w u : AV} {x y : Fil} {g h : Heap} (o : OwnFil w x g) (hu : IsFil u y) (hs : ∀ p ∈ g, p ∈ h) (hl : x.tot ≤ 1048576) : ACalls Tryz.prog 11 [w, u] h (fun r h' => r = .bool (decide (x = y)) ∧ h' = h) := by
  refine ACalls.reads g hs ?_ rfl
  rw [lend_cons, lend_cons, lend_nil', lend1_cold g hu.cold]
  exact ACalls.wk (.cons (o.lent o.nodup).wk (.cons hu.wk .nil)) (eqFil_c x y [] hl)
theorem eqCx_own {w u : AV} {x y : List (List Int)} {g h : Heap} (o : OwnCx w x g) (hu : IsCx u y) (hs : ∀ p ∈ g, p ∈ h) (hl : ssTot x ≤ 1048576) : ACalls Tryz.prog 39 [w, u] h (fun r h' => r = .bool (decide (x = y)) ∧ h' = h) := by
  refine ACalls.reads g hs ?_ rfl
  rw [lend_cons, lend_cons, lend_nil', lend1_cold g hu.cold]
  exact ACalls.wk (.cons o.lent.wk (.cons hu.wk .nil)) (eqCx_c x y [] hl)
/-! ## Marks -/
abbrev k40_o0 : List AJ := [.o ⟨(some 2), none, false, .box false 1 (.t 0), none⟩, .o ⟨(some 4), none, false, .mv (.c (.int .i64 0)), (some [1, 2])⟩]
abbrev k40_o1 : List AJ := [.o ⟨(some 5), none, false, .fieldA 0 (.t 2), none⟩, .o ⟨(some 6), none, false, .load 1 false (.t 5), none⟩, .o ⟨(some 7), none, false, .mv (.t 1), none⟩, .o ⟨(some 8), none, false, .call 71 [(.t 6), (.t 7)], none⟩, .o ⟨(some 1), none, false, .mv (.t 8), (some [1])⟩]
abbrev k40_o2 : List AJ := [.o ⟨(some 9), none, false, .mv (.t 1), none⟩, .o ⟨(some 4), none, false, .mv (.t 9), (some [4])⟩]
def k40_3 : ACode := .seq (.region k40_o2) .ret
def k40_4 : ACode := .seq (.region k40_o1) k40_3
def k40_5 : ACode := .seq (.region k40_o0) k40_4
@[simp, simp ↓] theorem k40_3r : sR k40_3 k40_o2 .ret := yR rfl
@[simp, simp ↓] theorem k40_4r : sR k40_4 k40_o1 k40_3 := yR rfl
@[simp, simp ↓] theorem k40_5r : sR k40_5 k40_o0 k40_4 := yR rfl
noncomputable abbrev k40_C : Orc → Cx := mkC Tryz.prog [] 40 10 [.tmp 4]
theorem k40_of0 : OfP0 Tryz.prog Tryz.f40 40 10 k40_C k40_5 := @ofP0 _ _ _ _ _ _ _ _ Tryz.func40 (by decide +kernel) rfl (by kernel_rfl) rfl (by kernel_rfl)
theorem markCx_o {v : AV} {rs : List (List Int)} {hs : Heap} (ho : OwnCx v rs hs) (k : Int) (hk : 0 ≤ k ∧ k ≤ 1073741824) (hl : ssTot rs ≤ 1048576) : ACalls Tryz.prog 40 [v, .int .i64 k] hs (fun r h' => r = .int .i64 (k + sumL rs) ∧ OwnCx v (marksL k rs) h') := by
  obtain ⟨u, rfl, hu⟩ := ho
  have hc := hu.cell
  refine k40_of0 rfl noPure fun I => ?_
  refine Run2.of I 1000 ?_
  simp -implicitDefEqProofs [hc]
  refine (markInt64SS_o hu k hk hl).mono ?_
  rintro r h' ⟨rfl, hu'⟩
  refine gK.go ?_
  simp -implicitDefEqProofs
  exact ⟨_, rfl, hu'⟩
abbrev k41_o0 : List AJ := [.o ⟨(some 2), none, false, .box false 1 (.t 0), none⟩, .o ⟨(some 4), none, false, .mv (.c (.int .i64 0)), (some [1, 2])⟩]
abbrev k41_o1 : List AJ := [.o ⟨(some 5), none, false, .fieldA 0 (.t 2), none⟩, .o ⟨(some 6), none, false, .load 1 false (.t 5), none⟩, .o ⟨(some 7), none, false, .mv (.t 1), none⟩, .o ⟨(some 8), none, false, .call 72 [(.t 6), (.t 7)], none⟩, .o ⟨(some 1), none, false, .mv (.t 8), (some [1])⟩]
abbrev k41_o2 : List AJ := [.o ⟨(some 9), none, false, .mv (.t 1), none⟩, .o ⟨(some 10), none, false, .bin .lss (.t 9) (.c (.int .i64 0)), (some [1, 10])⟩]
abbrev k41_o3 : List AJ := [.o ⟨(some 4), none, false, .mv (.c (.int .i64 (-1))), (some [4])⟩]
def k41_4 : ACode := .seq (.region k41_o3) .ret
def k41_5 : ACode := .cond (.t 10) k41_4 .skip
def k41_6 : ACode := .seq (.region k41_o2) k41_5
abbrev k41_o4 : List AJ := [.o ⟨(some 11), none, false, .mv (.t 1), none⟩, .o ⟨(some 4), none, false, .mv (.t 11), (some [4])⟩]
def k41_8 : ACode := .seq (.region k41_o4) .ret
def k41_9 : ACode := .seq k41_6 k41_8
def k41_10 : ACode := .seq (.region k41_o1) k41_9
def k41_11 : ACode := .seq (.region k41_o0) k41_10
@[simp, simp ↓] theorem k41_4r : sR k41_4 k41_o3 .ret := yR rfl
@[simp, simp ↓] theorem k41_5r : rC k41_5 (.t 10) k41_4 .skip := zC rfl
@[simp, simp ↓] theorem k41_6r : sR k41_6 k41_o2 k41_5 := yR rfl
@[simp, simp ↓] theorem k41_8r : sR k41_8 k41_o4 .ret := yR rfl
@[simp, simp ↓] theorem k41_9r : rS k41_9 k41_6 k41_8 := zS rfl
@[simp, simp ↓] theorem k41_10r : sR k41_10 k41_o1 k41_9 := yR rfl
@[simp, simp ↓] theorem k41_11r : sR k41_11 k41_o0 k41_10 := yR rfl
noncomputable abbrev k41_C : Orc → Cx := mkC Tryz.prog [] 41 12 [.tmp 4]
theorem k41_of0 : OfP0 Tryz.prog Tryz.f41 41 12 k41_C k41_11 := @ofP0 _ _ _ _ _ _ _ _ Tryz.func41 (by decide +kernel) rfl (by kernel_rfl) rfl (by kernel_rfl)
theorem heldCx_s (rs : List (List Int)) (k : Int) (h : Heap) (hk : 0 ≤ k ∧ k ≤ 1073741824) (hl : ssTot rs ≤ 1048576) : ACalls Tryz.prog 41 [cx rs, .int .i64 k] h (fun v h' => v = .int .i64 (if rs = marksL k rs then k + sumL rs else -1) ∧ h' = h) := by
  refine k41_of0 rfl noPure fun I => ?_
  refine Run2.of I 1000 ?_
  simp -implicitDefEqProofs
  refine (heldInt64SS_s rs k h hk hl).mono ?_
  rintro r h' ⟨rfl, rfl⟩
  refine gK.go ?_
  simp -implicitDefEqProofs
  grind
abbrev k12_o0 : List AJ := [.o ⟨(some 2), none, false, .box false 2 (.t 0), none⟩, .o ⟨(some 4), none, false, .mv (.c (.int .i64 0)), (some [1, 2])⟩]
abbrev k12_o1 : List AJ := [.o ⟨(some 5), none, false, .fieldA 0 (.t 2), none⟩, .o ⟨(some 6), none, false, .load 1 true (.t 5), none⟩, .o ⟨(some 7), none, false, .mv (.t 1), none⟩, .o ⟨(some 8), none, false, .call 40 [(.t 6), (.t 7)], none⟩, .o ⟨(some 1), none, false, .mv (.t 8), (some [1, 2])⟩]
abbrev k12_o2 : List AJ := [.o ⟨(some 9), none, false, .fieldA 1 (.t 2), none⟩, .o ⟨(some 10), none, false, .load 1 false (.t 9), none⟩, .o ⟨(some 11), none, false, .mv (.t 1), none⟩, .o ⟨(some 12), none, false, .call 21 [(.t 10), (.t 11)], none⟩, .o ⟨(some 1), none, false, .mv (.t 12), (some [1])⟩]
abbrev k12_o3 : List AJ := [.o ⟨(some 13), none, false, .mv (.t 1), none⟩, .o ⟨(some 4), none, false, .mv (.t 13), (some [4])⟩]
def k12_4 : ACode := .seq (.region k12_o3) .ret
def k12_5 : ACode := .seq (.region k12_o2) k12_4
def k12_6 : ACode := .seq (.region k12_o1) k12_5
def k12_7 : ACode := .seq (.region k12_o0) k12_6
@[simp, simp ↓] theorem k12_4r : sR k12_4 k12_o3 .ret := yR rfl
@[simp, simp ↓] theorem k12_5r : sR k12_5 k12_o2 k12_4 := yR rfl
@[simp, simp ↓] theorem k12_6r : sR k12_6 k12_o1 k12_5 := yR rfl
@[simp, simp ↓] theorem k12_7r : sR k12_7 k12_o0 k12_6 := yR rfl
noncomputable abbrev k12_C : Orc → Cx := mkC Tryz.prog [] 12 14 [.tmp 4]
theorem k12_of0 : OfP0 Tryz.prog Tryz.f12 12 14 k12_C k12_7 := @ofP0 _ _ _ _ _ _ _ _ Tryz.func12 (by decide +kernel) rfl (by kernel_rfl) rfl (by kernel_rfl)
def Fil.cnt (x : Fil) : Nat := sumL x.rs + x.ts.length
def marksF (k : Int) (x : Fil) : Fil := ⟨marksL k x.rs, marks (k + sumL x.rs) x.ts.length⟩
theorem Fil.cnt_le (x : Fil) : x.cnt ≤ x.tot := by unfold Fil.cnt Fil.tot ssTot; omega
@[simp] theorem marksF_tot (k : Int) (x : Fil) : (marksF k x).tot = x.tot := by simp [marksF, Fil.tot]
@[simp] theorem marksF_cnt (k : Int) (x : Fil) : (marksF k x).cnt = x.cnt := by simp [marksF, Fil.cnt]
@[simp] theorem marksF_marksF (k : Int) (x : Fil) : marksF k (marksF k x) = marksF k x := by simp [marksF]
theorem markFil_o {v : AV} {x : Fil} {hs : Heap} (ho : OwnFil v x hs) (k : Int) (hk : 0 ≤ k ∧ k ≤ 1073741824) (hl : x.tot ≤ 1048576) : ACalls Tryz.prog 12 [v, .int .i64 k] hs (fun r h' => r = .int .i64 (k + x.cnt) ∧ OwnFil v (marksF k x) h') := by
  obtain ⟨hl1, hl2⟩ := x.lens hl
  obtain ⟨u, w, h1, h2, rfl, hu, hw, hd, rfl⟩ := ho
  have hc := hu.cell
  have hc2 := hw.cell
  have htot : sumL x.rs ≤ 1048576 := by unfold ssTot at hl1; omega
  refine ACalls.permR ?_
  refine k12_of0 rfl noPure fun I => ?_
  refine Run2.of I 1000 ?_
  simp -implicitDefEqProofs [hc, hc2]
  refine (ACalls.frame h1 [] h2 hu.nodup (fun p hp => List.mem_append_left _ hp) (by simp) (fun p hp => ⟨List.mem_append_right _ hp, fun hm => hd _ hm (List.mem_map.2 ⟨p, hp, rfl⟩)⟩) (fun nd => by rw [dom_append] at nd; exact (List.nodup_append.1 nd).2.1) (S := fun r h' => r = .int .i64 (k + sumL x.rs) ∧ OwnCx (.agg [u]) (marksL k x.rs) h') (by simpa [lend] using markCx_o ⟨u, rfl, hu⟩ k hk hl1) (fun v h' e => by obtain ⟨rfl, e⟩ := e; exact ⟨rfl, e.own.2⟩)).monoN ?_
  rintro v h' ⟨g', ⟨rfl, u', e, og⟩, hdg, rfl⟩ nd
  simp only [AV.agg.injEq, List.cons.injEq, and_true] at e
  subst e
  refine gK.go ?_
  simp -implicitDefEqProofs [hc, hc2]
  refine (markI_keep hw g' (fun p hp => List.mem_append_right _ hp) (fun p hp => ⟨List.mem_append_left _ hp, fun hm => ?_⟩) (fun nd => by rw [dom_append] at nd; exact (List.nodup_append.1 nd).1) (k + sumL x.rs) (by omega) (by omega)).monoN ?_
  · rw [dom_append] at nd
    exact (List.nodup_append.1 nd).2.2 _ (List.mem_map.2 ⟨p, hp, rfl⟩) _ hm rfl
  rintro v h' ⟨g2, rfl, og2, rfl⟩ nd2
  refine gK.go ?_
  simp -implicitDefEqProofs
  intro _
  refine ⟨g' ++ g2, List.perm_append_comm, by simp [Fil.cnt, Int.add_assoc], _, _, g', g2, rfl, og, og2, fun i hi hi2 => ?_, rfl⟩
  rw [dom_append] at nd2
  exact (List.nodup_append.1 nd2).2.2 _ hi2 _ hi rfl
abbrev k13_o0 : List AJ := [.o ⟨(some 2), none, false, .box false 2 (.t 0), none⟩, .o ⟨(some 4), none, false, .mv (.c (.int .i64 0)), (some [1, 2])⟩]
abbrev k13_o1 : List AJ := [.o ⟨(some 5), none, false, .fieldA 0 (.t 2), none⟩, .o ⟨(some 6), none, false, .load 1 true (.t 5), none⟩, .o ⟨(some 7), none, false, .mv (.t 1), none⟩, .o ⟨(some 8), none, false, .call 41 [(.t 6), (.t 7)], none⟩, .o ⟨(some 1), none, false, .mv (.t 8), (some [1, 2])⟩]
abbrev k13_o2 : List AJ := [.o ⟨(some 9), none, false, .mv (.t 1), none⟩, .o ⟨(some 10), none, false, .bin .lss (.t 9) (.c (.int .i64 0)), (some [1, 2, 10])⟩]
abbrev k13_o3 : List AJ := [.o ⟨(some 4), none, false, .mv (.c (.int .i64 (-1))), (some [4])⟩]
def k13_4 : ACode := .seq (.region k13_o3) .ret
def k13_5 : ACode := .cond (.t 10) k13_4 .skip
def k13_6 : ACode := .seq (.region k13_o2) k13_5
abbrev k13_o4 : List AJ := [.o ⟨(some 11), none, false, .fieldA 1 (.t 2), none⟩, .o ⟨(some 12), none, false, .load 1 false (.t 11), none⟩, .o ⟨(some 13), none, false, .mv (.t 1), none⟩, .o ⟨(some 14), none, false, .call 22 [(.t 12), (.t 13)], none⟩, .o ⟨(some 1), none, false, .mv (.t 14), (some [1])⟩]
abbrev k13_o5 : List AJ := [.o ⟨(some 15), none, false, .mv (.t 1), none⟩, .o ⟨(some 16), none, false, .bin .lss (.t 15) (.c (.int .i64 0)), (some [1, 16])⟩]
abbrev k13_o6 : List AJ := [.o ⟨(some 4), none, false, .mv (.c (.int .i64 (-1))), (some [4])⟩]
def k13_10 : ACode := .seq (.region k13_o6) .ret
def k13_11 : ACode := .cond (.t 16) k13_10 .skip
def k13_12 : ACode := .seq (.region k13_o5) k13_11
abbrev k13_o7 : List AJ := [.o ⟨(some 17), none, false, .mv (.t 1), none⟩, .o ⟨(some 4), none, false, .mv (.t 17), (some [4])⟩]
def k13_14 : ACode := .seq (.region k13_o7) .ret
def k13_15 : ACode := .seq k13_12 k13_14
def k13_16 : ACode := .seq (.region k13_o4) k13_15
def k13_17 : ACode := .seq k13_6 k13_16
def k13_18 : ACode := .seq (.region k13_o1) k13_17
def k13_19 : ACode := .seq (.region k13_o0) k13_18
@[simp, simp ↓] theorem k13_4r : sR k13_4 k13_o3 .ret := yR rfl
@[simp, simp ↓] theorem k13_5r : rC k13_5 (.t 10) k13_4 .skip := zC rfl
@[simp, simp ↓] theorem k13_6r : sR k13_6 k13_o2 k13_5 := yR rfl
@[simp, simp ↓] theorem k13_10r : sR k13_10 k13_o6 .ret := yR rfl
@[simp, simp ↓] theorem k13_11r : rC k13_11 (.t 16) k13_10 .skip := zC rfl
@[simp, simp ↓] theorem k13_12r : sR k13_12 k13_o5 k13_11 := yR rfl
@[simp, simp ↓] theorem k13_14r : sR k13_14 k13_o7 .ret := yR rfl
@[simp, simp ↓] theorem k13_15r : rS k13_15 k13_12 k13_14 := zS rfl
@[simp, simp ↓] theorem k13_16r : sR k13_16 k13_o4 k13_15 := yR rfl
@[simp, simp ↓] theorem k13_17r : rS k13_17 k13_6 k13_16 := zS rfl
@[simp, simp ↓] theorem k13_18r : sR k13_18 k13_o1 k13_17 := yR rfl
@[simp, simp ↓] theorem k13_19r : sR k13_19 k13_o0 k13_18 := yR rfl
noncomputable abbrev k13_C : Orc → Cx := mkC Tryz.prog [] 13 18 [.tmp 4]
theorem k13_of0 : OfP0 Tryz.prog Tryz.f13 13 18 k13_C k13_19 := @ofP0 _ _ _ _ _ _ _ _ Tryz.func13 (by decide +kernel) rfl (by kernel_rfl) rfl (by kernel_rfl)
theorem heldFil_s (x : Fil) (k : Int) (h : Heap) (hk : 0 ≤ k ∧ k ≤ 1073741824) (hl : x.tot ≤ 1048576) : ACalls Tryz.prog 13 [x.av, .int .i64 k] h (fun v h' => v = .int .i64 (if x = marksF k x then k + x.cnt else -1) ∧ h' = h) := by
  obtain ⟨hl1, hl2⟩ := x.lens hl
  have htot : sumL x.rs ≤ 1048576 := by unfold ssTot at hl1; omega
  refine k13_of0 rfl noPure fun I => ?_
  refine Run2.of I 1000 ?_
  simp -implicitDefEqProofs
  refine (heldCx_s x.rs k h hk hl1).mono ?_
  rintro r h' ⟨rfl, rfl⟩
  have e : x = marksF k x ↔ x.rs = marksL k x.rs ∧ x.ts = marks (k + sumL x.rs) x.ts.length := Fil.eq_iff _ _
  by_cases h1 : x.rs = marksL k x.rs
  · rw [if_pos h1]
    refine gK.go ?_
    simp -implicitDefEqProofs
    refine ⟨fun h => by omega, fun _ => ?_⟩
    refine (heldInt64S_s x.ts (k + sumL x.rs) h' (by omega) (by omega)).mono ?_
    rintro r h' ⟨rfl, rfl⟩
    by_cases h2 : x.ts = marks (k + sumL x.rs) x.ts.length
    · rw [if_pos h2]
      have e2 := e.2 ⟨h1, h2⟩
      have hz : ¬ (k + sumL x.rs + x.ts.length < 0) := by omega
      refine gK.go ?_
      simp -implicitDefEqProofs [hz]
      rw [if_pos e2]; unfold Fil.cnt; omega
    · rw [if_neg h2]
      have e2 : ¬ x = marksF k x := fun h => h2 (e.1 h).2
      refine gK.go ?_
      simp -implicitDefEqProofs [e2]
  · rw [if_neg h1]
    have e2 : ¬ x = marksF k x := fun h => h1 (e.1 h).1
    refine gK.go ?_
    simp -implicitDefEqProofs [e2]
theorem heldFil_own {w : AV} {l : Fil} {g h : Heap} (o : OwnFil w l g) (hs : ∀ p ∈ g, p ∈ h) (k : Int) (hk : 0 ≤ k ∧ k ≤ 1073741824) (hl : l.tot ≤ 1048576) : ACalls Tryz.prog 13 [w, .int .i64 k] h (fun r h' => r = .int .i64 (if l = marksF k l then k + l.cnt else -1) ∧ h' = h) := by
  refine ACalls.reads g hs ?_ rfl
  rw [lend_cons, lend_cons, lend_nil', lend1_cold g (x := .int .i64 k) rfl]
  exact ACalls.wk (.cons (o.lent o.nodup).wk (.refl _)) (heldFil_s l k [] hk hl)
theorem heldCx_own {w : AV} {l : List (List Int)} {g h : Heap} (o : OwnCx w l g) (hs : ∀ p ∈ g, p ∈ h) (k : Int) (hk : 0 ≤ k ∧ k ≤ 1073741824) (hl : ssTot l ≤ 1048576) : ACalls Tryz.prog 41 [w, .int .i64 k] h (fun r h' => r = .int .i64 (if l = marksL k l then k + sumL l else -1) ∧ h' = h) := by
  refine ACalls.reads g hs ?_ rfl
  rw [lend_cons, lend_cons, lend_nil', lend1_cold g (x := .int .i64 k) rfl]
  exact ACalls.wk (.cons o.lent.wk (.refl _)) (heldCx_s l k [] hk hl)
theorem markFil_drop {w : AV} {l : Fil} {g h : Heap} (o : OwnFil w l g) (keep : Heap) (hs : ∀ p ∈ g, p ∈ h) (hk : ∀ p ∈ keep, p ∈ h ∧ p.1 ∉ dom g) (nk : (dom h).Nodup → (dom keep).Nodup) (k : Int) (hk1 : 0 ≤ k ∧ k ≤ 1073741824) (hl : l.tot ≤ 1048576) : ACalls Tryz.prog 12 [w, .int .i64 k] h (fun r h' => r = .int .i64 (k + l.cnt) ∧ h' = keep) :=
  ACalls.marks g keep o.nodup hs hk nk (S := fun h' => OwnFil w (marksF k l) h') (markFil_o o k hk1 hl) ⟨rfl, fun h' ho => ho.own.2⟩
theorem markFil_keep {w : AV} {l : Fil} {g h : Heap} (o : OwnFil w l g) (keep : Heap) (hs : ∀ p ∈ g, p ∈ h) (hk : ∀ p ∈ keep, p ∈ h ∧ p.1 ∉ dom g) (nk : (dom h).Nodup → (dom keep).Nodup) (k : Int) (hk1 : 0 ≤ k ∧ k ≤ 1073741824) (hl : l.tot ≤ 1048576) : ACalls Tryz.prog 12 [w, .int .i64 k] h (fun r h' => ∃ g', r = .int .i64 (k + l.cnt) ∧ OwnFil w (marksF k l) g' ∧ h' = g' ++ keep) :=
  (ACalls.frame g [] keep o.nodup hs (by simp) hk nk (S := fun v h' => v = .int .i64 (k + l.cnt) ∧ OwnFil w (marksF k l) h') (by simpa [lend] using markFil_o o k hk1 hl) (fun v h' e => by obtain ⟨rfl, e⟩ := e; exact ⟨rfl, e.own.2⟩)).mono fun v h' ⟨g', ⟨e1, e2⟩, _, e3⟩ => ⟨g', e1, e2, e3⟩
theorem markCx_drop {w : AV} {l : List (List Int)} {g h : Heap} (o : OwnCx w l g) (keep : Heap) (hs : ∀ p ∈ g, p ∈ h) (hk : ∀ p ∈ keep, p ∈ h ∧ p.1 ∉ dom g) (nk : (dom h).Nodup → (dom keep).Nodup) (k : Int) (hk1 : 0 ≤ k ∧ k ≤ 1073741824) (hl : ssTot l ≤ 1048576) : ACalls Tryz.prog 40 [w, .int .i64 k] h (fun r h' => r = .int .i64 (k + sumL l) ∧ h' = keep) :=
  ACalls.marks g keep o.nodup hs hk nk (S := fun h' => OwnCx w (marksL k l) h') (markCx_o o k hk1 hl) ⟨rfl, fun h' ho => ho.own.2⟩
theorem markCx_keep {w : AV} {l : List (List Int)} {g h : Heap} (o : OwnCx w l g) (keep : Heap) (hs : ∀ p ∈ g, p ∈ h) (hk : ∀ p ∈ keep, p ∈ h ∧ p.1 ∉ dom g) (nk : (dom h).Nodup → (dom keep).Nodup) (k : Int) (hk1 : 0 ≤ k ∧ k ≤ 1073741824) (hl : ssTot l ≤ 1048576) : ACalls Tryz.prog 40 [w, .int .i64 k] h (fun r h' => ∃ g', r = .int .i64 (k + sumL l) ∧ OwnCx w (marksL k l) g' ∧ h' = g' ++ keep) :=
  (ACalls.frame g [] keep o.nodup hs (by simp) hk nk (S := fun v h' => v = .int .i64 (k + sumL l) ∧ OwnCx w (marksL k l) h') (by simpa [lend] using markCx_o o k hk1 hl) (fun v h' e => by obtain ⟨rfl, e⟩ := e; exact ⟨rfl, e.own.2⟩)).mono fun v h' ⟨g', ⟨e1, e2⟩, _, e3⟩ => ⟨g', e1, e2, e3⟩
end Go.AG
