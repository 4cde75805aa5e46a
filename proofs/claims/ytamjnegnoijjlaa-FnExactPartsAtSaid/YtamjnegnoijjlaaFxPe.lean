/- The parts of a filtration at a time: the program and the reference. No statement is made here. -/
import Derived.Test.YtamjnegnoijjlaaFxPd
namespace Go.AG
open Go.Proofs Go.Proofs.Ytamjnegnoijjlaa
set_option linter.unusedSimpArgs false
set_option linter.unusedVariables false
set_option maxRecDepth 4000
/-- The part of a vertex that has come, or -1. -/
def partV (c : List (List Int)) (v : Int) : Int := if v ∈ vt c then part1 c v else -1
noncomputable def Fil.paL (x : Fil) (t : Int) : List Int := if x.tCode t = 0 then (vt x.rs).map (partV (x.atT t)) else []
theorem Fil.paL_len (x : Fil) (t : Int) : (x.paL t).length ≤ x.rs.length := by
  unfold Fil.paL
  split
  · rw [List.length_map]; exact vt_len _
  · simp
theorem catS (x : Fil) (t : Int) (h : Heap) (hl : x.tot ≤ 1048576) (hv : x.valid) : ACalls Try.prog 66 [x.av, .int .i64 t] h (fun v h' => v = cx (x.atT t) ∧ h' = h) := by
  refine ACalls.post ((ACalls.gives (h := h) [] (by simp) (complexAt_o x t hl hv) fun v h' o => o.own).mono ?_)
  rintro v h' ⟨g, o, _, rfl⟩
  refine Post.lend ?_
  exact .wk o.lent.wk (.base ⟨rfl, rfl⟩)
noncomputable def o_catS : List AV → Option (Prop × AV) := tab (fun (x : LS × List Int × Int) => match x with | (rs, ts, t) => [.agg [.snap 1 (rs.map il), .snap 1 (ts.map iv)], .int .i64 t]) (fun x => match x with | (rs, ts, t) => ((⟨rs, ts⟩ : Fil).tot ≤ 1048576 ∧ (⟨rs, ts⟩ : Fil).valid)) (fun x => match x with | (rs, ts, t) => .agg [.snap 1 (((⟨rs, ts⟩ : Fil).atT t).map il)])
@[simp] theorem o_catS_e (rs : LS) (ts : List Int) (t : Int) : o_catS [.agg [.snap 1 (rs.map il), .snap 1 (ts.map iv)], .int .i64 t] = some (((⟨rs, ts⟩ : Fil).tot ≤ 1048576 ∧ (⟨rs, ts⟩ : Fil).valid), .agg [.snap 1 (((⟨rs, ts⟩ : Fil).atT t).map il)]) := tab_at (enc := fun (x : LS × List Int × Int) => match x with | (rs, ts, t) => [.agg [.snap 1 (rs.map il), .snap 1 (ts.map iv)], .int .i64 t]) (fun x y h => by
  obtain ⟨rs1, ts1, t1⟩ := x; obtain ⟨rs2, ts2, t2⟩ := y; simp at h; simp [h] <;> omega) _ _ (rs, ts, t)
theorem o_catS_k : Knows Try.prog 66 o_catS := tab_knows fun x hx h => by
  obtain ⟨rs, ts, t⟩ := x; exact catS ⟨rs, ts⟩ t h hx.1 hx.2
noncomputable def o_partsOf : List AV → Option (Prop × AV) := tab (fun (x : LS) => match x with | rs => [.agg [.snap 1 (rs.map il)]]) (fun x => match x with | rs => (ssTot rs ≤ 1048576 ∧ cxOk rs)) (fun x => match x with | rs => .snap 1 (((vt rs).map (part1 rs)).map iv))
@[simp] theorem o_partsOf_e (rs : LS) : o_partsOf [.agg [.snap 1 (rs.map il)]] = some ((ssTot rs ≤ 1048576 ∧ cxOk rs), .snap 1 (((vt rs).map (part1 rs)).map iv)) := tab_at (enc := fun (x : LS) => match x with | rs => [.agg [.snap 1 (rs.map il)]]) (fun x y h => by
  simp at h; simp [h] <;> omega) _ _ rs
theorem o_partsOf_k : Knows Try.prog 84 o_partsOf := tab_knows fun x hx h => by
  exact partsOf_s x h hx.1 hx.2
noncomputable def o_l05Parts : List AV → Option (Prop × AV) := tab (fun (x : LS × List AV) => match x with | (rs, e) => [.ip (.snap 1 (rs.map il) :: e)]) (fun x => match x with | (rs, e) => (ssTot rs ≤ 1048576 ∧ cxOk rs)) (fun x => match x with | (rs, e) => .snap 1 (((vt rs).map (part1 rs)).map iv))
@[simp] theorem o_l05Parts_e (rs : LS) (e : List AV) : o_l05Parts [.ip (.snap 1 (rs.map il) :: e)] = some ((ssTot rs ≤ 1048576 ∧ cxOk rs), .snap 1 (((vt rs).map (part1 rs)).map iv)) := tab_at (enc := fun (x : LS × List AV) => match x with | (rs, e) => [.ip (.snap 1 (rs.map il) :: e)]) (fun x y h => by
  obtain ⟨rs1, e1⟩ := x; obtain ⟨rs2, e2⟩ := y; simp at h; simp [h] <;> omega) _ _ (rs, e)
theorem o_l05Parts_k : Knows Try.prog 83 o_l05Parts := tab_knows fun x hx h => by
  obtain ⟨rs, e⟩ := x; exact l05Parts_s rs e h hx.1 hx.2
noncomputable def orcPe1 : List (Nat × (List AV → Option (Prop × AV))) := (65, o_timed) :: (66, o_catS) :: (80, o_vtx) :: (84, o_partsOf) :: (82, o_indexI) :: []
theorem orcPe1_p : Pure Try.prog (lk orcPe1) := (lk_pure o_timed_k (lk_pure o_catS_k (lk_pure o_vtx_k (lk_pure o_partsOf_k (lk_pure o_indexI_k lk_pure0)))))
@[simp] theorem orcPe1_l (b : Bool) (g : FuncId) (l : List AV) : lk orcPe1 b g l = if g = 65 then o_timed l else if g = 66 then o_catS l else if g = 80 then o_vtx l else if g = 84 then o_partsOf l else if g = 82 then o_indexI l else none := nr rfl
abbrev k40_o0 : List AJ := [.o ⟨(some 2), none, false, .box false 2 (.t 0), none⟩, .o ⟨(some 4), none, false, .mv (.c .nilsl), none⟩, .o ⟨(some 5), none, false, .mv (.c (.int .i64 0)), (some [1, 2])⟩]
abbrev k40_o1 : List AJ := [.o ⟨(some 15), none, false, .load 2 true (.t 2), none⟩, .o ⟨(some 16), none, false, .mv (.t 1), none⟩, .o ⟨(some 17), none, false, .call 65 [(.t 15), (.t 16)], none⟩, .o ⟨(some 6), none, false, .mv (.t 17), (some [1, 2, 6])⟩]
abbrev k40_o2 : List AJ := [.o ⟨(some 18), none, false, .mv (.t 6), none⟩, .o ⟨(some 19), none, false, .bin .neq (.t 18) (.c (.int .i64 0)), (some [1, 2, 6, 19])⟩]
abbrev k40_o3 : List AJ := [.o ⟨(some 20), none, false, .mv (.t 6), none⟩, .o ⟨(some 4), none, false, .mv (.c .nilsl), none⟩, .o ⟨(some 5), none, false, .mv (.t 20), (some [4, 5])⟩]
def k40_4 : ACode := .seq (.region k40_o3) .ret
def k40_5 : ACode := .cond (.t 19) k40_4 .skip
def k40_6 : ACode := .seq (.region k40_o2) k40_5
def k40_7 : ACode := .seq (.region k40_o1) k40_6
abbrev k40_o4 : List AJ := [.o ⟨(some 21), none, false, .load 2 true (.t 2), none⟩, .o ⟨(some 22), none, false, .mv (.t 1), none⟩, .o ⟨(some 23), none, false, .call 66 [(.t 21), (.t 22)], none⟩, .v 7 1 (.agg [.nilsl]) [] (.t 23) (some [2, 7])]
abbrev k40_o5 : List AI := [⟨(some 24), none, false, .load 1 true (.t 7), none⟩, ⟨(some 25), none, false, .call 80 [(.t 24)], none⟩, ⟨(some 26), none, false, .load 1 true (.t 7), none⟩, ⟨(some 27), none, false, .call 84 [(.t 26)], none⟩, ⟨(some 8), none, false, .mv (.t 25), none⟩, ⟨(some 9), none, false, .mv (.t 27), (some [2, 8, 9])⟩]
abbrev k40_o6 : List AJ := [.o ⟨(some 10), none, false, .mv (.c .nilsl), (some [2, 8, 9, 10])⟩]
abbrev k40_o7 : List AJ := [.o ⟨(some 28), none, false, .fieldA 0 (.t 2), none⟩, .o ⟨(some 29), none, false, .load 1 true (.t 28), none⟩, .o ⟨(some 30), none, false, .call 80 [(.t 29)], none⟩, .o ⟨(some 31), none, false, .len (.t 30), none⟩, .o ⟨(some 32), none, false, .mv (.c (.int .i64 0)), (some [8, 9, 10, 30, 31, 32])⟩]
abbrev k40_o8 : List AJ := [.o ⟨(some 33), none, false, .bin .lss (.t 32) (.t 31), (some [8, 9, 10, 30, 31, 32, 33])⟩]
abbrev k40_o9 : List AJ := [.o ⟨(some 34), none, false, .idxA 1 (.t 30) (.t 32), none⟩, .o ⟨(some 35), none, false, .load 1 false (.t 34), none⟩, .o ⟨(some 12), none, false, .mv (.t 35), (some [8, 9, 10, 12, 30, 31, 32])⟩]
abbrev k40_o10 : List AJ := [.o ⟨(some 13), none, false, .mv (.c (.int .i64 (-1))), (some [8, 9, 10, 12, 13, 30, 31, 32])⟩]
abbrev k40_o11 : List AJ := [.o ⟨(some 36), none, false, .mv (.t 8), none⟩, .o ⟨(some 37), none, false, .mv (.t 12), none⟩, .o ⟨(some 38), none, false, .call 82 [(.t 36), (.t 37)], none⟩, .o ⟨(some 14), none, false, .mv (.t 38), (some [8, 9, 10, 13, 14, 30, 31, 32])⟩]
abbrev k40_o12 : List AJ := [.o ⟨(some 39), none, false, .mv (.t 14), none⟩, .o ⟨(some 40), none, false, .bin .geq (.t 39) (.c (.int .i64 0)), (some [8, 9, 10, 13, 14, 30, 31, 32, 40])⟩]
abbrev k40_o13 : List AJ := [.o ⟨(some 41), none, false, .mv (.t 9), none⟩, .o ⟨(some 42), none, false, .mv (.t 14), none⟩, .o ⟨(some 43), none, false, .idxA 1 (.t 41) (.t 42), none⟩, .o ⟨(some 44), none, false, .load 1 false (.t 43), none⟩, .o ⟨(some 13), none, false, .mv (.t 44), (some [8, 9, 10, 13, 30, 31, 32])⟩]
def k40_18 : ACode := .region k40_o13
def k40_19 : ACode := .cond (.t 40) k40_18 .skip
def k40_20 : ACode := .seq (.region k40_o12) k40_19
def k40_21 : ACode := .seq (.region k40_o11) k40_20
abbrev k40_o14 : List AJ := [.o ⟨(some 45), none, false, .mv (.t 10), none⟩, .o ⟨(some 46), none, false, .mv (.t 13), none⟩, .o ⟨(some 47), none, false, .bsl false 1 [(.t 46)], none⟩, .o ⟨(some 48), none, false, .append 1 8 (.t 45) (.t 47), none⟩, .o ⟨(some 10), none, false, .mv (.t 48), (some [8, 9, 10, 30, 31, 32])⟩]
def k40_22 : ACode := .region k40_o14
def k40_23 : ACode := .seq k40_21 k40_22
def k40_24 : ACode := .seq (.region k40_o10) k40_23
def k40_25 : ACode := .seq (.region k40_o9) k40_24
abbrev k40_o15 : List AJ := [.o ⟨(some 49), none, true, .bin .add (.t 32) (.c (.int .i64 1)), none⟩, .o ⟨(some 32), none, false, .mv (.t 49), (some [8, 9, 10, 30, 31, 32])⟩]
def k40_27 : ACode := .region k40_o15
def k40_28 : ACode := .seq (.block 1 k40_25) k40_27
def k40_29 : ACode := .seq (.cond (.t 33) .skip (.exit 0)) k40_28
def k40_30 : ACode := .seq (.region k40_o8) k40_29
def k40_31 : ACode := .loop k40_30
def k40_32 : ACode := .block 0 k40_31
def k40_33 : ACode := .seq (.region k40_o7) k40_32
abbrev k40_o16 : List AJ := [.o ⟨(some 50), none, false, .mv (.t 10), none⟩, .o ⟨(some 4), none, false, .mv (.t 50), none⟩, .o ⟨(some 5), none, false, .mv (.c (.int .i64 0)), (some [4, 5])⟩]
def k40_35 : ACode := .seq (.region k40_o16) .ret
def k40_36 : ACode := .seq k40_33 k40_35
def k40_37 : ACode := .seq (.region k40_o6) k40_36
def k40_38 : ACode := .seq (.draw k40_o5 [] rfl) k40_37
def k40_39 : ACode := .seq (.region k40_o4) k40_38
def k40_40 : ACode := .seq k40_7 k40_39
def k40_41 : ACode := .seq (.region k40_o0) k40_40
@[simp, simp ↓] theorem k40_4r : sR k40_4 k40_o3 .ret := yR rfl
@[simp, simp ↓] theorem k40_5r : rC k40_5 (.t 19) k40_4 .skip := zC rfl
@[simp, simp ↓] theorem k40_6r : sR k40_6 k40_o2 k40_5 := yR rfl
@[simp, simp ↓] theorem k40_7r : sR k40_7 k40_o1 k40_6 := yR rfl
@[simp, simp ↓] theorem k40_18r : rR k40_18 k40_o13 := zR rfl
@[simp, simp ↓] theorem k40_19r : rC k40_19 (.t 40) k40_18 .skip := zC rfl
@[simp, simp ↓] theorem k40_20r : sR k40_20 k40_o12 k40_19 := yR rfl
@[simp, simp ↓] theorem k40_21r : sR k40_21 k40_o11 k40_20 := yR rfl
@[simp, simp ↓] theorem k40_22r : rR k40_22 k40_o14 := zR rfl
@[simp, simp ↓] theorem k40_23r : rS k40_23 k40_21 k40_22 := zS rfl
@[simp, simp ↓] theorem k40_24r : sR k40_24 k40_o10 k40_23 := yR rfl
@[simp, simp ↓] theorem k40_25r : sR k40_25 k40_o9 k40_24 := yR rfl
@[simp, simp ↓] theorem k40_27r : rR k40_27 k40_o15 := zR rfl
@[simp, simp ↓] theorem k40_28r : sB k40_28 1 k40_25 k40_27 := yB rfl
@[simp, simp ↓] theorem k40_29r : sC k40_29 (.t 33) .skip (.exit 0) k40_28 := yC rfl
@[simp, simp ↓] theorem k40_30r : sR k40_30 k40_o8 k40_29 := yR rfl
@[simp, simp ↓] theorem k40_31r : rL k40_31 k40_30 := zL rfl
@[simp, simp ↓] theorem k40_32r : rB k40_32 0 k40_31 := zB rfl
@[simp, simp ↓] theorem k40_33r : sR k40_33 k40_o7 k40_32 := yR rfl
@[simp, simp ↓] theorem k40_35r : sR k40_35 k40_o16 .ret := yR rfl
@[simp, simp ↓] theorem k40_36r : rS k40_36 k40_33 k40_35 := zS rfl
@[simp, simp ↓] theorem k40_37r : sR k40_37 k40_o6 k40_36 := yR rfl
@[simp, simp ↓] theorem k40_38r : sD k40_38 k40_o5 [] k40_37 := yD rfl
@[simp, simp ↓] theorem k40_39r : sR k40_39 k40_o4 k40_38 := yR rfl
@[simp, simp ↓] theorem k40_40r : rS k40_40 k40_7 k40_39 := zS rfl
@[simp, simp ↓] theorem k40_41r : sR k40_41 k40_o0 k40_40 := yR rfl
noncomputable abbrev k40_C : Orc → Cx := mkC Try.prog [7] 40 51 [.tmp 4, .tmp 5]
theorem k40_of0 : OfP0 Try.prog Try.f40 40 51 k40_C k40_41 := @ofP0 _ _ _ _ _ _ _ _ Try.func40 (by decide +kernel) rfl (by kernel_rfl) rfl (by kernel_rfl)
theorem implPA_g (x : Fil) (t : Int) (h : Heap) (hl : x.tot ≤ 1048576) : ACalls Try.prog 40 [x.av, .int .i64 t] h (fun v h' => ∃ w g, v = .tup [w, .int .i64 (x.tCode t)] ∧ OwnL iv 1 w (x.paL t) g ∧ h' = g ++ h) := by
  obtain ⟨hl1, hl2⟩ := x.lens hl
  refine k40_of0 rfl orcPe1_p fun I => ?_
  by_cases hc : x.tCode t = 0
  · obtain ⟨hv, ht⟩ := x.tCode_ok hc
    have hpa : x.paL t = (vt x.rs).map (partV (x.atT t)) := by unfold Fil.paL; rw [if_pos hc]
    have hok := Fil.atT_ok hv t
    have htot := x.atT_tot t
    have htot2 : ssTot (x.atT t) ≤ 1048576 := by omega
    have hvl := vt_len x.rs
    have hvl2 := vt_len (x.atT t)
    have hn2 := (fit_of_tot htot2).1
    have hn1 := (fit_of_tot hl1).1
    rw [hpa]
    generalize hcc : x.atT t = c at *
    refine Run2.of I 1000 ?_
    simp -implicitDefEqProofs [hl, hl1, hc, hv, hcc, hok, htot2]
    have hvc : (vt c).length ≤ 1048576 := by omega
    generalize vt x.rs = vs at *
    refine Run2.loopE (α := Nat × AV × Heap) (fun p => [(8, .snap 1 ((vt c).map iv)), (9, .snap 1 (((vt c).map (part1 c)).map iv)), (10, p.2.1), (30, .snap 1 (vs.map iv)), (31, .int .i64 vs.length), (32, .int .i64 (p.1 : Nat))]) (fun p => p.2.2 ++ h) (fun p => vs.length - p.1) (fun p => p.1 ≤ vs.length ∧ Grow 1 p.2.1 (((vs.take p.1).map (partV c)).map iv) p.2.2) (0, .nilsl, []) (by simp) rfl ⟨Nat.zero_le _, by simpa using Grow.nil⟩ ?_
    rintro ⟨i, w, hp⟩ ⟨hi, hg⟩ ih
    simp only at hi hg
    have hcell := hg.cell
    by_cases hlt : i < vs.length
    · have go := fun w' hp' => ih (i + 1, w', hp')
      simp only [List.take_succ_eq_append_getElem hlt, List.map_append] at go
      clear ih
      by_cases hin : vs[i] ∈ vt c
      · have hpv : partV c vs[i] = part1 c vs[i] := by unfold partV; rw [if_pos hin]
        obtain ⟨k, hk, e1, e2⟩ := ixI_at hin
        simp only [List.map_cons, List.map_nil, hpv] at go
        refine Run2.of I 1000 ?_
        simp -implicitDefEqProofs [hlt, hcell, hvc, e1, hk, e2]
        refine hg.app (by simp; omega) (by simp) fun w2 hp2 hg2 => ?_
        have hcell2 := hg2.cell
        have := go w2 hp2 ⟨hlt, by simpa using hg2⟩ (by omega)
        simp -implicitDefEqProofs [hcell2]
        exact ⟨by omega, by simpa using this⟩
      · have hpv : partV c vs[i] = -1 := by unfold partV; rw [if_neg hin]
        have hneg : ¬ 0 ≤ ixI (vt c) vs[i] := fun h => hin ((ixI_ge _ _).1 h)
        simp only [List.map_cons, List.map_nil, hpv] at go
        refine Run2.of I 1000 ?_
        simp -implicitDefEqProofs [hlt, hcell, hvc, hneg]
        refine hg.app (by simp; omega) (by simp) fun w2 hp2 hg2 => ?_
        have hcell2 := hg2.cell
        have := go w2 hp2 ⟨hlt, by simpa using hg2⟩ (by omega)
        simp -implicitDefEqProofs [hcell2]
        exact ⟨by omega, by simpa using this⟩
    · obtain rfl : i = vs.length := by omega
      rw [List.take_length] at hg
      refine Run2.of I 1000 ?_
      simp -implicitDefEqProofs [hlt, hcell]
      exact hg.own
  · have hpa : x.paL t = [] := by unfold Fil.paL; rw [if_neg hc]
    rw [hpa]
    refine Run2.of I 1000 ?_
    simp -implicitDefEqProofs [hl, hc]
    exact .nil
theorem implPA_o (x : Fil) (t : Int) (hl : x.tot ≤ 1048576) : ACalls Try.prog 40 [x.av, .int .i64 t] [] (fun v h' => ∃ w, v = .tup [w, .int .i64 (x.tCode t)] ∧ OwnL iv 1 w (x.paL t) h') :=
  (implPA_g x t [] hl).mono fun v h' ⟨w, g, e1, o, e2⟩ => ⟨w, e1, by rw [e2, List.append_nil]; exact o⟩
noncomputable def orcPe2 : List (Nat × (List AV → Option (Prop × AV))) := (53, o_l21Ok) :: (63, o_l21Time) :: (64, o_l21At) :: (77, o_l08Vtx) :: (83, o_l05Parts) :: []
theorem orcPe2_p : Pure Try.prog (lk orcPe2) := (lk_pure o_l21Ok_k (lk_pure o_l21Time_k (lk_pure o_l21At_k (lk_pure o_l08Vtx_k (lk_pure o_l05Parts_k lk_pure0)))))
@[simp] theorem orcPe2_l (b : Bool) (g : FuncId) (l : List AV) : lk orcPe2 b g l = if g = 53 then o_l21Ok l else if g = 63 then o_l21Time l else if g = 64 then o_l21At l else if g = 77 then o_l08Vtx l else if g = 83 then o_l05Parts l else none := nr rfl
abbrev k39_o0 : List AJ := [.o ⟨(some 2), none, false, .box false 2 (.t 0), none⟩, .o ⟨(some 4), none, false, .mv (.c .nilsl), none⟩, .o ⟨(some 5), none, false, .mv (.c (.int .i64 0)), (some [1, 2])⟩]
abbrev k39_o1 : List AJ := [.o ⟨(some 14), none, false, .call 53 [(.t 2)], none⟩, .o ⟨(some 15), none, false, .un .not (.t 14), (some [1, 2, 15])⟩]
abbrev k39_o2 : List AJ := [.o ⟨(some 4), none, false, .mv (.c .nilsl), none⟩, .o ⟨(some 5), none, false, .mv (.c (.int .i64 1)), (some [4, 5])⟩]
def k39_3 : ACode := .seq (.region k39_o2) .ret
def k39_4 : ACode := .cond (.t 15) k39_3 .skip
def k39_5 : ACode := .seq (.region k39_o1) k39_4
abbrev k39_o3 : List AJ := [.o ⟨(some 16), none, false, .mv (.t 1), none⟩, .o ⟨(some 17), none, false, .call 63 [(.t 16)], none⟩, .o ⟨(some 18), none, false, .un .not (.t 17), (some [1, 2, 18])⟩]
abbrev k39_o4 : List AJ := [.o ⟨(some 4), none, false, .mv (.c .nilsl), none⟩, .o ⟨(some 5), none, false, .mv (.c (.int .i64 2)), (some [4, 5])⟩]
def k39_8 : ACode := .seq (.region k39_o4) .ret
def k39_9 : ACode := .cond (.t 18) k39_8 .skip
def k39_10 : ACode := .seq (.region k39_o3) k39_9
abbrev k39_o5 : List AJ := [.o ⟨(some 19), none, false, .mv (.t 1), none⟩, .o ⟨(some 20), none, false, .call 64 [(.t 2), (.t 19)], none⟩, .v 6 1 (.agg [.nilsl]) [] (.t 20) (some [2, 6])]
abbrev k39_o6 : List AJ := [.o ⟨(some 21), none, false, .call 77 [(.t 6)], none⟩, .o ⟨(some 7), none, false, .mv (.t 21), (some [2, 6, 7])⟩]
abbrev k39_o7 : List AJ := [.o ⟨(some 22), none, false, .call 83 [(.t 6)], none⟩, .o ⟨(some 8), none, false, .mv (.t 22), (some [2, 7, 8])⟩]
abbrev k39_o8 : List AJ := [.o ⟨(some 23), none, false, .fieldA 0 (.t 2), none⟩, .o ⟨(some 24), none, false, .call 77 [(.t 23)], none⟩, .o ⟨(some 9), none, false, .mv (.t 24), (some [7, 8, 9])⟩]
abbrev k39_o9 : List AJ := [.e 25 1 none, .o ⟨(some 10), none, false, .mv (.t 25), (some [7, 8, 9, 10])⟩]
abbrev k39_o10 : List AJ := [.o ⟨(some 11), none, false, .mv (.c (.int .i64 0)), (some [7, 8, 9, 10, 11])⟩]
abbrev k39_o11 : List AJ := [.o ⟨(some 26), none, false, .mv (.t 11), none⟩, .o ⟨(some 27), none, false, .mv (.t 9), none⟩, .o ⟨(some 28), none, false, .len (.t 27), none⟩, .o ⟨(some 29), none, false, .bin .lss (.t 26) (.t 28), (some [7, 8, 9, 10, 11, 29])⟩]
def k39_18 : ACode := .cond (.t 29) .skip (.exit 0)
def k39_19 : ACode := .seq (.region k39_o11) k39_18
abbrev k39_o12 : List AJ := [.o ⟨(some 12), none, false, .mv (.c (.int .i64 (-1))), (some [7, 8, 9, 10, 11, 12])⟩]
abbrev k39_o13 : List AJ := [.o ⟨(some 13), none, false, .mv (.c (.int .i64 0)), (some [7, 8, 9, 10, 11, 12, 13])⟩]
abbrev k39_o14 : List AJ := [.o ⟨(some 32), none, false, .mv (.t 13), none⟩, .o ⟨(some 33), none, false, .mv (.t 7), none⟩, .o ⟨(some 34), none, false, .len (.t 33), none⟩, .o ⟨(some 35), none, false, .bin .lss (.t 32) (.t 34), (some [7, 8, 9, 10, 11, 12, 13, 35])⟩]
def k39_23 : ACode := .cond (.t 35) .skip (.exit 2)
def k39_24 : ACode := .seq (.region k39_o14) k39_23
abbrev k39_o15 : List AI := [⟨(some 38), none, false, .mv (.t 7), none⟩, ⟨(some 39), none, false, .mv (.t 13), none⟩, ⟨(some 40), none, false, .idxA 1 (.t 38) (.t 39), none⟩, ⟨(some 41), none, false, .load 1 false (.t 40), none⟩, ⟨(some 42), none, false, .mv (.t 9), none⟩, ⟨(some 43), none, false, .mv (.t 11), none⟩, ⟨(some 44), none, false, .idxA 1 (.t 42) (.t 43), none⟩, ⟨(some 45), none, false, .load 1 false (.t 44), none⟩, ⟨(some 46), none, false, .bin .eql (.t 41) (.t 45), (some [7, 8, 9, 10, 11, 12, 13, 46])⟩]
abbrev k39_o16 : List AJ := [.o ⟨(some 47), none, false, .mv (.t 8), none⟩, .o ⟨(some 48), none, false, .mv (.t 13), none⟩, .o ⟨(some 49), none, false, .idxA 1 (.t 47) (.t 48), none⟩, .o ⟨(some 50), none, false, .load 1 false (.t 49), none⟩, .o ⟨(some 12), none, false, .mv (.t 50), (some [7, 8, 9, 10, 11, 12, 13])⟩]
def k39_26 : ACode := .region k39_o16
def k39_27 : ACode := .cond (.t 46) k39_26 .skip
def k39_28 : ACode := .seq (.draw k39_o15 [] rfl) k39_27
abbrev k39_o17 : List AJ := [.o ⟨(some 36), none, false, .mv (.t 13), none⟩, .o ⟨(some 37), none, true, .bin .add (.t 36) (.c (.int .i64 1)), none⟩, .o ⟨(some 13), none, false, .mv (.t 37), (some [7, 8, 9, 10, 11, 12, 13])⟩]
def k39_30 : ACode := .region k39_o17
def k39_31 : ACode := .seq (.block 3 k39_28) k39_30
def k39_32 : ACode := .seq k39_24 k39_31
def k39_33 : ACode := .loop k39_32
def k39_34 : ACode := .block 2 k39_33
def k39_35 : ACode := .seq (.region k39_o13) k39_34
abbrev k39_o18 : List AJ := [.o ⟨(some 51), none, false, .mv (.t 10), none⟩, .o ⟨(some 52), none, false, .mv (.t 12), none⟩, .o ⟨(some 53), none, false, .bsl false 1 [(.t 52)], none⟩, .o ⟨(some 54), none, false, .append 1 8 (.t 51) (.t 53), none⟩, .o ⟨(some 10), none, false, .mv (.t 54), (some [7, 8, 9, 10, 11])⟩]
def k39_36 : ACode := .region k39_o18
def k39_37 : ACode := .seq k39_35 k39_36
def k39_38 : ACode := .seq (.region k39_o12) k39_37
abbrev k39_o19 : List AJ := [.o ⟨(some 30), none, false, .mv (.t 11), none⟩, .o ⟨(some 31), none, true, .bin .add (.t 30) (.c (.int .i64 1)), none⟩, .o ⟨(some 11), none, false, .mv (.t 31), (some [7, 8, 9, 10, 11])⟩]
def k39_40 : ACode := .region k39_o19
def k39_41 : ACode := .seq (.block 1 k39_38) k39_40
def k39_42 : ACode := .seq k39_19 k39_41
def k39_43 : ACode := .loop k39_42
def k39_44 : ACode := .block 0 k39_43
def k39_45 : ACode := .seq (.region k39_o10) k39_44
abbrev k39_o20 : List AJ := [.o ⟨(some 55), none, false, .mv (.t 10), none⟩, .o ⟨(some 4), none, false, .mv (.t 55), none⟩, .o ⟨(some 5), none, false, .mv (.c (.int .i64 0)), (some [4, 5])⟩]
def k39_47 : ACode := .seq (.region k39_o20) .ret
def k39_48 : ACode := .seq k39_45 k39_47
def k39_49 : ACode := .seq (.region k39_o9) k39_48
def k39_50 : ACode := .seq (.region k39_o8) k39_49
def k39_51 : ACode := .seq (.region k39_o7) k39_50
def k39_52 : ACode := .seq (.region k39_o6) k39_51
def k39_53 : ACode := .seq (.region k39_o5) k39_52
def k39_54 : ACode := .seq k39_10 k39_53
def k39_55 : ACode := .seq k39_5 k39_54
def k39_56 : ACode := .seq (.region k39_o0) k39_55
@[simp, simp ↓] theorem k39_3r : sR k39_3 k39_o2 .ret := yR rfl
@[simp, simp ↓] theorem k39_4r : rC k39_4 (.t 15) k39_3 .skip := zC rfl
@[simp, simp ↓] theorem k39_5r : sR k39_5 k39_o1 k39_4 := yR rfl
@[simp, simp ↓] theorem k39_8r : sR k39_8 k39_o4 .ret := yR rfl
@[simp, simp ↓] theorem k39_9r : rC k39_9 (.t 18) k39_8 .skip := zC rfl
@[simp, simp ↓] theorem k39_10r : sR k39_10 k39_o3 k39_9 := yR rfl
@[simp, simp ↓] theorem k39_18r : rC k39_18 (.t 29) .skip (.exit 0) := zC rfl
@[simp, simp ↓] theorem k39_19r : sR k39_19 k39_o11 k39_18 := yR rfl
@[simp, simp ↓] theorem k39_23r : rC k39_23 (.t 35) .skip (.exit 2) := zC rfl
@[simp, simp ↓] theorem k39_24r : sR k39_24 k39_o14 k39_23 := yR rfl
@[simp, simp ↓] theorem k39_26r : rR k39_26 k39_o16 := zR rfl
@[simp, simp ↓] theorem k39_27r : rC k39_27 (.t 46) k39_26 .skip := zC rfl
@[simp, simp ↓] theorem k39_28r : sD k39_28 k39_o15 [] k39_27 := yD rfl
@[simp, simp ↓] theorem k39_30r : rR k39_30 k39_o17 := zR rfl
@[simp, simp ↓] theorem k39_31r : sB k39_31 3 k39_28 k39_30 := yB rfl
@[simp, simp ↓] theorem k39_32r : rS k39_32 k39_24 k39_31 := zS rfl
@[simp, simp ↓] theorem k39_33r : rL k39_33 k39_32 := zL rfl
@[simp, simp ↓] theorem k39_34r : rB k39_34 2 k39_33 := zB rfl
@[simp, simp ↓] theorem k39_35r : sR k39_35 k39_o13 k39_34 := yR rfl
@[simp, simp ↓] theorem k39_36r : rR k39_36 k39_o18 := zR rfl
@[simp, simp ↓] theorem k39_37r : rS k39_37 k39_35 k39_36 := zS rfl
@[simp, simp ↓] theorem k39_38r : sR k39_38 k39_o12 k39_37 := yR rfl
@[simp, simp ↓] theorem k39_40r : rR k39_40 k39_o19 := zR rfl
@[simp, simp ↓] theorem k39_41r : sB k39_41 1 k39_38 k39_40 := yB rfl
@[simp, simp ↓] theorem k39_42r : rS k39_42 k39_19 k39_41 := zS rfl
@[simp, simp ↓] theorem k39_43r : rL k39_43 k39_42 := zL rfl
@[simp, simp ↓] theorem k39_44r : rB k39_44 0 k39_43 := zB rfl
@[simp, simp ↓] theorem k39_45r : sR k39_45 k39_o10 k39_44 := yR rfl
@[simp, simp ↓] theorem k39_47r : sR k39_47 k39_o20 .ret := yR rfl
@[simp, simp ↓] theorem k39_48r : rS k39_48 k39_45 k39_47 := zS rfl
@[simp, simp ↓] theorem k39_49r : sR k39_49 k39_o9 k39_48 := yR rfl
@[simp, simp ↓] theorem k39_50r : sR k39_50 k39_o8 k39_49 := yR rfl
@[simp, simp ↓] theorem k39_51r : sR k39_51 k39_o7 k39_50 := yR rfl
@[simp, simp ↓] theorem k39_52r : sR k39_52 k39_o6 k39_51 := yR rfl
@[simp, simp ↓] theorem k39_53r : sR k39_53 k39_o5 k39_52 := yR rfl
@[simp, simp ↓] theorem k39_54r : rS k39_54 k39_10 k39_53 := zS rfl
@[simp, simp ↓] theorem k39_55r : rS k39_55 k39_5 k39_54 := zS rfl
@[simp, simp ↓] theorem k39_56r : sR k39_56 k39_o0 k39_55 := yR rfl
noncomputable abbrev k39_C : Orc → Cx := mkC Try.prog [6, 25] 39 56 [.tmp 4, .tmp 5]
theorem k39_of : OfP Try.prog Try.f39 39 56 k39_C k39_56 := @ofP _ _ _ _ _ _ _ _ Try.func39 (by decide +kernel) rfl (by kernel_rfl) rfl (by kernel_rfl)
theorem specPA_c (x : Fil) (t : Int) (h : Heap) (hl : x.tot ≤ 1048576) : ACalls Try.prog 39 [x.av, .int .i64 t] h (fun v h' => v = .tup [.snap 1 ((x.paL t).map iv), .int .i64 (x.tCode t)] ∧ h' = h) := by
  obtain ⟨hl1, hl2⟩ := x.lens hl
  refine k39_of rfl orcPe2_p fun I => ?_
  by_cases hv : x.valid
  · by_cases ht : 0 ≤ t ∧ t ≤ 1000
    · have ht' : (decide (0 ≤ t) && decide (t ≤ 1000)) = true := by simp [ht]
      have hc : x.tCode t = 0 := by simp [Fil.tCode, hv, ht]
      have hpa : x.paL t = (vt x.rs).map (partV (x.atT t)) := by unfold Fil.paL; rw [if_pos hc]
      have hok := Fil.atT_ok hv t
      have htot := x.atT_tot t
      have htot2 : ssTot (x.atT t) ≤ 1048576 := by omega
      have hvl := vt_len x.rs
      have hvl2 := vt_len (x.atT t)
      have hn2 := (fit_of_tot htot2).1
      have hn1 := (fit_of_tot hl1).1
      rw [hpa, hc]
      generalize hcc : x.atT t = c at *
      refine Run2.of I 1000 ?_
      simp -implicitDefEqProofs [hl, hl1, hv, ht, ht', hcc, hok, htot2]
      have hvc : (vt c).length ≤ 1048576 := by omega
      generalize vt x.rs = vs at *
      refine Run2.loopE (α := Nat × AV × Heap) (fun p => [(7, .snap 1 ((vt c).map iv)), (8, .snap 1 (((vt c).map (part1 c)).map iv)), (9, .snap 1 (vs.map iv)), (10, p.2.1), (11, .int .i64 (p.1 : Nat))]) (fun p => p.2.2 ++ h) (fun p => vs.length - p.1) (fun p => p.1 ≤ vs.length ∧ Grow 1 p.2.1 (((vs.take p.1).map (partV c)).map iv) p.2.2) (0, .emp, []) (by simp) rfl ⟨Nat.zero_le _, by simpa using Grow.emp⟩ ?_
      rintro ⟨i, w, hp⟩ ⟨hi, hg⟩ ih
      simp only at hi hg
      have hcell := hg.cell
      by_cases hlt : i < vs.length
      · have go := fun w' hp' => ih (i + 1, w', hp')
        simp only [List.take_succ_eq_append_getElem hlt, List.map_append] at go
        clear ih
        generalize hvi : vs[i] = v at *
        refine Run2.of I 1000 ?_
        simp -implicitDefEqProofs [hlt]
        refine Run2.loopE (fun (k : Nat) => [(7, .snap 1 ((vt c).map iv)), (8, .snap 1 (((vt c).map (part1 c)).map iv)), (9, .snap 1 (vs.map iv)), (10, w), (11, .int .i64 i), (12, .int .i64 (if v ∈ (vt c).take k then part1 c v else -1)), (13, .int .i64 k)]) (fun _ => hp ++ h) (fun k => (vt c).length - k) (fun k => k ≤ (vt c).length) 0 (by simp) rfl (Nat.zero_le _) fun k hk ih => ?_
        by_cases hkl : k < (vt c).length
        · clear go
          have go := ih (k + 1) hkl (by omega)
          rw [List.take_succ_eq_append_getElem hkl] at go
          clear ih
          by_cases he : (vt c)[k] = v
          · rw [if_pos (by simp [he])] at go
            generalize (if v ∈ (vt c).take k then part1 c v else -1) = P
            refine Run2.of I 1000 ?_
            simp -implicitDefEqProofs [hlt, hkl, hvi, he]
            exact ⟨by omega, by simpa using go⟩
          · have hm : (v ∈ (vt c).take k ++ [(vt c)[k]]) ↔ v ∈ (vt c).take k := by rw [List.mem_append, List.mem_singleton]; exact or_iff_left fun h => he h.symm
            simp only [hm] at go
            generalize (if v ∈ (vt c).take k then part1 c v else -1) = P at *
            refine Run2.of I 1000 ?_
            simp -implicitDefEqProofs [hlt, hkl, hvi, he]
            exact ⟨by omega, by simpa using go⟩
        · obtain rfl : k = (vt c).length := by omega
          rw [List.take_length]
          have hpv : (if v ∈ vt c then part1 c v else -1) = partV c v := rfl
          rw [hpv]
          clear ih
          simp only [List.map_cons, List.map_nil] at go
          generalize partV c v = P at *
          refine Run2.of I 1000 ?_
          simp -implicitDefEqProofs [hkl, hcell]
          refine hg.app (by simp; omega) (by simp) fun w2 hp2 hg2 => ?_
          have hcell2 := hg2.cell
          have := go w2 hp2 ⟨hlt, by simpa using hg2⟩ (by omega)
          simp -implicitDefEqProofs [hcell2]
          exact ⟨by omega, by simpa using this⟩
      · obtain rfl : i = vs.length := by omega
        rw [List.take_length] at hg
        refine Run2.of I 1000 ?_
        simp -implicitDefEqProofs [hlt, hcell]
        refine hg.froze (fun x => .tup [x, .int .i64 0]) (fun id b x => by simp [fz, fzs]) (fun _ _ h => Wk.tup (.cons h (.cons (.refl _) .nil))) (.base ⟨by simp, rfl⟩)
    · have ht' : (decide (0 ≤ t) && decide (t ≤ 1000)) = false := by rw [Bool.eq_false_iff]; simpa using ht
      have hc : x.tCode t = 2 := by simp [Fil.tCode, hv, ht]
      have hpa : x.paL t = [] := by unfold Fil.paL; rw [if_neg (by omega)]
      rw [hpa, hc]
      refine Run2.of I 1000 ?_
      simp -implicitDefEqProofs [hl, hv, ht']
      exact .wk (Wk.tup (.cons (Wk.nil 1) (.cons (.refl _) .nil))) (.base ⟨rfl, rfl⟩)
  · have hc : x.tCode t = 1 := by simp [Fil.tCode, hv]
    have hpa : x.paL t = [] := by unfold Fil.paL; rw [if_neg (by omega)]
    rw [hpa, hc]
    refine Run2.of I 1000 ?_
    simp -implicitDefEqProofs [hl, hv]
    exact .wk (Wk.tup (.cons (Wk.nil 1) (.cons (.refl _) .nil))) (.base ⟨rfl, rfl⟩)
end Go.AG
