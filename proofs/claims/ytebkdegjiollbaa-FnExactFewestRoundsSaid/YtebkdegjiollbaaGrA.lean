/- Graphs as plain data, and what the set's own helpers of graphs do: they copy, compare and count. No statement is made here. -/
import Derived.Test.YtebkdegjiollbaaRows
import Derived.Test.YtebkdegjiollbaaAGInts
namespace Go.AG
open Go.Proofs Go.Proofs.Ytebkdegjiollbaa
set_option linter.unusedSimpArgs false
set_option linter.unusedVariables false
set_option maxRecDepth 4000
theorem Int_of_shape {x : AV} (h : shV (.int .i64) x) : ∃ n : Int, x = .int .i64 n ∧ in64 n := by
  obtain ⟨h1, n, e, r⟩ := h
  cases x <;> simp [isAgg, Ty.isS, cellsOf] at h1 e
  exact ⟨n, by rw [e.1, e.2], r⟩
structure T where
  f : Int
  t : Int
  s : Int
  deriving DecidableEq, Inhabited
@[simp] def T.av (x : T) : AV := .agg [.int .i64 x.f, .int .i64 x.t, .int .i64 x.s]
def T.ok (x : T) : Prop := in64 x.f ∧ in64 x.t ∧ in64 x.s
theorem T.ext' {x y : T} (h1 : x.f = y.f) (h2 : x.t = y.t) (h3 : x.s = y.s) : x = y := by
  cases x; cases y; simp at h1 h2 h3; simp [h1, h2, h3]
theorem T.av_inj {x y : T} (h : x.av = y.av) : x = y := by
  simp at h; exact T.ext' h.1 h.2.1 h.2.2
@[simp] theorem Ts_inj (l m : List T) : (l.map T.av = m.map T.av) ↔ l = m := ⟨fun h => List.map_inj_right (fun _ _ => T.av_inj) |>.1 h, fun h => by rw [h]⟩
@[simp] theorem T_eta (x : T) : (⟨x.f, x.t, x.s⟩ : T) = x := rfl
def tz : AV := .agg [.int .i64 0, .int .i64 0, .int .i64 0]
def tyT : Ty := .struct (.cons (.int .i64) (.cons (.int .i64) (.cons (.int .i64) .nil)))
theorem T_of_shape {x : AV} (h : isAgg x = tyT.isS ∧ shC tyT (cellsOf x)) : ∃ t : T, x = t.av ∧ t.ok := by
  obtain ⟨h1, a1, b1, e1, ⟨n1, rfl, r1⟩, a2, b2, rfl, ⟨n2, rfl, r2⟩, a3, b3, rfl, ⟨n3, rfl, r3⟩, h3⟩ := h
  have h3' : b3 = [] := h3
  subst h3'
  cases x <;> simp [isAgg, tyT, Ty.isS] at h1
  rename_i l
  refine ⟨⟨n1, n2, n3⟩, ?_, r1, r2, r3⟩
  simp only [cellsOf] at e1
  rw [e1]; rfl
theorem Ts_of_shape : ∀ {xs : List AV}, (∀ x ∈ xs, isAgg x = tyT.isS ∧ shC tyT (cellsOf x)) → ∃ ts : List T, xs = ts.map T.av ∧ ∀ t ∈ ts, t.ok
  | [], _ => ⟨[], rfl, by simp⟩
  | x :: xs, h => by
    obtain ⟨t, rfl, ht⟩ := T_of_shape (h x (List.mem_cons_self ..))
    obtain ⟨ts, rfl, hts⟩ := Ts_of_shape (xs := xs) fun y hy => h y (List.mem_cons_of_mem _ hy)
    exact ⟨t :: ts, rfl, by simpa using ⟨ht, hts⟩⟩
abbrev k90_o0 : List AJ := [.o ⟨(some 1), none, false, .box false 3 (.t 0), none⟩, .o ⟨(some 2), none, false, .alloc true 3 (.agg [(.int .i64 0), (.int .i64 0), (.int .i64 0)]), (some [1, 2])⟩]
abbrev k90_o1 : List AJ := [.o ⟨(some 3), none, false, .alloc true 3 (.agg [(.int .i64 0), (.int .i64 0), (.int .i64 0)]), (some [1, 2, 3])⟩]
abbrev k90_o2 : List AJ := [.o ⟨(some 4), none, false, .fieldA 0 (.t 1), none⟩, .o ⟨(some 5), none, false, .load 1 false (.t 4), none⟩, .o ⟨(some 6), none, false, .fieldA 0 (.t 3), none⟩, .o ⟨none, none, false, .store 1 (.t 6) (.t 5), (some [1, 2, 3])⟩]
abbrev k90_o3 : List AJ := [.o ⟨(some 7), none, false, .fieldA 1 (.t 1), none⟩, .o ⟨(some 8), none, false, .load 1 false (.t 7), none⟩, .o ⟨(some 9), none, false, .fieldA 1 (.t 3), none⟩, .o ⟨none, none, false, .store 1 (.t 9) (.t 8), (some [1, 2, 3])⟩]
abbrev k90_o4 : List AJ := [.o ⟨(some 10), none, false, .fieldA 2 (.t 1), none⟩, .o ⟨(some 11), none, false, .load 1 false (.t 10), none⟩, .o ⟨(some 12), none, false, .fieldA 2 (.t 3), none⟩, .o ⟨none, none, false, .store 1 (.t 12) (.t 11), (some [2, 3])⟩]
abbrev k90_o5 : List AJ := [.o ⟨(some 13), none, false, .load 3 true (.t 3), none⟩, .o ⟨none, none, false, .store 3 (.t 2) (.t 13), (some [2])⟩]
def k90_6 : ACode := .seq (.region k90_o5) .ret
def k90_7 : ACode := .seq (.region k90_o4) k90_6
def k90_8 : ACode := .seq (.region k90_o3) k90_7
def k90_9 : ACode := .seq (.region k90_o2) k90_8
def k90_10 : ACode := .seq (.region k90_o1) k90_9
def k90_11 : ACode := .seq (.region k90_o0) k90_10
@[simp, simp ↓] theorem k90_6r : sR k90_6 k90_o5 .ret := yR rfl
@[simp, simp ↓] theorem k90_7r : sR k90_7 k90_o4 k90_6 := yR rfl
@[simp, simp ↓] theorem k90_8r : sR k90_8 k90_o3 k90_7 := yR rfl
@[simp, simp ↓] theorem k90_9r : sR k90_9 k90_o2 k90_8 := yR rfl
@[simp, simp ↓] theorem k90_10r : sR k90_10 k90_o1 k90_9 := yR rfl
@[simp, simp ↓] theorem k90_11r : sR k90_11 k90_o0 k90_10 := yR rfl
noncomputable abbrev k90_C : Orc → Cx := mkC Try.prog [2, 3] 90 14 [.cell 2 3 true]
theorem k90_of : OfP Try.prog Try.f90 90 14 k90_C k90_11 := @ofP _ _ _ _ _ _ _ _ Try.func90 (by decide +kernel) rfl (by kernel_rfl) rfl (by kernel_rfl)
theorem toEdge_c (x : T) (h : Heap) : ACalls Try.prog 90 [x.av] h (fun v h' => v = x.av ∧ h' = h) := by
  refine k90_of rfl noPure fun I => ?_
  refine Run2.of I 1000 ?_
  simp -implicitDefEqProofs
  intro a ha b hb1 hb2
  refine gK.go ?_
  simp -implicitDefEqProofs [hb1]
  refine .drop b (.drop a (.base ?_))
  simp -implicitDefEqProofs [hb1]
noncomputable def o_toEdge : List AV → Option (Prop × AV) := tab (fun (x : Int × Int × Int) => match x with | (f, t, s) => [.agg [.int .i64 f, .int .i64 t, .int .i64 s]]) (fun x => match x with | (f, t, s) => True) (fun x => match x with | (f, t, s) => .agg [.int .i64 f, .int .i64 t, .int .i64 s])
@[simp] theorem o_toEdge_e (f : Int) (t : Int) (s : Int) : o_toEdge [.agg [.int .i64 f, .int .i64 t, .int .i64 s]] = some (True, .agg [.int .i64 f, .int .i64 t, .int .i64 s]) := tab_at (enc := fun (x : Int × Int × Int) => match x with | (f, t, s) => [.agg [.int .i64 f, .int .i64 t, .int .i64 s]]) (fun x y h => by
  obtain ⟨f1, t1, s1⟩ := x; obtain ⟨f2, t2, s2⟩ := y; simp at h; simp [h] <;> omega) _ _ (f, t, s)
theorem o_toEdge_k : Knows Try.prog 90 o_toEdge := tab_knows fun x hx h => by
  obtain ⟨f, t, s⟩ := x; exact toEdge_c ⟨f, t, s⟩ h
abbrev k48_o0 : List AJ := [.o ⟨(some 2), none, false, .mv (.c .nilsl), (some [0])⟩]
abbrev k48_o1 : List AJ := [.o ⟨(some 5), none, false, .mv (.t 0), none⟩, .o ⟨(some 6), none, false, .len (.t 5), none⟩, .o ⟨(some 7), none, false, .mksl 3 24 (.agg [(.int .i64 0), (.int .i64 0), (.int .i64 0)]) (.t 6) (.t 6), none⟩, .o ⟨(some 3), none, false, .mv (.t 7), (some [0, 3])⟩]
abbrev k48_o2 : List AJ := [.o ⟨(some 4), none, false, .mv (.c (.int .i64 0)), (some [0, 3, 4])⟩]
abbrev k48_o3 : List AJ := [.o ⟨(some 8), none, false, .mv (.t 4), none⟩, .o ⟨(some 9), none, false, .mv (.t 0), none⟩, .o ⟨(some 10), none, false, .len (.t 9), none⟩, .o ⟨(some 11), none, false, .bin .lss (.t 8) (.t 10), (some [0, 3, 4, 11])⟩]
def k48_4 : ACode := .cond (.t 11) .skip (.exit 0)
def k48_5 : ACode := .seq (.region k48_o3) k48_4
abbrev k48_o4 : List AJ := [.o ⟨(some 14), none, false, .mv (.t 3), none⟩, .o ⟨(some 15), none, false, .mv (.t 4), none⟩, .o ⟨(some 16), none, false, .mv (.t 0), none⟩, .o ⟨(some 17), none, false, .mv (.t 4), none⟩, .o ⟨(some 18), none, false, .idxA 3 (.t 16) (.t 17), none⟩, .o ⟨(some 19), none, false, .load 3 true (.t 18), none⟩, .o ⟨(some 20), none, false, .call 90 [(.t 19)], none⟩, .o ⟨(some 21), none, false, .idxA 3 (.t 14) (.t 15), none⟩, .o ⟨none, none, false, .store 3 (.t 21) (.t 20), (some [0, 3, 4])⟩]
def k48_6 : ACode := .region k48_o4
abbrev k48_o5 : List AJ := [.o ⟨(some 12), none, false, .mv (.t 4), none⟩, .o ⟨(some 13), none, true, .bin .add (.t 12) (.c (.int .i64 1)), none⟩, .o ⟨(some 4), none, false, .mv (.t 13), (some [0, 3, 4])⟩]
def k48_8 : ACode := .region k48_o5
def k48_9 : ACode := .seq (.block 1 k48_6) k48_8
def k48_10 : ACode := .seq k48_5 k48_9
def k48_11 : ACode := .loop k48_10
def k48_12 : ACode := .block 0 k48_11
def k48_13 : ACode := .seq (.region k48_o2) k48_12
abbrev k48_o6 : List AJ := [.o ⟨(some 22), none, false, .mv (.t 3), none⟩, .o ⟨(some 2), none, false, .mv (.t 22), (some [2])⟩]
def k48_15 : ACode := .seq (.region k48_o6) .ret
def k48_16 : ACode := .seq k48_13 k48_15
def k48_17 : ACode := .seq (.region k48_o1) k48_16
def k48_18 : ACode := .seq (.region k48_o0) k48_17
@[simp, simp ↓] theorem k48_4r : rC k48_4 (.t 11) .skip (.exit 0) := zC rfl
@[simp, simp ↓] theorem k48_5r : sR k48_5 k48_o3 k48_4 := yR rfl
@[simp, simp ↓] theorem k48_6r : rR k48_6 k48_o4 := zR rfl
@[simp, simp ↓] theorem k48_8r : rR k48_8 k48_o5 := zR rfl
@[simp, simp ↓] theorem k48_9r : sB k48_9 1 k48_6 k48_8 := yB rfl
@[simp, simp ↓] theorem k48_10r : rS k48_10 k48_5 k48_9 := zS rfl
@[simp, simp ↓] theorem k48_11r : rL k48_11 k48_10 := zL rfl
@[simp, simp ↓] theorem k48_12r : rB k48_12 0 k48_11 := zB rfl
@[simp, simp ↓] theorem k48_13r : sR k48_13 k48_o2 k48_12 := yR rfl
@[simp, simp ↓] theorem k48_15r : sR k48_15 k48_o6 .ret := yR rfl
@[simp, simp ↓] theorem k48_16r : rS k48_16 k48_13 k48_15 := zS rfl
@[simp, simp ↓] theorem k48_17r : sR k48_17 k48_o1 k48_16 := yR rfl
@[simp, simp ↓] theorem k48_18r : sR k48_18 k48_o0 k48_17 := yR rfl
noncomputable abbrev k48_C : Orc → Cx := mkC Try.prog [] 48 23 [.tmp 2]
theorem k48_of0 : OfP0 Try.prog Try.f48 48 23 k48_C k48_18 := @ofP0 _ _ _ _ _ _ _ _ Try.func48 (by decide +kernel) rfl (by kernel_rfl) rfl (by kernel_rfl)
theorem toEdgeS_w (l : List T) (h : Heap) (hl : l.length ≤ 1048576) : ACalls Try.prog 48 [.snap 3 (l.map T.av)] h (fun v h' => ∃ id, id ∉ dom h ∧ v = .sl id 3 0 l.length (some l.length) ∧ h' = (id, ⟨3, l.map T.av⟩) :: h) := by
  refine k48_of0 rfl (lk_pure o_toEdge_k lk_pure0) fun I => ?_
  refine Run2.of I 1000 ?_
  simp -implicitDefEqProofs
  refine ⟨by omega, fun id hid => ?_⟩
  refine Run2.loop (fun i => [(0, .snap 3 (l.map T.av)), (3, .sl id 3 0 l.length (some l.length)), (4, .int .i64 (i : Nat))]) (fun i => (id, ⟨3, (l.map T.av).take i ++ List.replicate (l.length - i) tz⟩) :: h) (fun i => l.length - i) (fun i => i ≤ l.length) 0 (Nat.zero_le _) fun i hi ih => ?_
  by_cases hlt : i < l.length
  · refine Run2.of I 1000 ?_
    simp -implicitDefEqProofs [hlt]
    refine ⟨by omega, by omega, ?_⟩
    have := ih (i + 1) (by omega) (by omega)
    simpa [set_fill (l.map T.av) tz (i := i) (n := l.length) (by simp) (by simpa using hlt)] using this
  · obtain rfl : i = l.length := by omega
    refine Run2.of I 1000 ?_
    simp -implicitDefEqProofs
    refine ⟨id, hid, rfl, ?_⟩
    rw [List.take_of_length_le (by simp)]
theorem toEdgeS_c (l : List T) (h : Heap) (hl : l.length ≤ 1048576) : ACalls Try.prog 48 [.snap 3 (l.map T.av)] h (fun v h' => v = .snap 3 (l.map T.av) ∧ h' = h) := by
  refine ACalls.post ((toEdgeS_w l h hl).mono ?_)
  rintro v h' ⟨id, hid, rfl, rfl⟩
  refine .freeze id (by simp; rfl) (.base ?_)
  simp [List.take_of_length_le]
@[simp] theorem T.cold (x : T) : Go.AG.cold x.av = true := rfl
@[simp] theorem T.own (x : T) : Go.AG.own x.av = true := rfl
structure Gr where
  n : Int
  ts : List T
  deriving DecidableEq
@[simp] def Gr.av (x : Gr) : AV := .agg [.int .i64 x.n, .snap 3 (x.ts.map T.av)]
def Gr.ok (x : Gr) : Prop := in64 x.n ∧ ∀ t ∈ x.ts, t.ok
@[simp] theorem Gr_eta (x : Gr) : (⟨x.n, x.ts⟩ : Gr) = x := rfl
def tyG : Ty := .struct (.cons (.int .i64) (.cons (.slice tyT) .nil))
def Gr.wf (p : Gr) : Prop := p.ok ∧ p.ts.length ≤ 9223372036854775807
theorem Gr_of_shape {x : AV} (h : shV tyG x) : ∃ p : Gr, x = p.av ∧ p.wf := by
  obtain ⟨h1, a1, b1, e1, ⟨n1, rfl, r1⟩, a3, b3, rfl, ⟨xs, rfl, hlen, r3⟩, h3⟩ := h
  have hm : maxLen ≤ 9223372036854775807 := by decide
  have h3' : b3 = [] := h3
  subst h3'
  obtain ⟨ts, rfl, hts⟩ := Ts_of_shape r3
  cases x <;> simp [isAgg, tyG, Ty.isS] at h1
  rename_i l
  refine ⟨⟨n1, ts⟩, ?_, ⟨r1, hts⟩, by simp only [List.length_map] at hlen; exact Nat.le_trans hlen hm⟩
  simp only [cellsOf] at e1
  rw [e1]; rfl
abbrev k10_o0 : List AJ := [.o ⟨(some 1), none, false, .box false 2 (.t 0), none⟩, .o ⟨(some 2), none, false, .alloc true 2 (.agg [(.int .i64 0), .nilsl]), (some [1, 2])⟩]
abbrev k10_o1 : List AJ := [.o ⟨(some 3), none, false, .alloc true 2 (.agg [(.int .i64 0), .nilsl]), (some [1, 2, 3])⟩]
abbrev k10_o2 : List AJ := [.o ⟨(some 4), none, false, .fieldA 0 (.t 1), none⟩, .o ⟨(some 5), none, false, .load 1 false (.t 4), none⟩, .o ⟨(some 6), none, false, .fieldA 0 (.t 3), none⟩, .o ⟨none, none, false, .store 1 (.t 6) (.t 5), (some [1, 2, 3])⟩]
abbrev k10_o3 : List AJ := [.o ⟨(some 7), none, false, .fieldA 1 (.t 1), none⟩, .o ⟨(some 8), none, false, .load 1 false (.t 7), none⟩, .o ⟨(some 9), none, false, .call 48 [(.t 8)], none⟩, .o ⟨(some 10), none, false, .fieldA 1 (.t 3), none⟩, .o ⟨none, none, false, .store 1 (.t 10) (.t 9), (some [2, 3])⟩]
abbrev k10_o4 : List AJ := [.o ⟨(some 11), none, false, .load 2 true (.t 3), none⟩, .o ⟨none, none, false, .store 2 (.t 2) (.t 11), (some [2])⟩]
def k10_5 : ACode := .seq (.region k10_o4) .ret
def k10_6 : ACode := .seq (.region k10_o3) k10_5
def k10_7 : ACode := .seq (.region k10_o2) k10_6
def k10_8 : ACode := .seq (.region k10_o1) k10_7
def k10_9 : ACode := .seq (.region k10_o0) k10_8
@[simp, simp ↓] theorem k10_5r : sR k10_5 k10_o4 .ret := yR rfl
@[simp, simp ↓] theorem k10_6r : sR k10_6 k10_o3 k10_5 := yR rfl
@[simp, simp ↓] theorem k10_7r : sR k10_7 k10_o2 k10_6 := yR rfl
@[simp, simp ↓] theorem k10_8r : sR k10_8 k10_o1 k10_7 := yR rfl
@[simp, simp ↓] theorem k10_9r : sR k10_9 k10_o0 k10_8 := yR rfl
noncomputable abbrev k10_C : Orc → Cx := mkC Try.prog [2, 3] 10 12 [.cell 2 2 true]
theorem k10_of : OfP Try.prog Try.f10 10 12 k10_C k10_9 := @ofP _ _ _ _ _ _ _ _ Try.func10 (by decide +kernel) rfl (by kernel_rfl) rfl (by kernel_rfl)
theorem toGraph_c (x : Gr) (h : Heap) (hl : x.ts.length ≤ 1048576) : ACalls Try.prog 10 [x.av] h (fun v h' => v = x.av ∧ h' = h) := by
  refine k10_of rfl noPure fun I => ?_
  refine Run2.of I 1000 ?_
  simp -implicitDefEqProofs
  intro a ha b hb1 hb2
  refine gK.go ?_
  simp -implicitDefEqProofs [hb1]
  refine (toEdgeS_c x.ts _ hl).mono ?_
  rintro v h' ⟨rfl, rfl⟩
  refine gK.go ?_
  simp -implicitDefEqProofs [hb1]
  refine .drop b (.drop a (.base ?_))
  simp -implicitDefEqProofs [hb1]
/-- v is a graph whose edges stand in a block of its own. -/
def OwnG (v : AV) (x : Gr) (hp : Heap) : Prop := ∃ u, v = .agg [.int .i64 x.n, u] ∧ OwnL T.av 3 u x.ts hp
/-- v is a graph that nobody writes. -/
def IsG (v : AV) (x : Gr) : Prop := ∃ u, v = .agg [.int .i64 x.n, u] ∧ IsL T.av 3 u x.ts
theorem IsG.wk {v : AV} {x : Gr} (h : IsG v x) : Wk v x.av := by
  obtain ⟨u, rfl, hu⟩ := h
  exact Wk.agg (.cons (.refl _) (.cons hu.wk .nil))
theorem IsG.cold {v : AV} {x : Gr} (h : IsG v x) : Go.AG.cold v = true := by
  obtain ⟨u, rfl, hu⟩ := h
  simp [Go.AG.cold, colds, hu.cold T.cold]
theorem lend1_agg2 (L : Heap) (a : Int) (u : AV) : lend1 L (.agg [.int .i64 a, u]) = .agg [.int .i64 a, lend1 L u] := by
  induction L generalizing u with
  | nil => rfl
  | cons p L ih => simp only [lend1, fz, fzs]; exact ih _
theorem OwnG.lent {v : AV} {x : Gr} {hp : Heap} (h : OwnG v x hp) : IsG (lend1 hp v) x := by
  obtain ⟨u, rfl, hu⟩ := h
  exact ⟨_, lend1_agg2 hp _ u, hu.lent⟩
theorem OwnG.lentIn {v : AV} {x : Gr} {hp : Heap} (h : OwnG v x hp) {L : Heap} (hs : ∀ p ∈ hp, p ∈ L) (nd : (dom L).Nodup) : IsG (lend1 L v) x := by
  obtain ⟨u, rfl, hu⟩ := h
  exact ⟨_, lend1_agg2 L _ u, hu.lentIn T.cold hs nd⟩
theorem OwnG.own {v : AV} {x : Gr} {hp : Heap} (h : OwnG v x hp) : Go.AG.own v = true ∧ (hp.all fun p => p.2.l.all Go.AG.own) = true := by
  obtain ⟨u, rfl, hu⟩ := h
  exact ⟨by simp [Go.AG.own, owns, (hu.own T.own).1], (hu.own T.own).2⟩
theorem OwnG.nodup {v : AV} {x : Gr} {hp : Heap} (h : OwnG v x hp) : (dom hp).Nodup := by
  obtain ⟨u, rfl, hu⟩ := h
  exact hu.nodup
theorem toGraph_o (x : Gr) (h : Heap) (hl : x.ts.length ≤ 1048576) : ACalls Try.prog 10 [x.av] h (fun v h' => ∃ h1, OwnG v x h1 ∧ (∀ i ∈ dom h1, i ∉ dom h) ∧ h' = h1 ++ h) := by
  refine k10_of rfl noPure fun I => ?_
  refine Run2.of I 1000 ?_
  simp -implicitDefEqProofs
  intro a ha b hb1 hb2
  refine gK.go ?_
  simp -implicitDefEqProofs [hb1]
  refine (toEdgeS_w x.ts _ hl).mono ?_
  rintro v h' ⟨id, hid, rfl, rfl⟩
  simp [dom] at hid
  refine gK.go ?_
  simp -implicitDefEqProofs [hb1, hid, Ne.symm hid.1, Ne.symm hid.2.1]
  refine .drop b (.drop a (.base ?_))
  refine ⟨[(id, ⟨3, x.ts.map T.av ++ []⟩)], ⟨_, rfl, .sl id _ [] rfl⟩, ?_, ?_⟩
  · simpa [dom] using hid.2.2
  · simp [hid, Ne.symm hid.1, hb1]
abbrev k43_o0 : List AJ := [.o ⟨(some 4), none, false, .mv (.c (.int .i64 0)), (some [0, 1])⟩]
abbrev k43_o1 : List AJ := [.o ⟨(some 5), none, false, .mv (.t 1), none⟩, .o ⟨(some 6), none, false, .mv (.t 0), none⟩, .o ⟨(some 7), none, false, .len (.t 6), none⟩, .o ⟨(some 8), none, true, .bin .sub (.t 5) (.t 7), none⟩, .o ⟨(some 1), none, false, .mv (.t 8), (some [1])⟩]
abbrev k43_o2 : List AJ := [.o ⟨(some 9), none, false, .mv (.t 1), none⟩, .o ⟨(some 10), none, false, .bin .lss (.t 9) (.c (.int .i64 0)), (some [1, 10])⟩]
abbrev k43_o3 : List AJ := [.o ⟨(some 4), none, false, .mv (.c (.int .i64 (-1))), (some [4])⟩]
def k43_4 : ACode := .seq (.region k43_o3) .ret
def k43_5 : ACode := .cond (.t 10) k43_4 .skip
def k43_6 : ACode := .seq (.region k43_o2) k43_5
abbrev k43_o4 : List AJ := [.o ⟨(some 11), none, false, .mv (.t 1), none⟩, .o ⟨(some 4), none, false, .mv (.t 11), (some [4])⟩]
def k43_8 : ACode := .seq (.region k43_o4) .ret
def k43_9 : ACode := .seq k43_6 k43_8
def k43_10 : ACode := .seq (.region k43_o1) k43_9
def k43_11 : ACode := .seq (.region k43_o0) k43_10
@[simp, simp ↓] theorem k43_4r : sR k43_4 k43_o3 .ret := yR rfl
@[simp, simp ↓] theorem k43_5r : rC k43_5 (.t 10) k43_4 .skip := zC rfl
@[simp, simp ↓] theorem k43_6r : sR k43_6 k43_o2 k43_5 := yR rfl
@[simp, simp ↓] theorem k43_8r : sR k43_8 k43_o4 .ret := yR rfl
@[simp, simp ↓] theorem k43_9r : rS k43_9 k43_6 k43_8 := zS rfl
@[simp, simp ↓] theorem k43_10r : sR k43_10 k43_o1 k43_9 := yR rfl
@[simp, simp ↓] theorem k43_11r : sR k43_11 k43_o0 k43_10 := yR rfl
noncomputable abbrev k43_C : Orc → Cx := mkC Try.prog [] 43 12 [.tmp 4]
theorem k43_of0 : OfP0 Try.prog Try.f43 43 12 k43_C k43_11 := @ofP0 _ _ _ _ _ _ _ _ Try.func43 (by decide +kernel) rfl (by kernel_rfl) rfl (by kernel_rfl)
theorem szEdgeS_c (l : List T) (n : Int) (h : Heap) (hn : 0 ≤ n ∧ n ≤ 1048576) (hl : l.length ≤ 9223372036854775807) : ACalls Try.prog 43 [.snap 3 (l.map T.av), .int .i64 n] h (fun v h' => v = .int .i64 (if n < l.length then -1 else n - l.length) ∧ h' = h) := by
  refine k43_of0 rfl noPure fun I => ?_
  refine Run2.of I 1000 ?_
  simp -implicitDefEqProofs
  grind
abbrev k8_o0 : List AJ := [.o ⟨(some 2), none, false, .box false 2 (.t 0), none⟩, .o ⟨(some 4), none, false, .mv (.c (.int .i64 0)), (some [1, 2])⟩]
abbrev k8_o1 : List AJ := [.o ⟨(some 5), none, false, .fieldA 1 (.t 2), none⟩, .o ⟨(some 6), none, false, .load 1 false (.t 5), none⟩, .o ⟨(some 7), none, false, .mv (.t 1), none⟩, .o ⟨(some 8), none, false, .call 43 [(.t 6), (.t 7)], none⟩, .o ⟨(some 1), none, false, .mv (.t 8), (some [1])⟩]
abbrev k8_o2 : List AJ := [.o ⟨(some 9), none, false, .mv (.t 1), none⟩, .o ⟨(some 10), none, false, .bin .lss (.t 9) (.c (.int .i64 0)), (some [1, 10])⟩]
abbrev k8_o3 : List AJ := [.o ⟨(some 4), none, false, .mv (.c (.int .i64 (-1))), (some [4])⟩]
def k8_4 : ACode := .seq (.region k8_o3) .ret
def k8_5 : ACode := .cond (.t 10) k8_4 .skip
def k8_6 : ACode := .seq (.region k8_o2) k8_5
abbrev k8_o4 : List AJ := [.o ⟨(some 11), none, false, .mv (.t 1), none⟩, .o ⟨(some 4), none, false, .mv (.t 11), (some [4])⟩]
def k8_8 : ACode := .seq (.region k8_o4) .ret
def k8_9 : ACode := .seq k8_6 k8_8
def k8_10 : ACode := .seq (.region k8_o1) k8_9
def k8_11 : ACode := .seq (.region k8_o0) k8_10
@[simp, simp ↓] theorem k8_4r : sR k8_4 k8_o3 .ret := yR rfl
@[simp, simp ↓] theorem k8_5r : rC k8_5 (.t 10) k8_4 .skip := zC rfl
@[simp, simp ↓] theorem k8_6r : sR k8_6 k8_o2 k8_5 := yR rfl
@[simp, simp ↓] theorem k8_8r : sR k8_8 k8_o4 .ret := yR rfl
@[simp, simp ↓] theorem k8_9r : rS k8_9 k8_6 k8_8 := zS rfl
@[simp, simp ↓] theorem k8_10r : sR k8_10 k8_o1 k8_9 := yR rfl
@[simp, simp ↓] theorem k8_11r : sR k8_11 k8_o0 k8_10 := yR rfl
noncomputable abbrev k8_C : Orc → Cx := mkC Try.prog [] 8 12 [.tmp 4]
theorem k8_of0 : OfP0 Try.prog Try.f8 8 12 k8_C k8_11 := @ofP0 _ _ _ _ _ _ _ _ Try.func8 (by decide +kernel) rfl (by kernel_rfl) rfl (by kernel_rfl)
theorem szGraph_c (x : Gr) (n : Int) (h : Heap) (hn : 0 ≤ n ∧ n ≤ 1048576) (hl : x.ts.length ≤ 9223372036854775807) : ACalls Try.prog 8 [x.av, .int .i64 n] h (fun v h' => v = .int .i64 (if n < x.ts.length then -1 else n - x.ts.length) ∧ h' = h) := by
  refine k8_of0 rfl noPure fun I => ?_
  refine Run2.of I 1000 ?_
  simp -implicitDefEqProofs
  refine (szEdgeS_c x.ts n _ hn hl).mono ?_
  rintro v h' ⟨rfl, rfl⟩
  refine gK.go ?_
  simp -implicitDefEqProofs
  grind
abbrev k97_o0 : List AJ := [.o ⟨(some 2), none, false, .box false 3 (.t 0), none⟩, .o ⟨(some 3), none, false, .box false 3 (.t 1), none⟩, .o ⟨(some 4), none, false, .mv (.c (.bool false)), (some [2, 3])⟩]
abbrev k97_o1 : List AJ := [.o ⟨(some 5), none, false, .fieldA 0 (.t 2), none⟩, .o ⟨(some 6), none, false, .load 1 false (.t 5), none⟩, .o ⟨(some 7), none, false, .fieldA 0 (.t 3), none⟩, .o ⟨(some 8), none, false, .load 1 false (.t 7), none⟩, .o ⟨(some 9), none, false, .bin .neq (.t 6) (.t 8), (some [2, 3, 9])⟩]
abbrev k97_o2 : List AJ := [.o ⟨(some 4), none, false, .mv (.c (.bool false)), (some [4])⟩]
def k97_3 : ACode := .seq (.region k97_o2) .ret
def k97_4 : ACode := .cond (.t 9) k97_3 .skip
def k97_5 : ACode := .seq (.region k97_o1) k97_4
abbrev k97_o3 : List AJ := [.o ⟨(some 10), none, false, .fieldA 1 (.t 2), none⟩, .o ⟨(some 11), none, false, .load 1 false (.t 10), none⟩, .o ⟨(some 12), none, false, .fieldA 1 (.t 3), none⟩, .o ⟨(some 13), none, false, .load 1 false (.t 12), none⟩, .o ⟨(some 14), none, false, .bin .neq (.t 11) (.t 13), (some [2, 3, 14])⟩]
abbrev k97_o4 : List AJ := [.o ⟨(some 4), none, false, .mv (.c (.bool false)), (some [4])⟩]
def k97_8 : ACode := .seq (.region k97_o4) .ret
def k97_9 : ACode := .cond (.t 14) k97_8 .skip
def k97_10 : ACode := .seq (.region k97_o3) k97_9
abbrev k97_o5 : List AJ := [.o ⟨(some 15), none, false, .fieldA 2 (.t 2), none⟩, .o ⟨(some 16), none, false, .load 1 false (.t 15), none⟩, .o ⟨(some 17), none, false, .fieldA 2 (.t 3), none⟩, .o ⟨(some 18), none, false, .load 1 false (.t 17), none⟩, .o ⟨(some 19), none, false, .bin .neq (.t 16) (.t 18), (some [19])⟩]
abbrev k97_o6 : List AJ := [.o ⟨(some 4), none, false, .mv (.c (.bool false)), (some [4])⟩]
def k97_13 : ACode := .seq (.region k97_o6) .ret
def k97_14 : ACode := .cond (.t 19) k97_13 .skip
def k97_15 : ACode := .seq (.region k97_o5) k97_14
abbrev k97_o7 : List AJ := [.o ⟨(some 4), none, false, .mv (.c (.bool true)), (some [4])⟩]
def k97_17 : ACode := .seq (.region k97_o7) .ret
def k97_18 : ACode := .seq k97_15 k97_17
def k97_19 : ACode := .seq k97_10 k97_18
def k97_20 : ACode := .seq k97_5 k97_19
def k97_21 : ACode := .seq (.region k97_o0) k97_20
@[simp, simp ↓] theorem k97_3r : sR k97_3 k97_o2 .ret := yR rfl
@[simp, simp ↓] theorem k97_4r : rC k97_4 (.t 9) k97_3 .skip := zC rfl
@[simp, simp ↓] theorem k97_5r : sR k97_5 k97_o1 k97_4 := yR rfl
@[simp, simp ↓] theorem k97_8r : sR k97_8 k97_o4 .ret := yR rfl
@[simp, simp ↓] theorem k97_9r : rC k97_9 (.t 14) k97_8 .skip := zC rfl
@[simp, simp ↓] theorem k97_10r : sR k97_10 k97_o3 k97_9 := yR rfl
@[simp, simp ↓] theorem k97_13r : sR k97_13 k97_o6 .ret := yR rfl
@[simp, simp ↓] theorem k97_14r : rC k97_14 (.t 19) k97_13 .skip := zC rfl
@[simp, simp ↓] theorem k97_15r : sR k97_15 k97_o5 k97_14 := yR rfl
@[simp, simp ↓] theorem k97_17r : sR k97_17 k97_o7 .ret := yR rfl
@[simp, simp ↓] theorem k97_18r : rS k97_18 k97_15 k97_17 := zS rfl
@[simp, simp ↓] theorem k97_19r : rS k97_19 k97_10 k97_18 := zS rfl
@[simp, simp ↓] theorem k97_20r : rS k97_20 k97_5 k97_19 := zS rfl
@[simp, simp ↓] theorem k97_21r : sR k97_21 k97_o0 k97_20 := yR rfl
noncomputable abbrev k97_C : Orc → Cx := mkC Try.prog [] 97 20 [.tmp 4]
theorem k97_of0 : OfP0 Try.prog Try.f97 97 20 k97_C k97_21 := @ofP0 _ _ _ _ _ _ _ _ Try.func97 (by decide +kernel) rfl (by kernel_rfl) rfl (by kernel_rfl)
theorem eqEdge_c (x y : T) (h : Heap) : ACalls Try.prog 97 [x.av, y.av] h (fun v h' => v = .bool (decide (x = y)) ∧ h' = h) := by
  refine k97_of0 rfl noPure fun I => ?_
  cases x; cases y
  refine Run2.of I 1000 ?_
  simp -implicitDefEqProofs
  grind
noncomputable def o_eqEdge : List AV → Option (Prop × AV) := tab (fun (x : Int × Int × Int × Int × Int × Int) => match x with | (f, t, s, f', t', s') => [.agg [.int .i64 f, .int .i64 t, .int .i64 s], .agg [.int .i64 f', .int .i64 t', .int .i64 s']]) (fun x => match x with | (f, t, s, f', t', s') => True) (fun x => match x with | (f, t, s, f', t', s') => .bool (decide ((⟨f, t, s⟩ : T) = ⟨f', t', s'⟩)))
@[simp] theorem o_eqEdge_e (f : Int) (t : Int) (s : Int) (f' : Int) (t' : Int) (s' : Int) : o_eqEdge [.agg [.int .i64 f, .int .i64 t, .int .i64 s], .agg [.int .i64 f', .int .i64 t', .int .i64 s']] = some (True, .bool (decide ((⟨f, t, s⟩ : T) = ⟨f', t', s'⟩))) := tab_at (enc := fun (x : Int × Int × Int × Int × Int × Int) => match x with | (f, t, s, f', t', s') => [.agg [.int .i64 f, .int .i64 t, .int .i64 s], .agg [.int .i64 f', .int .i64 t', .int .i64 s']]) (fun x y h => by
  obtain ⟨f1, t1, s1, f'1, t'1, s'1⟩ := x; obtain ⟨f2, t2, s2, f'2, t'2, s'2⟩ := y; simp at h; simp [h] <;> omega) _ _ (f, t, s, f', t', s')
theorem o_eqEdge_k : Knows Try.prog 97 o_eqEdge := tab_knows fun x hx h => by
  obtain ⟨f, t, s, f', t', s'⟩ := x; exact eqEdge_c ⟨f, t, s⟩ ⟨f', t', s'⟩ h
abbrev k52_o0 : List AJ := [.o ⟨(some 4), none, false, .mv (.c (.bool false)), (some [0, 1])⟩]
abbrev k52_o1 : List AJ := [.o ⟨(some 6), none, false, .mv (.t 0), none⟩, .o ⟨(some 7), none, false, .len (.t 6), none⟩, .o ⟨(some 8), none, false, .mv (.t 1), none⟩, .o ⟨(some 9), none, false, .len (.t 8), none⟩, .o ⟨(some 10), none, false, .bin .neq (.t 7) (.t 9), (some [0, 1, 10])⟩]
abbrev k52_o2 : List AJ := [.o ⟨(some 4), none, false, .mv (.c (.bool false)), (some [4])⟩]
def k52_3 : ACode := .seq (.region k52_o2) .ret
def k52_4 : ACode := .cond (.t 10) k52_3 .skip
def k52_5 : ACode := .seq (.region k52_o1) k52_4
abbrev k52_o3 : List AJ := [.o ⟨(some 5), none, false, .mv (.c (.int .i64 0)), (some [0, 1, 5])⟩]
abbrev k52_o4 : List AJ := [.o ⟨(some 11), none, false, .mv (.t 5), none⟩, .o ⟨(some 12), none, false, .mv (.t 0), none⟩, .o ⟨(some 13), none, false, .len (.t 12), none⟩, .o ⟨(some 14), none, false, .bin .lss (.t 11) (.t 13), (some [0, 1, 5, 14])⟩]
def k52_8 : ACode := .cond (.t 14) .skip (.exit 0)
def k52_9 : ACode := .seq (.region k52_o4) k52_8
abbrev k52_o5 : List AI := [⟨(some 17), none, false, .mv (.t 0), none⟩, ⟨(some 18), none, false, .mv (.t 5), none⟩, ⟨(some 19), none, false, .idxA 3 (.t 17) (.t 18), none⟩, ⟨(some 20), none, false, .load 3 true (.t 19), none⟩, ⟨(some 21), none, false, .mv (.t 1), none⟩, ⟨(some 22), none, false, .mv (.t 5), none⟩, ⟨(some 23), none, false, .idxA 3 (.t 21) (.t 22), none⟩, ⟨(some 24), none, false, .load 3 true (.t 23), none⟩, ⟨(some 25), none, false, .call 97 [(.t 20), (.t 24)], none⟩, ⟨(some 26), none, false, .un .not (.t 25), (some [0, 1, 5, 26])⟩]
abbrev k52_o6 : List AJ := [.o ⟨(some 4), none, false, .mv (.c (.bool false)), (some [4])⟩]
def k52_12 : ACode := .seq (.region k52_o6) .ret
def k52_13 : ACode := .cond (.t 26) k52_12 .skip
def k52_14 : ACode := .seq (.draw k52_o5 [] rfl) k52_13
abbrev k52_o7 : List AJ := [.o ⟨(some 15), none, false, .mv (.t 5), none⟩, .o ⟨(some 16), none, true, .bin .add (.t 15) (.c (.int .i64 1)), none⟩, .o ⟨(some 5), none, false, .mv (.t 16), (some [0, 1, 5])⟩]
def k52_16 : ACode := .region k52_o7
def k52_17 : ACode := .seq (.block 1 k52_14) k52_16
def k52_18 : ACode := .seq k52_9 k52_17
def k52_19 : ACode := .loop k52_18
def k52_20 : ACode := .block 0 k52_19
def k52_21 : ACode := .seq (.region k52_o3) k52_20
abbrev k52_o8 : List AJ := [.o ⟨(some 4), none, false, .mv (.c (.bool true)), (some [4])⟩]
def k52_23 : ACode := .seq (.region k52_o8) .ret
def k52_24 : ACode := .seq k52_21 k52_23
def k52_25 : ACode := .seq k52_5 k52_24
def k52_26 : ACode := .seq (.region k52_o0) k52_25
@[simp, simp ↓] theorem k52_3r : sR k52_3 k52_o2 .ret := yR rfl
@[simp, simp ↓] theorem k52_4r : rC k52_4 (.t 10) k52_3 .skip := zC rfl
@[simp, simp ↓] theorem k52_5r : sR k52_5 k52_o1 k52_4 := yR rfl
@[simp, simp ↓] theorem k52_8r : rC k52_8 (.t 14) .skip (.exit 0) := zC rfl
@[simp, simp ↓] theorem k52_9r : sR k52_9 k52_o4 k52_8 := yR rfl
@[simp, simp ↓] theorem k52_12r : sR k52_12 k52_o6 .ret := yR rfl
@[simp, simp ↓] theorem k52_13r : rC k52_13 (.t 26) k52_12 .skip := zC rfl
@[simp, simp ↓] theorem k52_14r : sD k52_14 k52_o5 [] k52_13 := yD rfl
@[simp, simp ↓] theorem k52_16r : rR k52_16 k52_o7 := zR rfl
@[simp, simp ↓] theorem k52_17r : sB k52_17 1 k52_14 k52_16 := yB rfl
@[simp, simp ↓] theorem k52_18r : rS k52_18 k52_9 k52_17 := zS rfl
@[simp, simp ↓] theorem k52_19r : rL k52_19 k52_18 := zL rfl
@[simp, simp ↓] theorem k52_20r : rB k52_20 0 k52_19 := zB rfl
@[simp, simp ↓] theorem k52_21r : sR k52_21 k52_o3 k52_20 := yR rfl
@[simp, simp ↓] theorem k52_23r : sR k52_23 k52_o8 .ret := yR rfl
@[simp, simp ↓] theorem k52_24r : rS k52_24 k52_21 k52_23 := zS rfl
@[simp, simp ↓] theorem k52_25r : rS k52_25 k52_5 k52_24 := zS rfl
@[simp, simp ↓] theorem k52_26r : sR k52_26 k52_o0 k52_25 := yR rfl
noncomputable abbrev k52_C : Orc → Cx := mkC Try.prog [] 52 27 [.tmp 4]
theorem k52_of0 : OfP0 Try.prog Try.f52 52 27 k52_C k52_26 := @ofP0 _ _ _ _ _ _ _ _ Try.func52 (by decide +kernel) rfl (by kernel_rfl) rfl (by kernel_rfl)
theorem eqEdgeS_c (l m : List T) (h : Heap) (hl : l.length ≤ 1048576) : ACalls Try.prog 52 [.snap 3 (l.map T.av), .snap 3 (m.map T.av)] h (fun v h' => v = .bool (decide (l = m)) ∧ h' = h) := by
  refine k52_of0 rfl (lk_pure o_eqEdge_k lk_pure0) fun I => ?_
  refine Run2.of I 1000 ?_
  simp -implicitDefEqProofs
  refine ⟨by rintro hne rfl; exact hne rfl, fun hlen => ?_⟩
  refine Run2.loop (fun i => [(0, .snap 3 (l.map T.av)), (1, .snap 3 (m.map T.av)), (5, .int .i64 (i : Nat))]) (fun i => h) (fun i => l.length - i) (fun i => i ≤ l.length ∧ l.take i = m.take i) 0 (by simp) fun i hi ih => ?_
  by_cases hlt : i < l.length
  · have hlt' : i < m.length := by omega
    refine Run2.of I 1000 ?_
    simp -implicitDefEqProofs [hlt, hlt']
    constructor
    · rintro hne rfl
      exact hne rfl
    · intro he
      refine ⟨by omega, ?_⟩
      have := ih (i + 1) ⟨by omega, by rw [List.take_succ_eq_append_getElem hlt, List.take_succ_eq_append_getElem hlt', hi.2, he]⟩ (by omega)
      simpa using this
  · refine Run2.of I 1000 ?_
    simp -implicitDefEqProofs [hlt]
    have : i = l.length := by omega
    have h2 := hi.2
    rw [List.take_of_length_le (by omega), List.take_of_length_le (by omega)] at h2
    exact h2
abbrev k13_o0 : List AJ := [.o ⟨(some 2), none, false, .box false 2 (.t 0), none⟩, .o ⟨(some 3), none, false, .box false 2 (.t 1), none⟩, .o ⟨(some 4), none, false, .mv (.c (.bool false)), (some [2, 3])⟩]
abbrev k13_o1 : List AJ := [.o ⟨(some 5), none, false, .fieldA 0 (.t 2), none⟩, .o ⟨(some 6), none, false, .load 1 false (.t 5), none⟩, .o ⟨(some 7), none, false, .fieldA 0 (.t 3), none⟩, .o ⟨(some 8), none, false, .load 1 false (.t 7), none⟩, .o ⟨(some 9), none, false, .bin .neq (.t 6) (.t 8), (some [2, 3, 9])⟩]
abbrev k13_o2 : List AJ := [.o ⟨(some 4), none, false, .mv (.c (.bool false)), (some [4])⟩]
def k13_3 : ACode := .seq (.region k13_o2) .ret
def k13_4 : ACode := .cond (.t 9) k13_3 .skip
def k13_5 : ACode := .seq (.region k13_o1) k13_4
abbrev k13_o3 : List AJ := [.o ⟨(some 10), none, false, .fieldA 1 (.t 2), none⟩, .o ⟨(some 11), none, false, .load 1 false (.t 10), none⟩, .o ⟨(some 12), none, false, .fieldA 1 (.t 3), none⟩, .o ⟨(some 13), none, false, .load 1 false (.t 12), none⟩, .o ⟨(some 14), none, false, .call 52 [(.t 11), (.t 13)], none⟩, .o ⟨(some 15), none, false, .un .not (.t 14), (some [15])⟩]
abbrev k13_o4 : List AJ := [.o ⟨(some 4), none, false, .mv (.c (.bool false)), (some [4])⟩]
def k13_8 : ACode := .seq (.region k13_o4) .ret
def k13_9 : ACode := .cond (.t 15) k13_8 .skip
def k13_10 : ACode := .seq (.region k13_o3) k13_9
abbrev k13_o5 : List AJ := [.o ⟨(some 4), none, false, .mv (.c (.bool true)), (some [4])⟩]
def k13_12 : ACode := .seq (.region k13_o5) .ret
def k13_13 : ACode := .seq k13_10 k13_12
def k13_14 : ACode := .seq k13_5 k13_13
def k13_15 : ACode := .seq (.region k13_o0) k13_14
@[simp, simp ↓] theorem k13_3r : sR k13_3 k13_o2 .ret := yR rfl
@[simp, simp ↓] theorem k13_4r : rC k13_4 (.t 9) k13_3 .skip := zC rfl
@[simp, simp ↓] theorem k13_5r : sR k13_5 k13_o1 k13_4 := yR rfl
@[simp, simp ↓] theorem k13_8r : sR k13_8 k13_o4 .ret := yR rfl
@[simp, simp ↓] theorem k13_9r : rC k13_9 (.t 15) k13_8 .skip := zC rfl
@[simp, simp ↓] theorem k13_10r : sR k13_10 k13_o3 k13_9 := yR rfl
@[simp, simp ↓] theorem k13_12r : sR k13_12 k13_o5 .ret := yR rfl
@[simp, simp ↓] theorem k13_13r : rS k13_13 k13_10 k13_12 := zS rfl
@[simp, simp ↓] theorem k13_14r : rS k13_14 k13_5 k13_13 := zS rfl
@[simp, simp ↓] theorem k13_15r : sR k13_15 k13_o0 k13_14 := yR rfl
noncomputable abbrev k13_C : Orc → Cx := mkC Try.prog [] 13 16 [.tmp 4]
theorem k13_of0 : OfP0 Try.prog Try.f13 13 16 k13_C k13_15 := @ofP0 _ _ _ _ _ _ _ _ Try.func13 (by decide +kernel) rfl (by kernel_rfl) rfl (by kernel_rfl)
theorem eqGraph_c (x y : Gr) (h : Heap) (hl : x.ts.length ≤ 1048576) : ACalls Try.prog 13 [x.av, y.av] h (fun v h' => v = .bool (decide (x = y)) ∧ h' = h) := by
  refine k13_of0 rfl noPure fun I => ?_
  cases x; cases y
  refine Run2.of I 1000 ?_
  simp -implicitDefEqProofs
  refine ⟨by grind, fun h1 => ?_⟩
  refine (eqEdgeS_c _ _ _ hl).mono ?_
  rintro v h' ⟨rfl, rfl⟩
  refine gK.go ?_
  simp -implicitDefEqProofs [h1]
/-! ## In the laws: with other memory about -/
theorem eqG_own {w u : AV} {x y : Gr} {g h : Heap} (o : OwnG w x g) (hu : IsG u y) (hs : ∀ p ∈ g, p ∈ h) (hl : x.ts.length ≤ 1048576) : ACalls Try.prog 13 [w, u] h (fun r h' => r = .bool (decide (x = y)) ∧ h' = h) := by
  refine ACalls.reads g hs ?_ rfl
  rw [lend_cons, lend_cons, lend_nil', lend1_cold g hu.cold]
  exact ACalls.wk (.cons o.lent.wk (.cons hu.wk .nil)) (eqGraph_c x y [] hl)
theorem Gr.is (x : Gr) : IsG x.av x := ⟨_, rfl, .snap _⟩
noncomputable def o_toGraph : List AV → Option (Prop × AV) := tab (fun (x : Int × List T) => match x with | (n, ts) => [.agg [.int .i64 n, .snap 3 (ts.map T.av)]]) (fun x => match x with | (n, ts) => ts.length ≤ 1048576) (fun x => match x with | (n, ts) => .agg [.int .i64 n, .snap 3 (ts.map T.av)])
@[simp] theorem o_toGraph_e (n : Int) (ts : List T) : o_toGraph [.agg [.int .i64 n, .snap 3 (ts.map T.av)]] = some (ts.length ≤ 1048576, .agg [.int .i64 n, .snap 3 (ts.map T.av)]) := tab_at (enc := fun (x : Int × List T) => match x with | (n, ts) => [.agg [.int .i64 n, .snap 3 (ts.map T.av)]]) (fun x y h => by
  obtain ⟨n1, ts1⟩ := x; obtain ⟨n2, ts2⟩ := y; simp at h; simp [h] <;> omega) _ _ (n, ts)
theorem o_toGraph_k : Knows Try.prog 10 o_toGraph := tab_knows fun x hx h => by
  obtain ⟨n, ts⟩ := x; exact toGraph_c ⟨n, ts⟩ h hx
noncomputable def o_szGraph : List AV → Option (Prop × AV) := tab (fun (x : Int × List T × Int) => match x with | (n, ts, k) => [.agg [.int .i64 n, .snap 3 (ts.map T.av)], .int .i64 k]) (fun x => match x with | (n, ts, k) => ((0 ≤ k ∧ k ≤ 1048576) ∧ ts.length ≤ 9223372036854775807)) (fun x => match x with | (n, ts, k) => .int .i64 (if k < ts.length then -1 else k - ts.length))
@[simp] theorem o_szGraph_e (n : Int) (ts : List T) (k : Int) : o_szGraph [.agg [.int .i64 n, .snap 3 (ts.map T.av)], .int .i64 k] = some (((0 ≤ k ∧ k ≤ 1048576) ∧ ts.length ≤ 9223372036854775807), .int .i64 (if k < ts.length then -1 else k - ts.length)) := tab_at (enc := fun (x : Int × List T × Int) => match x with | (n, ts, k) => [.agg [.int .i64 n, .snap 3 (ts.map T.av)], .int .i64 k]) (fun x y h => by
  obtain ⟨n1, ts1, k1⟩ := x; obtain ⟨n2, ts2, k2⟩ := y; simp at h; simp [h] <;> omega) _ _ (n, ts, k)
theorem o_szGraph_k : Knows Try.prog 8 o_szGraph := tab_knows fun x hx h => by
  obtain ⟨n, ts, k⟩ := x; exact szGraph_c ⟨n, ts⟩ k h hx.1 hx.2
noncomputable def o_eqGraph : List AV → Option (Prop × AV) := tab (fun (x : Int × List T × Int × List T) => match x with | (n, ts, n', ts') => [.agg [.int .i64 n, .snap 3 (ts.map T.av)], .agg [.int .i64 n', .snap 3 (ts'.map T.av)]]) (fun x => match x with | (n, ts, n', ts') => ts.length ≤ 1048576) (fun x => match x with | (n, ts, n', ts') => .bool (decide ((⟨n, ts⟩ : Gr) = ⟨n', ts'⟩)))
@[simp] theorem o_eqGraph_e (n : Int) (ts : List T) (n' : Int) (ts' : List T) : o_eqGraph [.agg [.int .i64 n, .snap 3 (ts.map T.av)], .agg [.int .i64 n', .snap 3 (ts'.map T.av)]] = some (ts.length ≤ 1048576, .bool (decide ((⟨n, ts⟩ : Gr) = ⟨n', ts'⟩))) := tab_at (enc := fun (x : Int × List T × Int × List T) => match x with | (n, ts, n', ts') => [.agg [.int .i64 n, .snap 3 (ts.map T.av)], .agg [.int .i64 n', .snap 3 (ts'.map T.av)]]) (fun x y h => by
  obtain ⟨n1, ts1, n'1, ts'1⟩ := x; obtain ⟨n2, ts2, n'2, ts'2⟩ := y; simp at h; simp [h] <;> omega) _ _ (n, ts, n', ts')
theorem o_eqGraph_k : Knows Try.prog 13 o_eqGraph := tab_knows fun x hx h => by
  obtain ⟨n, ts, n', ts'⟩ := x; exact eqGraph_c ⟨n, ts⟩ ⟨n', ts'⟩ h hx
noncomputable def orcA : List (Nat × (List AV → Option (Prop × AV))) := (10, o_toGraph) :: (8, o_szGraph) :: (13, o_eqGraph) :: []
theorem orcA_p : Pure Try.prog (lk orcA) := (lk_pure o_toGraph_k (lk_pure o_szGraph_k (lk_pure o_eqGraph_k lk_pure0)))
@[simp] theorem orcA_l (b : Bool) (g : FuncId) (l : List AV) : lk orcA b g l = if g = 10 then o_toGraph l else if g = 8 then o_szGraph l else if g = 13 then o_eqGraph l else none := nr rfl
end Go.AG
