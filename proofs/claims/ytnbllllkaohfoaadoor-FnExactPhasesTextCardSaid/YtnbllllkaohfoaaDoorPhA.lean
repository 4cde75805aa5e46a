/- Phases as plain data, and what the set's own helpers of phases do: they copy, compare and count. No statement is made here. -/
import Derived.Test.YtnbllllkaohfoaaDoorRows
import Derived.Test.YtnbllllkaohfoaaDoorIntS
namespace Go.AG.P
open Go.Proofs Go.Proofs.YtnbllllkaohfoaaDoor
set_option linter.unusedSimpArgs false
set_option linter.unusedVariables false
set_option maxRecDepth 4000
structure T where
  f : Int
  t : Int
  s : Int
  deriving DecidableEq, Inhabited
@[simp] def T.av (x : T) : AV := .agg [.int .i64 x.f, .int .i64 x.t, .int .i64 x.s]
def T.ok (x : T) : Prop := in64 x.f ∧ in64 x.t ∧ in64 x.s
structure Ph where
  n : Int
  m : Int
  ts : List T
  deriving DecidableEq
@[simp] def Ph.av (x : Ph) : AV := .agg [.int .i64 x.n, .int .i64 x.m, .snap 3 (x.ts.map T.av)]
def Ph.ok (x : Ph) : Prop := in64 x.n ∧ in64 x.m ∧ ∀ t ∈ x.ts, t.ok
theorem T.ext' {x y : T} (h1 : x.f = y.f) (h2 : x.t = y.t) (h3 : x.s = y.s) : x = y := by
  cases x; cases y; simp at h1 h2 h3; simp [h1, h2, h3]
theorem T.av_inj {x y : T} (h : x.av = y.av) : x = y := by
  simp at h; exact T.ext' h.1 h.2.1 h.2.2
@[simp] theorem Ts_inj (l m : List T) : (l.map T.av = m.map T.av) ↔ l = m := ⟨fun h => List.map_inj_right (fun _ _ => T.av_inj) |>.1 h, fun h => by rw [h]⟩
@[simp] theorem T_eta (x : T) : (⟨x.f, x.t, x.s⟩ : T) = x := rfl
@[simp] theorem Ph_eta (x : Ph) : (⟨x.n, x.m, x.ts⟩ : Ph) = x := rfl
def tz : AV := .agg [.int .i64 0, .int .i64 0, .int .i64 0]
def tyT : Ty := .struct (.cons (.int .i64) (.cons (.int .i64) (.cons (.int .i64) .nil)))
def tyPh : Ty := .struct (.cons (.int .i64) (.cons (.int .i64) (.cons (.slice tyT) .nil)))
theorem T_of_shape {x : AV} (h : isAgg x = tyT.isS ∧ shC tyT (cellsOf x)) : ∃ t : T, x = t.av ∧ t.ok := by
  obtain ⟨h1, a1, b1, e1, ⟨n1, rfl, r1⟩, a2, b2, rfl, ⟨n2, rfl, r2⟩, a3, b3, rfl, ⟨n3, rfl, r3⟩, h3⟩ := h
  have h3' : b3 = [] := h3
  subst h3'
  cases x <;> simp [isAgg, tyT, Ty.isS] at h1
  rename_i l
  refine ⟨⟨n1, n2, n3⟩, ?_, r1, r2, r3⟩
  simp only [cellsOf] at e1
  rw [e1]; rfl
theorem Ts_of_shape : ∀ {xs : List AV}, (∀ x ∈ xs, isAgg x = tyT.isS ∧ shC tyT (cellsOf x)) → ∃ ts : List T, xs = ts.map T.av ∧ ∀ t ∈ ts, t.ok
  | [], _ => ⟨[], rfl, by simp⟩
  | x :: xs, h => by
    obtain ⟨t, rfl, ht⟩ := T_of_shape (h x (List.mem_cons_self ..))
    obtain ⟨ts, rfl, hts⟩ := Ts_of_shape (xs := xs) fun y hy => h y (List.mem_cons_of_mem _ hy)
    exact ⟨t :: ts, rfl, by simpa using ⟨ht, hts⟩⟩
def Ph.wf (p : Ph) : Prop := p.ok ∧ p.ts.length ≤ 9223372036854775807
theorem Ph_of_shape {x : AV} (h : shV tyPh x) : ∃ p : Ph, x = p.av ∧ p.wf := by
  obtain ⟨h1, a1, b1, e1, ⟨n1, rfl, r1⟩, a2, b2, rfl, ⟨n2, rfl, r2⟩, a3, b3, rfl, ⟨xs, rfl, hlen, r3⟩, h3⟩ := h
  have hm : maxLen ≤ 9223372036854775807 := by decide
  have h3' : b3 = [] := h3
  subst h3'
  obtain ⟨ts, rfl, hts⟩ := Ts_of_shape r3
  cases x <;> simp [isAgg, tyPh, Ty.isS] at h1
  rename_i l
  refine ⟨⟨n1, n2, ts⟩, ?_, ⟨r1, r2, hts⟩, by simp only [List.length_map] at hlen; exact Nat.le_trans hlen hm⟩
  simp only [cellsOf] at e1
  rw [e1]; rfl

abbrev k76_o0 : List AJ := [.o ⟨(some 1), none, false, .box false 3 (.t 0), none⟩, .o ⟨(some 2), none, false, .alloc true 3 (.agg [(.int .i64 0), (.int .i64 0), (.int .i64 0)]), (some [1, 2])⟩]
abbrev k76_o1 : List AJ := [.o ⟨(some 3), none, false, .alloc true 3 (.agg [(.int .i64 0), (.int .i64 0), (.int .i64 0)]), (some [1, 2, 3])⟩]
abbrev k76_o2 : List AJ := [.o ⟨(some 4), none, false, .fieldA 0 (.t 1), none⟩, .o ⟨(some 5), none, false, .load 1 false (.t 4), none⟩, .o ⟨(some 6), none, false, .fieldA 0 (.t 3), none⟩, .o ⟨none, none, false, .store 1 (.t 6) (.t 5), (some [1, 2, 3])⟩]
abbrev k76_o3 : List AJ := [.o ⟨(some 7), none, false, .fieldA 1 (.t 1), none⟩, .o ⟨(some 8), none, false, .load 1 false (.t 7), none⟩, .o ⟨(some 9), none, false, .fieldA 1 (.t 3), none⟩, .o ⟨none, none, false, .store 1 (.t 9) (.t 8), (some [1, 2, 3])⟩]
abbrev k76_o4 : List AJ := [.o ⟨(some 10), none, false, .fieldA 2 (.t 1), none⟩, .o ⟨(some 11), none, false, .load 1 false (.t 10), none⟩, .o ⟨(some 12), none, false, .fieldA 2 (.t 3), none⟩, .o ⟨none, none, false, .store 1 (.t 12) (.t 11), (some [2, 3])⟩]
abbrev k76_o5 : List AJ := [.o ⟨(some 13), none, false, .load 3 true (.t 3), none⟩, .o ⟨none, none, false, .store 3 (.t 2) (.t 13), (some [2])⟩]
def k76_6 : ACode := .seq (.region k76_o5) .ret
def k76_7 : ACode := .seq (.region k76_o4) k76_6
def k76_8 : ACode := .seq (.region k76_o3) k76_7
def k76_9 : ACode := .seq (.region k76_o2) k76_8
def k76_10 : ACode := .seq (.region k76_o1) k76_9
def k76_11 : ACode := .seq (.region k76_o0) k76_10
@[simp, simp ↓] theorem k76_6r : sR k76_6 k76_o5 .ret := yR rfl
@[simp, simp ↓] theorem k76_7r : sR k76_7 k76_o4 k76_6 := yR rfl
@[simp, simp ↓] theorem k76_8r : sR k76_8 k76_o3 k76_7 := yR rfl
@[simp, simp ↓] theorem k76_9r : sR k76_9 k76_o2 k76_8 := yR rfl
@[simp, simp ↓] theorem k76_10r : sR k76_10 k76_o1 k76_9 := yR rfl
@[simp, simp ↓] theorem k76_11r : sR k76_11 k76_o0 k76_10 := yR rfl
noncomputable abbrev k76_C : Orc → Cx := mkC Tryd.prog [2, 3] 76 14 [.cell 2 3 true]
theorem k76_of : OfP Tryd.prog Tryd.f76 76 14 k76_C k76_11 := @ofP _ _ _ _ _ _ _ _ Tryd.func76 (by decide +kernel) rfl (by kernel_rfl) rfl (by kernel_rfl)
theorem toTurn_c (x : T) (h : Heap) : ACalls Tryd.prog 76 [x.av] h (fun v h' => v = x.av ∧ h' = h) := by
  refine k76_of rfl noPure fun I => ?_
  refine Run2.of I 1000 ?_
  simp -implicitDefEqProofs
  intro a ha b hb1 hb2
  refine gK.go ?_
  simp -implicitDefEqProofs [hb1]
  refine .drop b (.drop a (.base ?_))
  simp -implicitDefEqProofs [hb1]
noncomputable def o_toTurn : List AV → Option (Prop × AV) := tab (fun (x : Int × Int × Int) => match x with | (f, t, s) => [.agg [.int .i64 f, .int .i64 t, .int .i64 s]]) (fun x => match x with | (f, t, s) => True) (fun x => match x with | (f, t, s) => .agg [.int .i64 f, .int .i64 t, .int .i64 s])
@[simp] theorem o_toTurn_e (f : Int) (t : Int) (s : Int) : o_toTurn [.agg [.int .i64 f, .int .i64 t, .int .i64 s]] = some (True, .agg [.int .i64 f, .int .i64 t, .int .i64 s]) := tab_at (enc := fun (x : Int × Int × Int) => match x with | (f, t, s) => [.agg [.int .i64 f, .int .i64 t, .int .i64 s]]) (fun x y h => by
  obtain ⟨f1, t1, s1⟩ := x; obtain ⟨f2, t2, s2⟩ := y; simp at h; simp [h] <;> omega) _ _ (f, t, s)
theorem o_toTurn_k : Knows Tryd.prog 76 o_toTurn := tab_knows fun x hx h => by
  obtain ⟨f, t, s⟩ := x; exact toTurn_c ⟨f, t, s⟩ h
abbrev k46_o0 : List AJ := [.o ⟨(some 2), none, false, .mv (.c .nilsl), (some [0])⟩]
abbrev k46_o1 : List AJ := [.o ⟨(some 5), none, false, .mv (.t 0), none⟩, .o ⟨(some 6), none, false, .len (.t 5), none⟩, .o ⟨(some 7), none, false, .mksl 3 24 (.agg [(.int .i64 0), (.int .i64 0), (.int .i64 0)]) (.t 6) (.t 6), none⟩, .o ⟨(some 3), none, false, .mv (.t 7), (some [0, 3])⟩]
abbrev k46_o2 : List AJ := [.o ⟨(some 4), none, false, .mv (.c (.int .i64 0)), (some [0, 3, 4])⟩]
abbrev k46_o3 : List AJ := [.o ⟨(some 8), none, false, .mv (.t 4), none⟩, .o ⟨(some 9), none, false, .mv (.t 0), none⟩, .o ⟨(some 10), none, false, .len (.t 9), none⟩, .o ⟨(some 11), none, false, .bin .lss (.t 8) (.t 10), (some [0, 3, 4, 11])⟩]
def k46_4 : ACode := .cond (.t 11) .skip (.exit 0)
def k46_5 : ACode := .seq (.region k46_o3) k46_4
abbrev k46_o4 : List AJ := [.o ⟨(some 14), none, false, .mv (.t 3), none⟩, .o ⟨(some 15), none, false, .mv (.t 4), none⟩, .o ⟨(some 16), none, false, .mv (.t 0), none⟩, .o ⟨(some 17), none, false, .mv (.t 4), none⟩, .o ⟨(some 18), none, false, .idxA 3 (.t 16) (.t 17), none⟩, .o ⟨(some 19), none, false, .load 3 true (.t 18), none⟩, .o ⟨(some 20), none, false, .call 76 [(.t 19)], none⟩, .o ⟨(some 21), none, false, .idxA 3 (.t 14) (.t 15), none⟩, .o ⟨none, none, false, .store 3 (.t 21) (.t 20), (some [0, 3, 4])⟩]
def k46_6 : ACode := .region k46_o4
abbrev k46_o5 : List AJ := [.o ⟨(some 12), none, false, .mv (.t 4), none⟩, .o ⟨(some 13), none, true, .bin .add (.t 12) (.c (.int .i64 1)), none⟩, .o ⟨(some 4), none, false, .mv (.t 13), (some [0, 3, 4])⟩]
def k46_8 : ACode := .region k46_o5
def k46_9 : ACode := .seq (.block 1 k46_6) k46_8
def k46_10 : ACode := .seq k46_5 k46_9
def k46_11 : ACode := .loop k46_10
def k46_12 : ACode := .block 0 k46_11
def k46_13 : ACode := .seq (.region k46_o2) k46_12
abbrev k46_o6 : List AJ := [.o ⟨(some 22), none, false, .mv (.t 3), none⟩, .o ⟨(some 2), none, false, .mv (.t 22), (some [2])⟩]
def k46_15 : ACode := .seq (.region k46_o6) .ret
def k46_16 : ACode := .seq k46_13 k46_15
def k46_17 : ACode := .seq (.region k46_o1) k46_16
def k46_18 : ACode := .seq (.region k46_o0) k46_17
@[simp, simp ↓] theorem k46_4r : rC k46_4 (.t 11) .skip (.exit 0) := zC rfl
@[simp, simp ↓] theorem k46_5r : sR k46_5 k46_o3 k46_4 := yR rfl
@[simp, simp ↓] theorem k46_6r : rR k46_6 k46_o4 := zR rfl
@[simp, simp ↓] theorem k46_8r : rR k46_8 k46_o5 := zR rfl
@[simp, simp ↓] theorem k46_9r : sB k46_9 1 k46_6 k46_8 := yB rfl
@[simp, simp ↓] theorem k46_10r : rS k46_10 k46_5 k46_9 := zS rfl
@[simp, simp ↓] theorem k46_11r : rL k46_11 k46_10 := zL rfl
@[simp, simp ↓] theorem k46_12r : rB k46_12 0 k46_11 := zB rfl
@[simp, simp ↓] theorem k46_13r : sR k46_13 k46_o2 k46_12 := yR rfl
@[simp, simp ↓] theorem k46_15r : sR k46_15 k46_o6 .ret := yR rfl
@[simp, simp ↓] theorem k46_16r : rS k46_16 k46_13 k46_15 := zS rfl
@[simp, simp ↓] theorem k46_17r : sR k46_17 k46_o1 k46_16 := yR rfl
@[simp, simp ↓] theorem k46_18r : sR k46_18 k46_o0 k46_17 := yR rfl
noncomputable abbrev k46_C : Orc → Cx := mkC Tryd.prog [] 46 23 [.tmp 2]
theorem k46_of0 : OfP0 Tryd.prog Tryd.f46 46 23 k46_C k46_18 := @ofP0 _ _ _ _ _ _ _ _ Tryd.func46 (by decide +kernel) rfl (by kernel_rfl) rfl (by kernel_rfl)
theorem toTurnS_w (l : List T) (h : Heap) (hl : l.length ≤ 1048576) : ACalls Tryd.prog 46 [.snap 3 (l.map T.av)] h (fun v h' => ∃ id, id ∉ dom h ∧ v = .sl id 3 0 l.length (some l.length) ∧ h' = (id, ⟨3, l.map T.av⟩) :: h) := by
  refine k46_of0 rfl (lk_pure o_toTurn_k lk_pure0) fun I => ?_
  refine Run2.of I 1000 ?_
  simp -implicitDefEqProofs
  refine ⟨by omega, fun id hid => ?_⟩
  refine Run2.loop (fun i => [(0, .snap 3 (l.map T.av)), (3, .sl id 3 0 l.length (some l.length)), (4, .int .i64 (i : Nat))]) (fun i => (id, ⟨3, (l.map T.av).take i ++ List.replicate (l.length - i) tz⟩) :: h) (fun i => l.length - i) (fun i => i ≤ l.length) 0 (Nat.zero_le _) fun i hi ih => ?_
  by_cases hlt : i < l.length
  · refine Run2.of I 1000 ?_
    simp -implicitDefEqProofs [hlt]
    refine ⟨by omega, by omega, ?_⟩
    have := ih (i + 1) (by omega) (by omega)
    simpa [set_fill (l.map T.av) tz (i := i) (n := l.length) (by simp) (by simpa using hlt)] using this
  · obtain rfl : i = l.length := by omega
    refine Run2.of I 1000 ?_
    simp -implicitDefEqProofs
    refine ⟨id, hid, rfl, ?_⟩
    rw [List.take_of_length_le (by simp)]
theorem toTurnS_c (l : List T) (h : Heap) (hl : l.length ≤ 1048576) : ACalls Tryd.prog 46 [.snap 3 (l.map T.av)] h (fun v h' => v = .snap 3 (l.map T.av) ∧ h' = h) := by
  refine ACalls.post ((toTurnS_w l h hl).mono ?_)
  rintro v h' ⟨id, hid, rfl, rfl⟩
  refine .freeze id (by simp; rfl) (.base ?_)
  simp [List.take_of_length_le]
abbrev k19_o0 : List AJ := [.o ⟨(some 1), none, false, .box false 3 (.t 0), none⟩, .o ⟨(some 2), none, false, .alloc true 3 (.agg [(.int .i64 0), (.int .i64 0), .nilsl]), (some [1, 2])⟩]
abbrev k19_o1 : List AJ := [.o ⟨(some 3), none, false, .alloc true 3 (.agg [(.int .i64 0), (.int .i64 0), .nilsl]), (some [1, 2, 3])⟩]
abbrev k19_o2 : List AJ := [.o ⟨(some 4), none, false, .fieldA 0 (.t 1), none⟩, .o ⟨(some 5), none, false, .load 1 false (.t 4), none⟩, .o ⟨(some 6), none, false, .fieldA 0 (.t 3), none⟩, .o ⟨none, none, false, .store 1 (.t 6) (.t 5), (some [1, 2, 3])⟩]
abbrev k19_o3 : List AJ := [.o ⟨(some 7), none, false, .fieldA 1 (.t 1), none⟩, .o ⟨(some 8), none, false, .load 1 false (.t 7), none⟩, .o ⟨(some 9), none, false, .fieldA 1 (.t 3), none⟩, .o ⟨none, none, false, .store 1 (.t 9) (.t 8), (some [1, 2, 3])⟩]
abbrev k19_o4 : List AJ := [.o ⟨(some 10), none, false, .fieldA 2 (.t 1), none⟩, .o ⟨(some 11), none, false, .load 1 false (.t 10), none⟩, .o ⟨(some 12), none, false, .call 46 [(.t 11)], none⟩, .o ⟨(some 13), none, false, .fieldA 2 (.t 3), none⟩, .o ⟨none, none, false, .store 1 (.t 13) (.t 12), (some [2, 3])⟩]
abbrev k19_o5 : List AJ := [.o ⟨(some 14), none, false, .load 3 true (.t 3), none⟩, .o ⟨none, none, false, .store 3 (.t 2) (.t 14), (some [2])⟩]
def k19_6 : ACode := .seq (.region k19_o5) .ret
def k19_7 : ACode := .seq (.region k19_o4) k19_6
def k19_8 : ACode := .seq (.region k19_o3) k19_7
def k19_9 : ACode := .seq (.region k19_o2) k19_8
def k19_10 : ACode := .seq (.region k19_o1) k19_9
def k19_11 : ACode := .seq (.region k19_o0) k19_10
@[simp, simp ↓] theorem k19_6r : sR k19_6 k19_o5 .ret := yR rfl
@[simp, simp ↓] theorem k19_7r : sR k19_7 k19_o4 k19_6 := yR rfl
@[simp, simp ↓] theorem k19_8r : sR k19_8 k19_o3 k19_7 := yR rfl
@[simp, simp ↓] theorem k19_9r : sR k19_9 k19_o2 k19_8 := yR rfl
@[simp, simp ↓] theorem k19_10r : sR k19_10 k19_o1 k19_9 := yR rfl
@[simp, simp ↓] theorem k19_11r : sR k19_11 k19_o0 k19_10 := yR rfl
noncomputable abbrev k19_C : Orc → Cx := mkC Tryd.prog [2, 3] 19 15 [.cell 2 3 true]
theorem k19_of : OfP Tryd.prog Tryd.f19 19 15 k19_C k19_11 := @ofP _ _ _ _ _ _ _ _ Tryd.func19 (by decide +kernel) rfl (by kernel_rfl) rfl (by kernel_rfl)
theorem toPhases_c (x : Ph) (h : Heap) (hl : x.ts.length ≤ 1048576) : ACalls Tryd.prog 19 [x.av] h (fun v h' => v = x.av ∧ h' = h) := by
  refine k19_of rfl noPure fun I => ?_
  refine Run2.of I 1000 ?_
  simp -implicitDefEqProofs
  intro a ha b hb1 hb2
  refine gK.go ?_
  simp -implicitDefEqProofs [hb1]
  refine (toTurnS_c x.ts _ hl).mono ?_
  rintro v h' ⟨rfl, rfl⟩
  refine gK.go ?_
  simp -implicitDefEqProofs [hb1]
  refine .drop b (.drop a (.base ?_))
  simp -implicitDefEqProofs [hb1]
@[simp] theorem T.cold (x : T) : Go.AG.cold x.av = true := rfl
@[simp] theorem T.own (x : T) : Go.AG.own x.av = true := rfl
/-- v is phases whose edges stand in a block of its own. -/
def OwnPh (v : AV) (x : Ph) (hp : Heap) : Prop := ∃ u, v = .agg [.int .i64 x.n, .int .i64 x.m, u] ∧ OwnL T.av 3 u x.ts hp
/-- v is phases that nobody writes. -/
def IsPh (v : AV) (x : Ph) : Prop := ∃ u, v = .agg [.int .i64 x.n, .int .i64 x.m, u] ∧ IsL T.av 3 u x.ts
theorem IsPh.wk {v : AV} {x : Ph} (h : IsPh v x) : Wk v x.av := by
  obtain ⟨u, rfl, hu⟩ := h
  exact Wk.agg (.cons (.refl _) (.cons (.refl _) (.cons hu.wk .nil)))
theorem IsPh.cold {v : AV} {x : Ph} (h : IsPh v x) : Go.AG.cold v = true := by
  obtain ⟨u, rfl, hu⟩ := h
  simp [Go.AG.cold, colds, hu.cold T.cold]
theorem lend1_agg3 (L : Heap) (a b : Int) (u : AV) : lend1 L (.agg [.int .i64 a, .int .i64 b, u]) = .agg [.int .i64 a, .int .i64 b, lend1 L u] := by
  induction L generalizing u with
  | nil => rfl
  | cons p L ih => simp only [lend1, fz, fzs]; exact ih _
theorem OwnPh.lent {v : AV} {x : Ph} {hp : Heap} (h : OwnPh v x hp) : IsPh (lend1 hp v) x := by
  obtain ⟨u, rfl, hu⟩ := h
  exact ⟨_, lend1_agg3 hp _ _ u, hu.lent⟩
theorem OwnPh.lentIn {v : AV} {x : Ph} {hp : Heap} (h : OwnPh v x hp) {L : Heap} (hs : ∀ p ∈ hp, p ∈ L) (nd : (dom L).Nodup) : IsPh (lend1 L v) x := by
  obtain ⟨u, rfl, hu⟩ := h
  exact ⟨_, lend1_agg3 L _ _ u, hu.lentIn T.cold hs nd⟩
theorem OwnPh.own {v : AV} {x : Ph} {hp : Heap} (h : OwnPh v x hp) : Go.AG.own v = true ∧ (hp.all fun p => p.2.l.all Go.AG.own) = true := by
  obtain ⟨u, rfl, hu⟩ := h
  exact ⟨by simp [Go.AG.own, owns, (hu.own T.own).1], (hu.own T.own).2⟩
theorem OwnPh.nodup {v : AV} {x : Ph} {hp : Heap} (h : OwnPh v x hp) : (dom hp).Nodup := by
  obtain ⟨u, rfl, hu⟩ := h
  exact hu.nodup
theorem toPhases_o (x : Ph) (h : Heap) (hl : x.ts.length ≤ 1048576) : ACalls Tryd.prog 19 [x.av] h (fun v h' => ∃ h1, OwnPh v x h1 ∧ (∀ i ∈ dom h1, i ∉ dom h) ∧ h' = h1 ++ h) := by
  refine k19_of rfl noPure fun I => ?_
  refine Run2.of I 1000 ?_
  simp -implicitDefEqProofs
  intro a ha b hb1 hb2
  refine gK.go ?_
  simp -implicitDefEqProofs [hb1]
  refine (toTurnS_w x.ts _ hl).mono ?_
  rintro v h' ⟨id, hid, rfl, rfl⟩
  simp [dom] at hid
  refine gK.go ?_
  simp -implicitDefEqProofs [hb1, hid, Ne.symm hid.1, Ne.symm hid.2.1]
  refine .drop b (.drop a (.base ?_))
  refine ⟨[(id, ⟨3, x.ts.map T.av ++ []⟩)], ⟨_, rfl, .sl id _ [] rfl⟩, ?_, ?_⟩
  · simpa [dom] using hid.2.2
  · simp [hid, Ne.symm hid.1, hb1]
def marksT (k : Int) (n : Nat) : List T := (List.range n).map fun i => ⟨k + 3 * (i : Nat), k + 3 * (i : Nat) + 1, k + 3 * (i : Nat) + 1 + 1⟩
@[simp] theorem marksT_length (k : Int) (n : Nat) : (marksT k n).length = n := by simp [marksT]
theorem marksT_succ (k : Int) (n : Nat) : marksT k (n + 1) = marksT k n ++ [⟨k + 3 * n, k + 3 * n + 1, k + 3 * n + 1 + 1⟩] := by simp [marksT, List.range_succ]
theorem marksT_get (k : Int) (n i : Nat) (h : i < (marksT k n).length) : (marksT k n)[i] = ⟨k + 3 * i, k + 3 * i + 1, k + 3 * i + 1 + 1⟩ := by simp [marksT]
theorem markT_step (l : List T) (ex : List AV) (k : Int) (i : Nat) (hi : i < l.length) : ((marksT k i).map T.av ++ (l.drop i).map T.av ++ ex).set i (T.av ⟨k + 3 * i, k + 3 * i + 1, k + 3 * i + 1 + 1⟩) = (marksT k (i + 1)).map T.av ++ (l.drop (i + 1)).map T.av ++ ex := by
  rw [List.drop_eq_getElem_cons hi, marksT_succ]
  simp only [List.map_cons, List.map_append, List.map_nil, List.append_assoc, List.cons_append, List.nil_append]
  rw [List.set_append_right _ _ (by simp)]
  simp
abbrev k43_o0 : List AJ := [.o ⟨(some 4), none, false, .mv (.c (.int .i64 0)), (some [0, 1])⟩]
abbrev k43_o1 : List AJ := [.o ⟨(some 5), none, false, .mv (.t 1), none⟩, .o ⟨(some 6), none, false, .mv (.t 0), none⟩, .o ⟨(some 7), none, false, .len (.t 6), none⟩, .o ⟨(some 8), none, true, .bin .sub (.t 5) (.t 7), none⟩, .o ⟨(some 1), none, false, .mv (.t 8), (some [1])⟩]
abbrev k43_o2 : List AJ := [.o ⟨(some 9), none, false, .mv (.t 1), none⟩, .o ⟨(some 10), none, false, .bin .lss (.t 9) (.c (.int .i64 0)), (some [1, 10])⟩]
abbrev k43_o3 : List AJ := [.o ⟨(some 4), none, false, .mv (.c (.int .i64 (-1))), (some [4])⟩]
def k43_4 : ACode := .seq (.region k43_o3) .ret
def k43_5 : ACode := .cond (.t 10) k43_4 .skip
def k43_6 : ACode := .seq (.region k43_o2) k43_5
abbrev k43_o4 : List AJ := [.o ⟨(some 11), none, false, .mv (.t 1), none⟩, .o ⟨(some 4), none, false, .mv (.t 11), (some [4])⟩]
def k43_8 : ACode := .seq (.region k43_o4) .ret
def k43_9 : ACode := .seq k43_6 k43_8
def k43_10 : ACode := .seq (.region k43_o1) k43_9
def k43_11 : ACode := .seq (.region k43_o0) k43_10
@[simp, simp ↓] theorem k43_4r : sR k43_4 k43_o3 .ret := yR rfl
@[simp, simp ↓] theorem k43_5r : rC k43_5 (.t 10) k43_4 .skip := zC rfl
@[simp, simp ↓] theorem k43_6r : sR k43_6 k43_o2 k43_5 := yR rfl
@[simp, simp ↓] theorem k43_8r : sR k43_8 k43_o4 .ret := yR rfl
@[simp, simp ↓] theorem k43_9r : rS k43_9 k43_6 k43_8 := zS rfl
@[simp, simp ↓] theorem k43_10r : sR k43_10 k43_o1 k43_9 := yR rfl
@[simp, simp ↓] theorem k43_11r : sR k43_11 k43_o0 k43_10 := yR rfl
noncomputable abbrev k43_C : Orc → Cx := mkC Tryd.prog [] 43 12 [.tmp 4]
theorem k43_of0 : OfP0 Tryd.prog Tryd.f43 43 12 k43_C k43_11 := @ofP0 _ _ _ _ _ _ _ _ Tryd.func43 (by decide +kernel) rfl (by kernel_rfl) rfl (by kernel_rfl)
theorem szTurnS_c (l : List T) (n : Int) (h : Heap) (hn : 0 ≤ n ∧ n ≤ 1048576) (hl : l.length ≤ 9223372036854775807) : ACalls Tryd.prog 43 [.snap 3 (l.map T.av), .int .i64 n] h (fun v h' => v = .int .i64 (if n < l.length then -1 else n - l.length) ∧ h' = h) := by
  refine k43_of0 rfl noPure fun I => ?_
  refine Run2.of I 1000 ?_
  simp -implicitDefEqProofs
  grind
abbrev k17_o0 : List AJ := [.o ⟨(some 2), none, false, .box false 3 (.t 0), none⟩, .o ⟨(some 4), none, false, .mv (.c (.int .i64 0)), (some [1, 2])⟩]
abbrev k17_o1 : List AJ := [.o ⟨(some 5), none, false, .fieldA 2 (.t 2), none⟩, .o ⟨(some 6), none, false, .load 1 false (.t 5), none⟩, .o ⟨(some 7), none, false, .mv (.t 1), none⟩, .o ⟨(some 8), none, false, .call 43 [(.t 6), (.t 7)], none⟩, .o ⟨(some 1), none, false, .mv (.t 8), (some [1])⟩]
abbrev k17_o2 : List AJ := [.o ⟨(some 9), none, false, .mv (.t 1), none⟩, .o ⟨(some 10), none, false, .bin .lss (.t 9) (.c (.int .i64 0)), (some [1, 10])⟩]
abbrev k17_o3 : List AJ := [.o ⟨(some 4), none, false, .mv (.c (.int .i64 (-1))), (some [4])⟩]
def k17_4 : ACode := .seq (.region k17_o3) .ret
def k17_5 : ACode := .cond (.t 10) k17_4 .skip
def k17_6 : ACode := .seq (.region k17_o2) k17_5
abbrev k17_o4 : List AJ := [.o ⟨(some 11), none, false, .mv (.t 1), none⟩, .o ⟨(some 4), none, false, .mv (.t 11), (some [4])⟩]
def k17_8 : ACode := .seq (.region k17_o4) .ret
def k17_9 : ACode := .seq k17_6 k17_8
def k17_10 : ACode := .seq (.region k17_o1) k17_9
def k17_11 : ACode := .seq (.region k17_o0) k17_10
@[simp, simp ↓] theorem k17_4r : sR k17_4 k17_o3 .ret := yR rfl
@[simp, simp ↓] theorem k17_5r : rC k17_5 (.t 10) k17_4 .skip := zC rfl
@[simp, simp ↓] theorem k17_6r : sR k17_6 k17_o2 k17_5 := yR rfl
@[simp, simp ↓] theorem k17_8r : sR k17_8 k17_o4 .ret := yR rfl
@[simp, simp ↓] theorem k17_9r : rS k17_9 k17_6 k17_8 := zS rfl
@[simp, simp ↓] theorem k17_10r : sR k17_10 k17_o1 k17_9 := yR rfl
@[simp, simp ↓] theorem k17_11r : sR k17_11 k17_o0 k17_10 := yR rfl
noncomputable abbrev k17_C : Orc → Cx := mkC Tryd.prog [] 17 12 [.tmp 4]
theorem k17_of0 : OfP0 Tryd.prog Tryd.f17 17 12 k17_C k17_11 := @ofP0 _ _ _ _ _ _ _ _ Tryd.func17 (by decide +kernel) rfl (by kernel_rfl) rfl (by kernel_rfl)
theorem szPhases_c (x : Ph) (n : Int) (h : Heap) (hn : 0 ≤ n ∧ n ≤ 1048576) (hl : x.ts.length ≤ 9223372036854775807) : ACalls Tryd.prog 17 [x.av, .int .i64 n] h (fun v h' => v = .int .i64 (if n < x.ts.length then -1 else n - x.ts.length) ∧ h' = h) := by
  refine k17_of0 rfl noPure fun I => ?_
  refine Run2.of I 1000 ?_
  simp -implicitDefEqProofs
  refine (szTurnS_c x.ts n _ hn hl).mono ?_
  rintro v h' ⟨rfl, rfl⟩
  refine gK.go ?_
  simp -implicitDefEqProofs
  grind
abbrev k79_o0 : List AJ := [.o ⟨(some 2), none, false, .box false 3 (.t 0), none⟩, .o ⟨(some 3), none, false, .box false 3 (.t 1), none⟩, .o ⟨(some 4), none, false, .mv (.c (.bool false)), (some [2, 3])⟩]
abbrev k79_o1 : List AJ := [.o ⟨(some 5), none, false, .fieldA 0 (.t 2), none⟩, .o ⟨(some 6), none, false, .load 1 false (.t 5), none⟩, .o ⟨(some 7), none, false, .fieldA 0 (.t 3), none⟩, .o ⟨(some 8), none, false, .load 1 false (.t 7), none⟩, .o ⟨(some 9), none, false, .bin .neq (.t 6) (.t 8), (some [2, 3, 9])⟩]
abbrev k79_o2 : List AJ := [.o ⟨(some 4), none, false, .mv (.c (.bool false)), (some [4])⟩]
def k79_3 : ACode := .seq (.region k79_o2) .ret
def k79_4 : ACode := .cond (.t 9) k79_3 .skip
def k79_5 : ACode := .seq (.region k79_o1) k79_4
abbrev k79_o3 : List AJ := [.o ⟨(some 10), none, false, .fieldA 1 (.t 2), none⟩, .o ⟨(some 11), none, false, .load 1 false (.t 10), none⟩, .o ⟨(some 12), none, false, .fieldA 1 (.t 3), none⟩, .o ⟨(some 13), none, false, .load 1 false (.t 12), none⟩, .o ⟨(some 14), none, false, .bin .neq (.t 11) (.t 13), (some [2, 3, 14])⟩]
abbrev k79_o4 : List AJ := [.o ⟨(some 4), none, false, .mv (.c (.bool false)), (some [4])⟩]
def k79_8 : ACode := .seq (.region k79_o4) .ret
def k79_9 : ACode := .cond (.t 14) k79_8 .skip
def k79_10 : ACode := .seq (.region k79_o3) k79_9
abbrev k79_o5 : List AJ := [.o ⟨(some 15), none, false, .fieldA 2 (.t 2), none⟩, .o ⟨(some 16), none, false, .load 1 false (.t 15), none⟩, .o ⟨(some 17), none, false, .fieldA 2 (.t 3), none⟩, .o ⟨(some 18), none, false, .load 1 false (.t 17), none⟩, .o ⟨(some 19), none, false, .bin .neq (.t 16) (.t 18), (some [19])⟩]
abbrev k79_o6 : List AJ := [.o ⟨(some 4), none, false, .mv (.c (.bool false)), (some [4])⟩]
def k79_13 : ACode := .seq (.region k79_o6) .ret
def k79_14 : ACode := .cond (.t 19) k79_13 .skip
def k79_15 : ACode := .seq (.region k79_o5) k79_14
abbrev k79_o7 : List AJ := [.o ⟨(some 4), none, false, .mv (.c (.bool true)), (some [4])⟩]
def k79_17 : ACode := .seq (.region k79_o7) .ret
def k79_18 : ACode := .seq k79_15 k79_17
def k79_19 : ACode := .seq k79_10 k79_18
def k79_20 : ACode := .seq k79_5 k79_19
def k79_21 : ACode := .seq (.region k79_o0) k79_20
@[simp, simp ↓] theorem k79_3r : sR k79_3 k79_o2 .ret := yR rfl
@[simp, simp ↓] theorem k79_4r : rC k79_4 (.t 9) k79_3 .skip := zC rfl
@[simp, simp ↓] theorem k79_5r : sR k79_5 k79_o1 k79_4 := yR rfl
@[simp, simp ↓] theorem k79_8r : sR k79_8 k79_o4 .ret := yR rfl
@[simp, simp ↓] theorem k79_9r : rC k79_9 (.t 14) k79_8 .skip := zC rfl
@[simp, simp ↓] theorem k79_10r : sR k79_10 k79_o3 k79_9 := yR rfl
@[simp, simp ↓] theorem k79_13r : sR k79_13 k79_o6 .ret := yR rfl
@[simp, simp ↓] theorem k79_14r : rC k79_14 (.t 19) k79_13 .skip := zC rfl
@[simp, simp ↓] theorem k79_15r : sR k79_15 k79_o5 k79_14 := yR rfl
@[simp, simp ↓] theorem k79_17r : sR k79_17 k79_o7 .ret := yR rfl
@[simp, simp ↓] theorem k79_18r : rS k79_18 k79_15 k79_17 := zS rfl
@[simp, simp ↓] theorem k79_19r : rS k79_19 k79_10 k79_18 := zS rfl
@[simp, simp ↓] theorem k79_20r : rS k79_20 k79_5 k79_19 := zS rfl
@[simp, simp ↓] theorem k79_21r : sR k79_21 k79_o0 k79_20 := yR rfl
noncomputable abbrev k79_C : Orc → Cx := mkC Tryd.prog [] 79 20 [.tmp 4]
theorem k79_of0 : OfP0 Tryd.prog Tryd.f79 79 20 k79_C k79_21 := @ofP0 _ _ _ _ _ _ _ _ Tryd.func79 (by decide +kernel) rfl (by kernel_rfl) rfl (by kernel_rfl)
theorem eqTurn_c (x y : T) (h : Heap) : ACalls Tryd.prog 79 [x.av, y.av] h (fun v h' => v = .bool (decide (x = y)) ∧ h' = h) := by
  refine k79_of0 rfl noPure fun I => ?_
  cases x; cases y
  refine Run2.of I 1000 ?_
  simp -implicitDefEqProofs
  grind
noncomputable def o_eqTurn : List AV → Option (Prop × AV) := tab (fun (x : Int × Int × Int × Int × Int × Int) => match x with | (f, t, s, f', t', s') => [.agg [.int .i64 f, .int .i64 t, .int .i64 s], .agg [.int .i64 f', .int .i64 t', .int .i64 s']]) (fun x => match x with | (f, t, s, f', t', s') => True) (fun x => match x with | (f, t, s, f', t', s') => .bool (decide ((⟨f, t, s⟩ : T) = ⟨f', t', s'⟩)))
@[simp] theorem o_eqTurn_e (f : Int) (t : Int) (s : Int) (f' : Int) (t' : Int) (s' : Int) : o_eqTurn [.agg [.int .i64 f, .int .i64 t, .int .i64 s], .agg [.int .i64 f', .int .i64 t', .int .i64 s']] = some (True, .bool (decide ((⟨f, t, s⟩ : T) = ⟨f', t', s'⟩))) := tab_at (enc := fun (x : Int × Int × Int × Int × Int × Int) => match x with | (f, t, s, f', t', s') => [.agg [.int .i64 f, .int .i64 t, .int .i64 s], .agg [.int .i64 f', .int .i64 t', .int .i64 s']]) (fun x y h => by
  obtain ⟨f1, t1, s1, f'1, t'1, s'1⟩ := x; obtain ⟨f2, t2, s2, f'2, t'2, s'2⟩ := y; simp at h; simp [h] <;> omega) _ _ (f, t, s, f', t', s')
theorem o_eqTurn_k : Knows Tryd.prog 79 o_eqTurn := tab_knows fun x hx h => by
  obtain ⟨f, t, s, f', t', s'⟩ := x; exact eqTurn_c ⟨f, t, s⟩ ⟨f', t', s'⟩ h
abbrev k48_o0 : List AJ := [.o ⟨(some 4), none, false, .mv (.c (.bool false)), (some [0, 1])⟩]
abbrev k48_o1 : List AJ := [.o ⟨(some 6), none, false, .mv (.t 0), none⟩, .o ⟨(some 7), none, false, .len (.t 6), none⟩, .o ⟨(some 8), none, false, .mv (.t 1), none⟩, .o ⟨(some 9), none, false, .len (.t 8), none⟩, .o ⟨(some 10), none, false, .bin .neq (.t 7) (.t 9), (some [0, 1, 10])⟩]
abbrev k48_o2 : List AJ := [.o ⟨(some 4), none, false, .mv (.c (.bool false)), (some [4])⟩]
def k48_3 : ACode := .seq (.region k48_o2) .ret
def k48_4 : ACode := .cond (.t 10) k48_3 .skip
def k48_5 : ACode := .seq (.region k48_o1) k48_4
abbrev k48_o3 : List AJ := [.o ⟨(some 5), none, false, .mv (.c (.int .i64 0)), (some [0, 1, 5])⟩]
abbrev k48_o4 : List AJ := [.o ⟨(some 11), none, false, .mv (.t 5), none⟩, .o ⟨(some 12), none, false, .mv (.t 0), none⟩, .o ⟨(some 13), none, false, .len (.t 12), none⟩, .o ⟨(some 14), none, false, .bin .lss (.t 11) (.t 13), (some [0, 1, 5, 14])⟩]
def k48_8 : ACode := .cond (.t 14) .skip (.exit 0)
def k48_9 : ACode := .seq (.region k48_o4) k48_8
abbrev k48_o5 : List AI := [⟨(some 17), none, false, .mv (.t 0), none⟩, ⟨(some 18), none, false, .mv (.t 5), none⟩, ⟨(some 19), none, false, .idxA 3 (.t 17) (.t 18), none⟩, ⟨(some 20), none, false, .load 3 true (.t 19), none⟩, ⟨(some 21), none, false, .mv (.t 1), none⟩, ⟨(some 22), none, false, .mv (.t 5), none⟩, ⟨(some 23), none, false, .idxA 3 (.t 21) (.t 22), none⟩, ⟨(some 24), none, false, .load 3 true (.t 23), none⟩, ⟨(some 25), none, false, .call 79 [(.t 20), (.t 24)], none⟩, ⟨(some 26), none, false, .un .not (.t 25), (some [0, 1, 5, 26])⟩]
abbrev k48_o6 : List AJ := [.o ⟨(some 4), none, false, .mv (.c (.bool false)), (some [4])⟩]
def k48_12 : ACode := .seq (.region k48_o6) .ret
def k48_13 : ACode := .cond (.t 26) k48_12 .skip
def k48_14 : ACode := .seq (.draw k48_o5 [] rfl) k48_13
abbrev k48_o7 : List AJ := [.o ⟨(some 15), none, false, .mv (.t 5), none⟩, .o ⟨(some 16), none, true, .bin .add (.t 15) (.c (.int .i64 1)), none⟩, .o ⟨(some 5), none, false, .mv (.t 16), (some [0, 1, 5])⟩]
def k48_16 : ACode := .region k48_o7
def k48_17 : ACode := .seq (.block 1 k48_14) k48_16
def k48_18 : ACode := .seq k48_9 k48_17
def k48_19 : ACode := .loop k48_18
def k48_20 : ACode := .block 0 k48_19
def k48_21 : ACode := .seq (.region k48_o3) k48_20
abbrev k48_o8 : List AJ := [.o ⟨(some 4), none, false, .mv (.c (.bool true)), (some [4])⟩]
def k48_23 : ACode := .seq (.region k48_o8) .ret
def k48_24 : ACode := .seq k48_21 k48_23
def k48_25 : ACode := .seq k48_5 k48_24
def k48_26 : ACode := .seq (.region k48_o0) k48_25
@[simp, simp ↓] theorem k48_3r : sR k48_3 k48_o2 .ret := yR rfl
@[simp, simp ↓] theorem k48_4r : rC k48_4 (.t 10) k48_3 .skip := zC rfl
@[simp, simp ↓] theorem k48_5r : sR k48_5 k48_o1 k48_4 := yR rfl
@[simp, simp ↓] theorem k48_8r : rC k48_8 (.t 14) .skip (.exit 0) := zC rfl
@[simp, simp ↓] theorem k48_9r : sR k48_9 k48_o4 k48_8 := yR rfl
@[simp, simp ↓] theorem k48_12r : sR k48_12 k48_o6 .ret := yR rfl
@[simp, simp ↓] theorem k48_13r : rC k48_13 (.t 26) k48_12 .skip := zC rfl
@[simp, simp ↓] theorem k48_14r : sD k48_14 k48_o5 [] k48_13 := yD rfl
@[simp, simp ↓] theorem k48_16r : rR k48_16 k48_o7 := zR rfl
@[simp, simp ↓] theorem k48_17r : sB k48_17 1 k48_14 k48_16 := yB rfl
@[simp, simp ↓] theorem k48_18r : rS k48_18 k48_9 k48_17 := zS rfl
@[simp, simp ↓] theorem k48_19r : rL k48_19 k48_18 := zL rfl
@[simp, simp ↓] theorem k48_20r : rB k48_20 0 k48_19 := zB rfl
@[simp, simp ↓] theorem k48_21r : sR k48_21 k48_o3 k48_20 := yR rfl
@[simp, simp ↓] theorem k48_23r : sR k48_23 k48_o8 .ret := yR rfl
@[simp, simp ↓] theorem k48_24r : rS k48_24 k48_21 k48_23 := zS rfl
@[simp, simp ↓] theorem k48_25r : rS k48_25 k48_5 k48_24 := zS rfl
@[simp, simp ↓] theorem k48_26r : sR k48_26 k48_o0 k48_25 := yR rfl
noncomputable abbrev k48_C : Orc → Cx := mkC Tryd.prog [] 48 27 [.tmp 4]
theorem k48_of0 : OfP0 Tryd.prog Tryd.f48 48 27 k48_C k48_26 := @ofP0 _ _ _ _ _ _ _ _ Tryd.func48 (by decide +kernel) rfl (by kernel_rfl) rfl (by kernel_rfl)
theorem eqTurnS_c (l m : List T) (h : Heap) (hl : l.length ≤ 1048576) : ACalls Tryd.prog 48 [.snap 3 (l.map T.av), .snap 3 (m.map T.av)] h (fun v h' => v = .bool (decide (l = m)) ∧ h' = h) := by
  refine k48_of0 rfl (lk_pure o_eqTurn_k lk_pure0) fun I => ?_
  refine Run2.of I 1000 ?_
  simp -implicitDefEqProofs
  refine ⟨by rintro hne rfl; exact hne rfl, fun hlen => ?_⟩
  refine Run2.loop (fun i => [(0, .snap 3 (l.map T.av)), (1, .snap 3 (m.map T.av)), (5, .int .i64 (i : Nat))]) (fun i => h) (fun i => l.length - i) (fun i => i ≤ l.length ∧ l.take i = m.take i) 0 (by simp) fun i hi ih => ?_
  by_cases hlt : i < l.length
  · have hlt' : i < m.length := by omega
    refine Run2.of I 1000 ?_
    simp -implicitDefEqProofs [hlt, hlt']
    constructor
    · rintro hne rfl
      exact hne rfl
    · intro he
      refine ⟨by omega, ?_⟩
      have := ih (i + 1) ⟨by omega, by rw [List.take_succ_eq_append_getElem hlt, List.take_succ_eq_append_getElem hlt', hi.2, he]⟩ (by omega)
      simpa using this
  · refine Run2.of I 1000 ?_
    simp -implicitDefEqProofs [hlt]
    have : i = l.length := by omega
    have h2 := hi.2
    rw [List.take_of_length_le (by omega), List.take_of_length_le (by omega)] at h2
    exact h2
abbrev k21_o0 : List AJ := [.o ⟨(some 2), none, false, .box false 3 (.t 0), none⟩, .o ⟨(some 3), none, false, .box false 3 (.t 1), none⟩, .o ⟨(some 4), none, false, .mv (.c (.bool false)), (some [2, 3])⟩]
abbrev k21_o1 : List AJ := [.o ⟨(some 5), none, false, .fieldA 0 (.t 2), none⟩, .o ⟨(some 6), none, false, .load 1 false (.t 5), none⟩, .o ⟨(some 7), none, false, .fieldA 0 (.t 3), none⟩, .o ⟨(some 8), none, false, .load 1 false (.t 7), none⟩, .o ⟨(some 9), none, false, .bin .neq (.t 6) (.t 8), (some [2, 3, 9])⟩]
abbrev k21_o2 : List AJ := [.o ⟨(some 4), none, false, .mv (.c (.bool false)), (some [4])⟩]
def k21_3 : ACode := .seq (.region k21_o2) .ret
def k21_4 : ACode := .cond (.t 9) k21_3 .skip
def k21_5 : ACode := .seq (.region k21_o1) k21_4
abbrev k21_o3 : List AJ := [.o ⟨(some 10), none, false, .fieldA 1 (.t 2), none⟩, .o ⟨(some 11), none, false, .load 1 false (.t 10), none⟩, .o ⟨(some 12), none, false, .fieldA 1 (.t 3), none⟩, .o ⟨(some 13), none, false, .load 1 false (.t 12), none⟩, .o ⟨(some 14), none, false, .bin .neq (.t 11) (.t 13), (some [2, 3, 14])⟩]
abbrev k21_o4 : List AJ := [.o ⟨(some 4), none, false, .mv (.c (.bool false)), (some [4])⟩]
def k21_8 : ACode := .seq (.region k21_o4) .ret
def k21_9 : ACode := .cond (.t 14) k21_8 .skip
def k21_10 : ACode := .seq (.region k21_o3) k21_9
abbrev k21_o5 : List AJ := [.o ⟨(some 15), none, false, .fieldA 2 (.t 2), none⟩, .o ⟨(some 16), none, false, .load 1 false (.t 15), none⟩, .o ⟨(some 17), none, false, .fieldA 2 (.t 3), none⟩, .o ⟨(some 18), none, false, .load 1 false (.t 17), none⟩, .o ⟨(some 19), none, false, .call 48 [(.t 16), (.t 18)], none⟩, .o ⟨(some 20), none, false, .un .not (.t 19), (some [20])⟩]
abbrev k21_o6 : List AJ := [.o ⟨(some 4), none, false, .mv (.c (.bool false)), (some [4])⟩]
def k21_13 : ACode := .seq (.region k21_o6) .ret
def k21_14 : ACode := .cond (.t 20) k21_13 .skip
def k21_15 : ACode := .seq (.region k21_o5) k21_14
abbrev k21_o7 : List AJ := [.o ⟨(some 4), none, false, .mv (.c (.bool true)), (some [4])⟩]
def k21_17 : ACode := .seq (.region k21_o7) .ret
def k21_18 : ACode := .seq k21_15 k21_17
def k21_19 : ACode := .seq k21_10 k21_18
def k21_20 : ACode := .seq k21_5 k21_19
def k21_21 : ACode := .seq (.region k21_o0) k21_20
@[simp, simp ↓] theorem k21_3r : sR k21_3 k21_o2 .ret := yR rfl
@[simp, simp ↓] theorem k21_4r : rC k21_4 (.t 9) k21_3 .skip := zC rfl
@[simp, simp ↓] theorem k21_5r : sR k21_5 k21_o1 k21_4 := yR rfl
@[simp, simp ↓] theorem k21_8r : sR k21_8 k21_o4 .ret := yR rfl
@[simp, simp ↓] theorem k21_9r : rC k21_9 (.t 14) k21_8 .skip := zC rfl
@[simp, simp ↓] theorem k21_10r : sR k21_10 k21_o3 k21_9 := yR rfl
@[simp, simp ↓] theorem k21_13r : sR k21_13 k21_o6 .ret := yR rfl
@[simp, simp ↓] theorem k21_14r : rC k21_14 (.t 20) k21_13 .skip := zC rfl
@[simp, simp ↓] theorem k21_15r : sR k21_15 k21_o5 k21_14 := yR rfl
@[simp, simp ↓] theorem k21_17r : sR k21_17 k21_o7 .ret := yR rfl
@[simp, simp ↓] theorem k21_18r : rS k21_18 k21_15 k21_17 := zS rfl
@[simp, simp ↓] theorem k21_19r : rS k21_19 k21_10 k21_18 := zS rfl
@[simp, simp ↓] theorem k21_20r : rS k21_20 k21_5 k21_19 := zS rfl
@[simp, simp ↓] theorem k21_21r : sR k21_21 k21_o0 k21_20 := yR rfl
noncomputable abbrev k21_C : Orc → Cx := mkC Tryd.prog [] 21 21 [.tmp 4]
theorem k21_of0 : OfP0 Tryd.prog Tryd.f21 21 21 k21_C k21_21 := @ofP0 _ _ _ _ _ _ _ _ Tryd.func21 (by decide +kernel) rfl (by kernel_rfl) rfl (by kernel_rfl)
theorem eqPhases_c (x y : Ph) (h : Heap) (hl : x.ts.length ≤ 1048576) : ACalls Tryd.prog 21 [x.av, y.av] h (fun v h' => v = .bool (decide (x = y)) ∧ h' = h) := by
  refine k21_of0 rfl noPure fun I => ?_
  cases x; cases y
  refine Run2.of I 1000 ?_
  simp -implicitDefEqProofs
  refine ⟨by grind, fun h1 => ⟨by grind, fun h2 => ?_⟩⟩
  refine (eqTurnS_c _ _ _ hl).mono ?_
  rintro v h' ⟨rfl, rfl⟩
  refine gK.go ?_
  simp -implicitDefEqProofs [h1, h2]
/-! ## In the laws: with other memory about -/
theorem eqPh_own {w u : AV} {x y : Ph} {g h : Heap} (o : OwnPh w x g) (hu : IsPh u y) (hs : ∀ p ∈ g, p ∈ h) (hl : x.ts.length ≤ 1048576) : ACalls Tryd.prog 21 [w, u] h (fun r h' => r = .bool (decide (x = y)) ∧ h' = h) := by
  refine ACalls.reads g hs ?_ rfl
  rw [lend_cons, lend_cons, lend_nil', lend1_cold g hu.cold]
  exact ACalls.wk (.cons o.lent.wk (.cons hu.wk .nil)) (eqPhases_c x y [] hl)
theorem Ph.is (x : Ph) : IsPh x.av x := ⟨_, rfl, .snap _⟩
noncomputable def o_toPhases : List AV → Option (Prop × AV) := tab (fun (x : Int × Int × List T) => match x with | (n, m, ts) => [.agg [.int .i64 n, .int .i64 m, .snap 3 (ts.map T.av)]]) (fun x => match x with | (n, m, ts) => ts.length ≤ 1048576) (fun x => match x with | (n, m, ts) => .agg [.int .i64 n, .int .i64 m, .snap 3 (ts.map T.av)])
@[simp] theorem o_toPhases_e (n : Int) (m : Int) (ts : List T) : o_toPhases [.agg [.int .i64 n, .int .i64 m, .snap 3 (ts.map T.av)]] = some (ts.length ≤ 1048576, .agg [.int .i64 n, .int .i64 m, .snap 3 (ts.map T.av)]) := tab_at (enc := fun (x : Int × Int × List T) => match x with | (n, m, ts) => [.agg [.int .i64 n, .int .i64 m, .snap 3 (ts.map T.av)]]) (fun x y h => by
  obtain ⟨n1, m1, ts1⟩ := x; obtain ⟨n2, m2, ts2⟩ := y; simp at h; simp [h] <;> omega) _ _ (n, m, ts)
theorem o_toPhases_k : Knows Tryd.prog 19 o_toPhases := tab_knows fun x hx h => by
  obtain ⟨n, m, ts⟩ := x; exact toPhases_c ⟨n, m, ts⟩ h hx
noncomputable def o_szPhases : List AV → Option (Prop × AV) := tab (fun (x : Int × Int × List T × Int) => match x with | (n, m, ts, k) => [.agg [.int .i64 n, .int .i64 m, .snap 3 (ts.map T.av)], .int .i64 k]) (fun x => match x with | (n, m, ts, k) => ((0 ≤ k ∧ k ≤ 1048576) ∧ ts.length ≤ 9223372036854775807)) (fun x => match x with | (n, m, ts, k) => .int .i64 (if k < ts.length then -1 else k - ts.length))
@[simp] theorem o_szPhases_e (n : Int) (m : Int) (ts : List T) (k : Int) : o_szPhases [.agg [.int .i64 n, .int .i64 m, .snap 3 (ts.map T.av)], .int .i64 k] = some (((0 ≤ k ∧ k ≤ 1048576) ∧ ts.length ≤ 9223372036854775807), .int .i64 (if k < ts.length then -1 else k - ts.length)) := tab_at (enc := fun (x : Int × Int × List T × Int) => match x with | (n, m, ts, k) => [.agg [.int .i64 n, .int .i64 m, .snap 3 (ts.map T.av)], .int .i64 k]) (fun x y h => by
  obtain ⟨n1, m1, ts1, k1⟩ := x; obtain ⟨n2, m2, ts2, k2⟩ := y; simp at h; simp [h] <;> omega) _ _ (n, m, ts, k)
theorem o_szPhases_k : Knows Tryd.prog 17 o_szPhases := tab_knows fun x hx h => by
  obtain ⟨n, m, ts, k⟩ := x; exact szPhases_c ⟨n, m, ts⟩ k h hx.1 hx.2
noncomputable def o_eqPhases : List AV → Option (Prop × AV) := tab (fun (x : Int × Int × List T × Int × Int × List T) => match x with | (n, m, ts, n', m', ts') => [.agg [.int .i64 n, .int .i64 m, .snap 3 (ts.map T.av)], .agg [.int .i64 n', .int .i64 m', .snap 3 (ts'.map T.av)]]) (fun x => match x with | (n, m, ts, n', m', ts') => ts.length ≤ 1048576) (fun x => match x with | (n, m, ts, n', m', ts') => .bool (decide ((⟨n, m, ts⟩ : Ph) = ⟨n', m', ts'⟩)))
@[simp] theorem o_eqPhases_e (n : Int) (m : Int) (ts : List T) (n' : Int) (m' : Int) (ts' : List T) : o_eqPhases [.agg [.int .i64 n, .int .i64 m, .snap 3 (ts.map T.av)], .agg [.int .i64 n', .int .i64 m', .snap 3 (ts'.map T.av)]] = some (ts.length ≤ 1048576, .bool (decide ((⟨n, m, ts⟩ : Ph) = ⟨n', m', ts'⟩))) := tab_at (enc := fun (x : Int × Int × List T × Int × Int × List T) => match x with | (n, m, ts, n', m', ts') => [.agg [.int .i64 n, .int .i64 m, .snap 3 (ts.map T.av)], .agg [.int .i64 n', .int .i64 m', .snap 3 (ts'.map T.av)]]) (fun x y h => by
  obtain ⟨n1, m1, ts1, n'1, m'1, ts'1⟩ := x; obtain ⟨n2, m2, ts2, n'2, m'2, ts'2⟩ := y; simp at h; simp [h] <;> omega) _ _ (n, m, ts, n', m', ts')
theorem o_eqPhases_k : Knows Tryd.prog 21 o_eqPhases := tab_knows fun x hx h => by
  obtain ⟨n, m, ts, n', m', ts'⟩ := x; exact eqPhases_c ⟨n, m, ts⟩ ⟨n', m', ts'⟩ h hx
noncomputable def orcA : List (Nat × (List AV → Option (Prop × AV))) := (19, o_toPhases) :: (17, o_szPhases) :: (21, o_eqPhases) :: []
theorem orcA_p : Pure Tryd.prog (lk orcA) := (lk_pure o_toPhases_k (lk_pure o_szPhases_k (lk_pure o_eqPhases_k lk_pure0)))
@[simp] theorem orcA_l (b : Bool) (g : FuncId) (l : List AV) : lk orcA b g l = if g = 19 then o_toPhases l else if g = 17 then o_szPhases l else if g = 21 then o_eqPhases l else none := nr rfl
end Go.AG.P
