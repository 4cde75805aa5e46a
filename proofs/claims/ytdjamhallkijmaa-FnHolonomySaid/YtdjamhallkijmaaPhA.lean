/- Phases as plain data, and what the set's own helpers of phases do: they copy, compare and count. No statement is made here. -/
import Derived.Test.YtdjamhallkijmaaRows
import Derived.Test.YtdjamhallkijmaaIntS
namespace Go.AG
open Go.Proofs Go.Proofs.Ytdjamhallkijmaa
set_option linter.unusedSimpArgs false
set_option linter.unusedVariables false
set_option maxRecDepth 4000
structure T where
  f : Int
  t : Int
  s : Int
  deriving DecidableEq, Inhabited
@[simp] def T.av (x : T) : AV := .agg [.int .i64 x.f, .int .i64 x.t, .int .i64 x.s]
def T.ok (x : T) : Prop := in64 x.f ∧ in64 x.t ∧ in64 x.s
structure Ph where
  n : Int
  m : Int
  ts : List T
  deriving DecidableEq
@[simp] def Ph.av (x : Ph) : AV := .agg [.int .i64 x.n, .int .i64 x.m, .snap 3 (x.ts.map T.av)]
def Ph.ok (x : Ph) : Prop := in64 x.n ∧ in64 x.m ∧ ∀ t ∈ x.ts, t.ok
theorem T.ext' {x y : T} (h1 : x.f = y.f) (h2 : x.t = y.t) (h3 : x.s = y.s) : x = y := by
  cases x; cases y; simp at h1 h2 h3; simp [h1, h2, h3]
theorem T.av_inj {x y : T} (h : x.av = y.av) : x = y := by
  simp at h; exact T.ext' h.1 h.2.1 h.2.2
@[simp] theorem Ts_inj (l m : List T) : (l.map T.av = m.map T.av) ↔ l = m := ⟨fun h => List.map_inj_right (fun _ _ => T.av_inj) |>.1 h, fun h => by rw [h]⟩
@[simp] theorem T_eta (x : T) : (⟨x.f, x.t, x.s⟩ : T) = x := rfl
@[simp] theorem Ph_eta (x : Ph) : (⟨x.n, x.m, x.ts⟩ : Ph) = x := rfl
def tz : AV := .agg [.int .i64 0, .int .i64 0, .int .i64 0]
def tyT : Ty := .struct (.cons (.int .i64) (.cons (.int .i64) (.cons (.int .i64) .nil)))
def tyPh : Ty := .struct (.cons (.int .i64) (.cons (.int .i64) (.cons (.slice tyT) .nil)))
theorem T_of_shape {x : AV} (h : isAgg x = tyT.isS ∧ shC tyT (cellsOf x)) : ∃ t : T, x = t.av ∧ t.ok := by
  obtain ⟨h1, a1, b1, e1, ⟨n1, rfl, r1⟩, a2, b2, rfl, ⟨n2, rfl, r2⟩, a3, b3, rfl, ⟨n3, rfl, r3⟩, h3⟩ := h
  have h3' : b3 = [] := h3
  subst h3'
  cases x <;> simp [isAgg, tyT, Ty.isS] at h1
  rename_i l
  refine ⟨⟨n1, n2, n3⟩, ?_, r1, r2, r3⟩
  simp only [cellsOf] at e1
  rw [e1]; rfl
theorem Ts_of_shape : ∀ {xs : List AV}, (∀ x ∈ xs, isAgg x = tyT.isS ∧ shC tyT (cellsOf x)) → ∃ ts : List T, xs = ts.map T.av ∧ ∀ t ∈ ts, t.ok
  | [], _ => ⟨[], rfl, by simp⟩
  | x :: xs, h => by
    obtain ⟨t, rfl, ht⟩ := T_of_shape (h x (List.mem_cons_self ..))
    obtain ⟨ts, rfl, hts⟩ := Ts_of_shape (xs := xs) fun y hy => h y (List.mem_cons_of_mem _ hy)
    exact ⟨t :: ts, rfl, by simpa using ⟨ht, hts⟩⟩
def Ph.wf (p : Ph) : Prop := p.ok ∧ p.ts.length ≤ 9223372036854775807
theorem Ph_of_shape {x : AV} (h : shV tyPh x) : ∃ p : Ph, x = p.av ∧ p.wf := by
  obtain ⟨h1, a1, b1, e1, ⟨n1, rfl, r1⟩, a2, b2, rfl, ⟨n2, rfl, r2⟩, a3, b3, rfl, ⟨xs, rfl, hlen, r3⟩, h3⟩ := h
  have hm : maxLen ≤ 9223372036854775807 := by decide
  have h3' : b3 = [] := h3
  subst h3'
  obtain ⟨ts, rfl, hts⟩ := Ts_of_shape r3
  cases x <;> simp [isAgg, tyPh, Ty.isS] at h1
  rename_i l
  refine ⟨⟨n1, n2, ts⟩, ?_, ⟨r1, r2, hts⟩, by simp only [List.length_map] at hlen; exact Nat.le_trans hlen hm⟩
  simp only [cellsOf] at e1
  rw [e1]; rfl

abbrev k67_o0 : List AJ := [.o ⟨(some 1), none, false, .box false 3 (.t 0), none⟩, .o ⟨(some 2), none, false, .alloc true 3 (.agg [(.int .i64 0), (.int .i64 0), (.int .i64 0)]), (some [1, 2])⟩]
abbrev k67_o1 : List AJ := [.o ⟨(some 3), none, false, .alloc true 3 (.agg [(.int .i64 0), (.int .i64 0), (.int .i64 0)]), (some [1, 2, 3])⟩]
abbrev k67_o2 : List AJ := [.o ⟨(some 4), none, false, .fieldA 0 (.t 1), none⟩, .o ⟨(some 5), none, false, .load 1 false (.t 4), none⟩, .o ⟨(some 6), none, false, .fieldA 0 (.t 3), none⟩, .o ⟨none, none, false, .store 1 (.t 6) (.t 5), (some [1, 2, 3])⟩]
abbrev k67_o3 : List AJ := [.o ⟨(some 7), none, false, .fieldA 1 (.t 1), none⟩, .o ⟨(some 8), none, false, .load 1 false (.t 7), none⟩, .o ⟨(some 9), none, false, .fieldA 1 (.t 3), none⟩, .o ⟨none, none, false, .store 1 (.t 9) (.t 8), (some [1, 2, 3])⟩]
abbrev k67_o4 : List AJ := [.o ⟨(some 10), none, false, .fieldA 2 (.t 1), none⟩, .o ⟨(some 11), none, false, .load 1 false (.t 10), none⟩, .o ⟨(some 12), none, false, .fieldA 2 (.t 3), none⟩, .o ⟨none, none, false, .store 1 (.t 12) (.t 11), (some [2, 3])⟩]
abbrev k67_o5 : List AJ := [.o ⟨(some 13), none, false, .load 3 true (.t 3), none⟩, .o ⟨none, none, false, .store 3 (.t 2) (.t 13), (some [2])⟩]
def k67_6 : ACode := .seq (.region k67_o5) .ret
def k67_7 : ACode := .seq (.region k67_o4) k67_6
def k67_8 : ACode := .seq (.region k67_o3) k67_7
def k67_9 : ACode := .seq (.region k67_o2) k67_8
def k67_10 : ACode := .seq (.region k67_o1) k67_9
def k67_11 : ACode := .seq (.region k67_o0) k67_10
@[simp, simp ↓] theorem k67_6r : sR k67_6 k67_o5 .ret := yR rfl
@[simp, simp ↓] theorem k67_7r : sR k67_7 k67_o4 k67_6 := yR rfl
@[simp, simp ↓] theorem k67_8r : sR k67_8 k67_o3 k67_7 := yR rfl
@[simp, simp ↓] theorem k67_9r : sR k67_9 k67_o2 k67_8 := yR rfl
@[simp, simp ↓] theorem k67_10r : sR k67_10 k67_o1 k67_9 := yR rfl
@[simp, simp ↓] theorem k67_11r : sR k67_11 k67_o0 k67_10 := yR rfl
noncomputable abbrev k67_C : Orc → Cx := mkC Try.prog [2, 3] 67 14 [.cell 2 3 true]
theorem k67_of : OfP Try.prog Try.f67 67 14 k67_C k67_11 := @ofP _ _ _ _ _ _ _ _ Try.func67 (by decide +kernel) rfl (by kernel_rfl) rfl (by kernel_rfl)
theorem toTurn_c (x : T) (h : Heap) : ACalls Try.prog 67 [x.av] h (fun v h' => v = x.av ∧ h' = h) := by
  refine k67_of rfl noPure fun I => ?_
  refine Run2.of I 1000 ?_
  simp -implicitDefEqProofs
  intro a ha b hb1 hb2
  refine gK.go ?_
  simp -implicitDefEqProofs [hb1]
  refine .drop b (.drop a (.base ?_))
  simp -implicitDefEqProofs [hb1]
noncomputable def o_toTurn : List AV → Option (Prop × AV) := tab (fun (x : Int × Int × Int) => match x with | (f, t, s) => [.agg [.int .i64 f, .int .i64 t, .int .i64 s]]) (fun x => match x with | (f, t, s) => True) (fun x => match x with | (f, t, s) => .agg [.int .i64 f, .int .i64 t, .int .i64 s])
@[simp] theorem o_toTurn_e (f : Int) (t : Int) (s : Int) : o_toTurn [.agg [.int .i64 f, .int .i64 t, .int .i64 s]] = some (True, .agg [.int .i64 f, .int .i64 t, .int .i64 s]) := tab_at (enc := fun (x : Int × Int × Int) => match x with | (f, t, s) => [.agg [.int .i64 f, .int .i64 t, .int .i64 s]]) (fun x y h => by
  obtain ⟨f1, t1, s1⟩ := x; obtain ⟨f2, t2, s2⟩ := y; simp at h; simp [h] <;> omega) _ _ (f, t, s)
theorem o_toTurn_k : Knows Try.prog 67 o_toTurn := tab_knows fun x hx h => by
  obtain ⟨f, t, s⟩ := x; exact toTurn_c ⟨f, t, s⟩ h
abbrev k46_o0 : List AJ := [.o ⟨(some 2), none, false, .mv (.c .nilsl), (some [0])⟩]
abbrev k46_o1 : List AJ := [.o ⟨(some 5), none, false, .mv (.t 0), none⟩, .o ⟨(some 6), none, false, .len (.t 5), none⟩, .o ⟨(some 7), none, false, .mksl 3 24 (.agg [(.int .i64 0), (.int .i64 0), (.int .i64 0)]) (.t 6) (.t 6), none⟩, .o ⟨(some 3), none, false, .mv (.t 7), (some [0, 3])⟩]
abbrev k46_o2 : List AJ := [.o ⟨(some 4), none, false, .mv (.c (.int .i64 0)), (some [0, 3, 4])⟩]
abbrev k46_o3 : List AJ := [.o ⟨(some 8), none, false, .mv (.t 4), none⟩, .o ⟨(some 9), none, false, .mv (.t 0), none⟩, .o ⟨(some 10), none, false, .len (.t 9), none⟩, .o ⟨(some 11), none, false, .bin .lss (.t 8) (.t 10), (some [0, 3, 4, 11])⟩]
def k46_4 : ACode := .cond (.t 11) .skip (.exit 0)
def k46_5 : ACode := .seq (.region k46_o3) k46_4
abbrev k46_o4 : List AJ := [.o ⟨(some 14), none, false, .mv (.t 3), none⟩, .o ⟨(some 15), none, false, .mv (.t 4), none⟩, .o ⟨(some 16), none, false, .mv (.t 0), none⟩, .o ⟨(some 17), none, false, .mv (.t 4), none⟩, .o ⟨(some 18), none, false, .idxA 3 (.t 16) (.t 17), none⟩, .o ⟨(some 19), none, false, .load 3 true (.t 18), none⟩, .o ⟨(some 20), none, false, .call 67 [(.t 19)], none⟩, .o ⟨(some 21), none, false, .idxA 3 (.t 14) (.t 15), none⟩, .o ⟨none, none, false, .store 3 (.t 21) (.t 20), (some [0, 3, 4])⟩]
def k46_6 : ACode := .region k46_o4
abbrev k46_o5 : List AJ := [.o ⟨(some 12), none, false, .mv (.t 4), none⟩, .o ⟨(some 13), none, true, .bin .add (.t 12) (.c (.int .i64 1)), none⟩, .o ⟨(some 4), none, false, .mv (.t 13), (some [0, 3, 4])⟩]
def k46_8 : ACode := .region k46_o5
def k46_9 : ACode := .seq (.block 1 k46_6) k46_8
def k46_10 : ACode := .seq k46_5 k46_9
def k46_11 : ACode := .loop k46_10
def k46_12 : ACode := .block 0 k46_11
def k46_13 : ACode := .seq (.region k46_o2) k46_12
abbrev k46_o6 : List AJ := [.o ⟨(some 22), none, false, .mv (.t 3), none⟩, .o ⟨(some 2), none, false, .mv (.t 22), (some [2])⟩]
def k46_15 : ACode := .seq (.region k46_o6) .ret
def k46_16 : ACode := .seq k46_13 k46_15
def k46_17 : ACode := .seq (.region k46_o1) k46_16
def k46_18 : ACode := .seq (.region k46_o0) k46_17
@[simp, simp ↓] theorem k46_4r : rC k46_4 (.t 11) .skip (.exit 0) := zC rfl
@[simp, simp ↓] theorem k46_5r : sR k46_5 k46_o3 k46_4 := yR rfl
@[simp, simp ↓] theorem k46_6r : rR k46_6 k46_o4 := zR rfl
@[simp, simp ↓] theorem k46_8r : rR k46_8 k46_o5 := zR rfl
@[simp, simp ↓] theorem k46_9r : sB k46_9 1 k46_6 k46_8 := yB rfl
@[simp, simp ↓] theorem k46_10r : rS k46_10 k46_5 k46_9 := zS rfl
@[simp, simp ↓] theorem k46_11r : rL k46_11 k46_10 := zL rfl
@[simp, simp ↓] theorem k46_12r : rB k46_12 0 k46_11 := zB rfl
@[simp, simp ↓] theorem k46_13r : sR k46_13 k46_o2 k46_12 := yR rfl
@[simp, simp ↓] theorem k46_15r : sR k46_15 k46_o6 .ret := yR rfl
@[simp, simp ↓] theorem k46_16r : rS k46_16 k46_13 k46_15 := zS rfl
@[simp, simp ↓] theorem k46_17r : sR k46_17 k46_o1 k46_16 := yR rfl
@[simp, simp ↓] theorem k46_18r : sR k46_18 k46_o0 k46_17 := yR rfl
noncomputable abbrev k46_C : Orc → Cx := mkC Try.prog [] 46 23 [.tmp 2]
theorem k46_of0 : OfP0 Try.prog Try.f46 46 23 k46_C k46_18 := @ofP0 _ _ _ _ _ _ _ _ Try.func46 (by decide +kernel) rfl (by kernel_rfl) rfl (by kernel_rfl)
theorem toTurnS_w (l : List T) (h : Heap) (hl : l.length ≤ 1048576) : ACalls Try.prog 46 [.snap 3 (l.map T.av)] h (fun v h' => ∃ id, id ∉ dom h ∧ v = .sl id 3 0 l.length (some l.length) ∧ h' = (id, ⟨3, l.map T.av⟩) :: h) := by
  refine k46_of0 rfl (lk_pure o_toTurn_k lk_pure0) fun I => ?_
  refine Run2.of I 1000 ?_
  simp -implicitDefEqProofs
  refine ⟨by omega, fun id hid => ?_⟩
  refine Run2.loop (fun i => [(0, .snap 3 (l.map T.av)), (3, .sl id 3 0 l.length (some l.length)), (4, .int .i64 (i : Nat))]) (fun i => (id, ⟨3, (l.map T.av).take i ++ List.replicate (l.length - i) tz⟩) :: h) (fun i => l.length - i) (fun i => i ≤ l.length) 0 (Nat.zero_le _) fun i hi ih => ?_
  by_cases hlt : i < l.length
  · refine Run2.of I 1000 ?_
    simp -implicitDefEqProofs [hlt]
    refine ⟨by omega, by omega, ?_⟩
    have := ih (i + 1) (by omega) (by omega)
    simpa [set_fill (l.map T.av) tz (i := i) (n := l.length) (by simp) (by simpa using hlt)] using this
  · obtain rfl : i = l.length := by omega
    refine Run2.of I 1000 ?_
    simp -implicitDefEqProofs
    refine ⟨id, hid, rfl, ?_⟩
    rw [List.take_of_length_le (by simp)]
theorem toTurnS_c (l : List T) (h : Heap) (hl : l.length ≤ 1048576) : ACalls Try.prog 46 [.snap 3 (l.map T.av)] h (fun v h' => v = .snap 3 (l.map T.av) ∧ h' = h) := by
  refine ACalls.post ((toTurnS_w l h hl).mono ?_)
  rintro v h' ⟨id, hid, rfl, rfl⟩
  refine .freeze id (by simp; rfl) (.base ?_)
  simp [List.take_of_length_le]
abbrev k15_o0 : List AJ := [.o ⟨(some 1), none, false, .box false 3 (.t 0), none⟩, .o ⟨(some 2), none, false, .alloc true 3 (.agg [(.int .i64 0), (.int .i64 0), .nilsl]), (some [1, 2])⟩]
abbrev k15_o1 : List AJ := [.o ⟨(some 3), none, false, .alloc true 3 (.agg [(.int .i64 0), (.int .i64 0), .nilsl]), (some [1, 2, 3])⟩]
abbrev k15_o2 : List AJ := [.o ⟨(some 4), none, false, .fieldA 0 (.t 1), none⟩, .o ⟨(some 5), none, false, .load 1 false (.t 4), none⟩, .o ⟨(some 6), none, false, .fieldA 0 (.t 3), none⟩, .o ⟨none, none, false, .store 1 (.t 6) (.t 5), (some [1, 2, 3])⟩]
abbrev k15_o3 : List AJ := [.o ⟨(some 7), none, false, .fieldA 1 (.t 1), none⟩, .o ⟨(some 8), none, false, .load 1 false (.t 7), none⟩, .o ⟨(some 9), none, false, .fieldA 1 (.t 3), none⟩, .o ⟨none, none, false, .store 1 (.t 9) (.t 8), (some [1, 2, 3])⟩]
abbrev k15_o4 : List AJ := [.o ⟨(some 10), none, false, .fieldA 2 (.t 1), none⟩, .o ⟨(some 11), none, false, .load 1 false (.t 10), none⟩, .o ⟨(some 12), none, false, .call 46 [(.t 11)], none⟩, .o ⟨(some 13), none, false, .fieldA 2 (.t 3), none⟩, .o ⟨none, none, false, .store 1 (.t 13) (.t 12), (some [2, 3])⟩]
abbrev k15_o5 : List AJ := [.o ⟨(some 14), none, false, .load 3 true (.t 3), none⟩, .o ⟨none, none, false, .store 3 (.t 2) (.t 14), (some [2])⟩]
def k15_6 : ACode := .seq (.region k15_o5) .ret
def k15_7 : ACode := .seq (.region k15_o4) k15_6
def k15_8 : ACode := .seq (.region k15_o3) k15_7
def k15_9 : ACode := .seq (.region k15_o2) k15_8
def k15_10 : ACode := .seq (.region k15_o1) k15_9
def k15_11 : ACode := .seq (.region k15_o0) k15_10
@[simp, simp ↓] theorem k15_6r : sR k15_6 k15_o5 .ret := yR rfl
@[simp, simp ↓] theorem k15_7r : sR k15_7 k15_o4 k15_6 := yR rfl
@[simp, simp ↓] theorem k15_8r : sR k15_8 k15_o3 k15_7 := yR rfl
@[simp, simp ↓] theorem k15_9r : sR k15_9 k15_o2 k15_8 := yR rfl
@[simp, simp ↓] theorem k15_10r : sR k15_10 k15_o1 k15_9 := yR rfl
@[simp, simp ↓] theorem k15_11r : sR k15_11 k15_o0 k15_10 := yR rfl
noncomputable abbrev k15_C : Orc → Cx := mkC Try.prog [2, 3] 15 15 [.cell 2 3 true]
theorem k15_of : OfP Try.prog Try.f15 15 15 k15_C k15_11 := @ofP _ _ _ _ _ _ _ _ Try.func15 (by decide +kernel) rfl (by kernel_rfl) rfl (by kernel_rfl)
theorem toPhases_c (x : Ph) (h : Heap) (hl : x.ts.length ≤ 1048576) : ACalls Try.prog 15 [x.av] h (fun v h' => v = x.av ∧ h' = h) := by
  refine k15_of rfl noPure fun I => ?_
  refine Run2.of I 1000 ?_
  simp -implicitDefEqProofs
  intro a ha b hb1 hb2
  refine gK.go ?_
  simp -implicitDefEqProofs [hb1]
  refine (toTurnS_c x.ts _ hl).mono ?_
  rintro v h' ⟨rfl, rfl⟩
  refine gK.go ?_
  simp -implicitDefEqProofs [hb1]
  refine .drop b (.drop a (.base ?_))
  simp -implicitDefEqProofs [hb1]
@[simp] theorem T.cold (x : T) : Go.AG.cold x.av = true := rfl
@[simp] theorem T.own (x : T) : Go.AG.own x.av = true := rfl
/-- v is phases whose edges stand in a block of its own. -/
def OwnPh (v : AV) (x : Ph) (hp : Heap) : Prop := ∃ u, v = .agg [.int .i64 x.n, .int .i64 x.m, u] ∧ OwnL T.av 3 u x.ts hp
/-- v is phases that nobody writes. -/
def IsPh (v : AV) (x : Ph) : Prop := ∃ u, v = .agg [.int .i64 x.n, .int .i64 x.m, u] ∧ IsL T.av 3 u x.ts
theorem IsPh.wk {v : AV} {x : Ph} (h : IsPh v x) : Wk v x.av := by
  obtain ⟨u, rfl, hu⟩ := h
  exact Wk.agg (.cons (.refl _) (.cons (.refl _) (.cons hu.wk .nil)))
theorem IsPh.cold {v : AV} {x : Ph} (h : IsPh v x) : Go.AG.cold v = true := by
  obtain ⟨u, rfl, hu⟩ := h
  simp [Go.AG.cold, colds, hu.cold T.cold]
theorem lend1_agg3 (L : Heap) (a b : Int) (u : AV) : lend1 L (.agg [.int .i64 a, .int .i64 b, u]) = .agg [.int .i64 a, .int .i64 b, lend1 L u] := by
  induction L generalizing u with
  | nil => rfl
  | cons p L ih => simp only [lend1, fz, fzs]; exact ih _
theorem OwnPh.lent {v : AV} {x : Ph} {hp : Heap} (h : OwnPh v x hp) : IsPh (lend1 hp v) x := by
  obtain ⟨u, rfl, hu⟩ := h
  exact ⟨_, lend1_agg3 hp _ _ u, hu.lent⟩
theorem OwnPh.lentIn {v : AV} {x : Ph} {hp : Heap} (h : OwnPh v x hp) {L : Heap} (hs : ∀ p ∈ hp, p ∈ L) (nd : (dom L).Nodup) : IsPh (lend1 L v) x := by
  obtain ⟨u, rfl, hu⟩ := h
  exact ⟨_, lend1_agg3 L _ _ u, hu.lentIn T.cold hs nd⟩
theorem OwnPh.own {v : AV} {x : Ph} {hp : Heap} (h : OwnPh v x hp) : Go.AG.own v = true ∧ (hp.all fun p => p.2.l.all Go.AG.own) = true := by
  obtain ⟨u, rfl, hu⟩ := h
  exact ⟨by simp [Go.AG.own, owns, (hu.own T.own).1], (hu.own T.own).2⟩
theorem OwnPh.nodup {v : AV} {x : Ph} {hp : Heap} (h : OwnPh v x hp) : (dom hp).Nodup := by
  obtain ⟨u, rfl, hu⟩ := h
  exact hu.nodup
theorem toPhases_o (x : Ph) (h : Heap) (hl : x.ts.length ≤ 1048576) : ACalls Try.prog 15 [x.av] h (fun v h' => ∃ h1, OwnPh v x h1 ∧ (∀ i ∈ dom h1, i ∉ dom h) ∧ h' = h1 ++ h) := by
  refine k15_of rfl noPure fun I => ?_
  refine Run2.of I 1000 ?_
  simp -implicitDefEqProofs
  intro a ha b hb1 hb2
  refine gK.go ?_
  simp -implicitDefEqProofs [hb1]
  refine (toTurnS_w x.ts _ hl).mono ?_
  rintro v h' ⟨id, hid, rfl, rfl⟩
  simp [dom] at hid
  refine gK.go ?_
  simp -implicitDefEqProofs [hb1, hid, Ne.symm hid.1, Ne.symm hid.2.1]
  refine .drop b (.drop a (.base ?_))
  refine ⟨[(id, ⟨3, x.ts.map T.av ++ []⟩)], ⟨_, rfl, .sl id _ [] rfl⟩, ?_, ?_⟩
  · simpa [dom] using hid.2.2
  · simp [hid, Ne.symm hid.1, hb1]
def marksT (k : Int) (n : Nat) : List T := (List.range n).map fun i => ⟨k + 3 * (i : Nat), k + 3 * (i : Nat) + 1, k + 3 * (i : Nat) + 1 + 1⟩
@[simp] theorem marksT_length (k : Int) (n : Nat) : (marksT k n).length = n := by simp [marksT]
theorem marksT_succ (k : Int) (n : Nat) : marksT k (n + 1) = marksT k n ++ [⟨k + 3 * n, k + 3 * n + 1, k + 3 * n + 1 + 1⟩] := by simp [marksT, List.range_succ]
theorem marksT_get (k : Int) (n i : Nat) (h : i < (marksT k n).length) : (marksT k n)[i] = ⟨k + 3 * i, k + 3 * i + 1, k + 3 * i + 1 + 1⟩ := by simp [marksT]
theorem markT_step (l : List T) (ex : List AV) (k : Int) (i : Nat) (hi : i < l.length) : ((marksT k i).map T.av ++ (l.drop i).map T.av ++ ex).set i (T.av ⟨k + 3 * i, k + 3 * i + 1, k + 3 * i + 1 + 1⟩) = (marksT k (i + 1)).map T.av ++ (l.drop (i + 1)).map T.av ++ ex := by
  rw [List.drop_eq_getElem_cons hi, marksT_succ]
  simp only [List.map_cons, List.map_append, List.map_nil, List.append_assoc, List.cons_append, List.nil_append]
  rw [List.set_append_right _ _ (by simp)]
  simp
abbrev k48_o0 : List AJ := [.o ⟨(some 4), none, false, .mv (.c (.int .i64 0)), (some [0, 1])⟩]
abbrev k48_o1 : List AJ := [.o ⟨(some 5), none, false, .mv (.c (.int .i64 0)), (some [0, 1, 5])⟩]
abbrev k48_o2 : List AJ := [.o ⟨(some 6), none, false, .mv (.t 5), none⟩, .o ⟨(some 7), none, false, .mv (.t 0), none⟩, .o ⟨(some 8), none, false, .len (.t 7), none⟩, .o ⟨(some 9), none, false, .bin .lss (.t 6) (.t 8), (some [0, 1, 5, 9])⟩]
def k48_3 : ACode := .cond (.t 9) .skip (.exit 0)
def k48_4 : ACode := .seq (.region k48_o2) k48_3
abbrev k48_o3 : List AJ := [.o ⟨(some 12), none, false, .mv (.t 0), none⟩, .o ⟨(some 13), none, false, .mv (.t 5), none⟩, .o ⟨(some 14), none, false, .mv (.t 1), none⟩, .o ⟨(some 15), none, false, .idxA 3 (.t 12) (.t 13), none⟩, .o ⟨(some 16), none, false, .fieldA 0 (.t 15), none⟩, .o ⟨none, none, false, .store 1 (.t 16) (.t 14), (some [0, 1, 5])⟩]
abbrev k48_o4 : List AJ := [.o ⟨(some 17), none, false, .mv (.t 1), none⟩, .o ⟨(some 18), none, true, .bin .add (.t 17) (.c (.int .i64 1)), none⟩, .o ⟨(some 1), none, false, .mv (.t 18), (some [0, 1, 5])⟩]
abbrev k48_o5 : List AJ := [.o ⟨(some 19), none, false, .mv (.t 0), none⟩, .o ⟨(some 20), none, false, .mv (.t 5), none⟩, .o ⟨(some 21), none, false, .mv (.t 1), none⟩, .o ⟨(some 22), none, false, .idxA 3 (.t 19) (.t 20), none⟩, .o ⟨(some 23), none, false, .fieldA 1 (.t 22), none⟩, .o ⟨none, none, false, .store 1 (.t 23) (.t 21), (some [0, 1, 5])⟩]
abbrev k48_o6 : List AJ := [.o ⟨(some 24), none, false, .mv (.t 1), none⟩, .o ⟨(some 25), none, true, .bin .add (.t 24) (.c (.int .i64 1)), none⟩, .o ⟨(some 1), none, false, .mv (.t 25), (some [0, 1, 5])⟩]
abbrev k48_o7 : List AJ := [.o ⟨(some 26), none, false, .mv (.t 0), none⟩, .o ⟨(some 27), none, false, .mv (.t 5), none⟩, .o ⟨(some 28), none, false, .mv (.t 1), none⟩, .o ⟨(some 29), none, false, .idxA 3 (.t 26) (.t 27), none⟩, .o ⟨(some 30), none, false, .fieldA 2 (.t 29), none⟩, .o ⟨none, none, false, .store 1 (.t 30) (.t 28), (some [0, 1, 5])⟩]
abbrev k48_o8 : List AJ := [.o ⟨(some 31), none, false, .mv (.t 1), none⟩, .o ⟨(some 32), none, true, .bin .add (.t 31) (.c (.int .i64 1)), none⟩, .o ⟨(some 1), none, false, .mv (.t 32), (some [0, 1, 5])⟩]
def k48_10 : ACode := .region k48_o8
def k48_11 : ACode := .seq (.region k48_o7) k48_10
def k48_12 : ACode := .seq (.region k48_o6) k48_11
def k48_13 : ACode := .seq (.region k48_o5) k48_12
def k48_14 : ACode := .seq (.region k48_o4) k48_13
def k48_15 : ACode := .seq (.region k48_o3) k48_14
abbrev k48_o9 : List AJ := [.o ⟨(some 10), none, false, .mv (.t 5), none⟩, .o ⟨(some 11), none, true, .bin .add (.t 10) (.c (.int .i64 1)), none⟩, .o ⟨(some 5), none, false, .mv (.t 11), (some [0, 1, 5])⟩]
def k48_17 : ACode := .region k48_o9
def k48_18 : ACode := .seq (.block 1 k48_15) k48_17
def k48_19 : ACode := .seq k48_4 k48_18
def k48_20 : ACode := .loop k48_19
def k48_21 : ACode := .block 0 k48_20
def k48_22 : ACode := .seq (.region k48_o1) k48_21
abbrev k48_o10 : List AJ := [.o ⟨(some 33), none, false, .mv (.t 1), none⟩, .o ⟨(some 4), none, false, .mv (.t 33), (some [4])⟩]
def k48_24 : ACode := .seq (.region k48_o10) .ret
def k48_25 : ACode := .seq k48_22 k48_24
def k48_26 : ACode := .seq (.region k48_o0) k48_25
@[simp, simp ↓] theorem k48_3r : rC k48_3 (.t 9) .skip (.exit 0) := zC rfl
@[simp, simp ↓] theorem k48_4r : sR k48_4 k48_o2 k48_3 := yR rfl
@[simp, simp ↓] theorem k48_10r : rR k48_10 k48_o8 := zR rfl
@[simp, simp ↓] theorem k48_11r : sR k48_11 k48_o7 k48_10 := yR rfl
@[simp, simp ↓] theorem k48_12r : sR k48_12 k48_o6 k48_11 := yR rfl
@[simp, simp ↓] theorem k48_13r : sR k48_13 k48_o5 k48_12 := yR rfl
@[simp, simp ↓] theorem k48_14r : sR k48_14 k48_o4 k48_13 := yR rfl
@[simp, simp ↓] theorem k48_15r : sR k48_15 k48_o3 k48_14 := yR rfl
@[simp, simp ↓] theorem k48_17r : rR k48_17 k48_o9 := zR rfl
@[simp, simp ↓] theorem k48_18r : sB k48_18 1 k48_15 k48_17 := yB rfl
@[simp, simp ↓] theorem k48_19r : rS k48_19 k48_4 k48_18 := zS rfl
@[simp, simp ↓] theorem k48_20r : rL k48_20 k48_19 := zL rfl
@[simp, simp ↓] theorem k48_21r : rB k48_21 0 k48_20 := zB rfl
@[simp, simp ↓] theorem k48_22r : sR k48_22 k48_o1 k48_21 := yR rfl
@[simp, simp ↓] theorem k48_24r : sR k48_24 k48_o10 .ret := yR rfl
@[simp, simp ↓] theorem k48_25r : rS k48_25 k48_22 k48_24 := zS rfl
@[simp, simp ↓] theorem k48_26r : sR k48_26 k48_o0 k48_25 := yR rfl
noncomputable abbrev k48_C : Orc → Cx := mkC Try.prog [] 48 34 [.tmp 4]
theorem k48_of0 : OfP0 Try.prog Try.f48 48 34 k48_C k48_26 := @ofP0 _ _ _ _ _ _ _ _ Try.func48 (by decide +kernel) rfl (by kernel_rfl) rfl (by kernel_rfl)
theorem markTurnS_s (id : Nat) (l : List T) (ex : List AV) (cap : Option Nat) (k : Int) (hk : 0 ≤ k ∧ k ≤ 1099511627776) (hl : l.length ≤ 1073741824) : ACalls Try.prog 48 [.sl id 3 0 l.length cap, .int .i64 k] [(id, ⟨3, l.map T.av ++ ex⟩)] (fun v h' => v = .int .i64 (k + 3 * l.length) ∧ h' = [(id, ⟨3, (marksT k l.length).map T.av ++ ex⟩)]) := by
  refine k48_of0 rfl noPure fun I => ?_
  refine Run2.of I 1000 ?_
  simp -implicitDefEqProofs
  obtain ⟨f, hf0, hfn, hlen, hset, hget⟩ : ∃ f : Nat → List AV, l.map T.av ++ ex = f 0 ∧ (marksT k l.length).map T.av ++ ex = f l.length ∧ (∀ i, i ≤ l.length → (f i).length = l.length + ex.length) ∧ (∀ i, i < l.length → (f i).set i (T.av ⟨k + 3 * i, k + 3 * i + 1, k + 3 * i + 1 + 1⟩) = f (i + 1)) ∧ ∀ i, (hi : i < l.length) → (f i)[i]? = some l[i].av :=
    ⟨fun i => (marksT k i).map T.av ++ (l.drop i).map T.av ++ ex, by simp [marksT], by simp, fun i hi => by simp; omega, fun i hi => markT_step l ex k i hi, fun i hi => by
      show ((marksT k i).map T.av ++ (l.drop i).map T.av ++ ex)[i]? = _
      rw [List.append_assoc, List.getElem?_append_right (by simp)]
      rw [show i - ((marksT k i).map T.av).length = 0 by simp, List.drop_eq_getElem_cons hi]; rfl⟩
  have hz : l.map (fun x : T => AV.agg [.int .i64 x.f, .int .i64 x.t, .int .i64 x.s]) = l.map T.av := rfl
  rw [hf0, hfn]
  refine Run2.loopE (fun i => [(0, .sl id 3 0 l.length cap), (1, .int .i64 (k + 3 * (i : Nat))), (5, .int .i64 (i : Nat))]) (fun i => [(id, ⟨3, f i⟩)]) (fun i => l.length - i) (fun i => i ≤ l.length) 0 (by simp) rfl (Nat.zero_le _) fun i hi ih => ?_
  by_cases hlt : i < l.length
  · have go := ih (i + 1) (by omega) (by omega)
    have hl2 := hlen i hi
    have hg := hget i hlt
    have hlf : i < (f i).length := by omega
    have hs := hset i hlt
    clear ih
    refine Run2.of I 1000 ?_
    have hsg : ∀ A, ((f i).set i A)[i]? = some A := fun A => List.getElem?_set_self hlf
    simp -implicitDefEqProofs [hlt, hl2, hg, hsg]
    simp at hs
    rw [hs]
    refine ⟨by omega, by omega, by omega, by omega, ?_⟩
    have e : k + 3 * ((i + 1 : Nat) : Int) = k + 3 * i + 1 + 1 + 1 := by omega
    rw [e] at go
    simpa using go
  · obtain rfl : i = l.length := by omega
    refine Run2.of I 1000 ?_
    simp -implicitDefEqProofs
theorem markTurnS_o {v : AV} {l : List T} {hs : Heap} (ho : OwnL T.av 3 v l hs) (k : Int) (hk : 0 ≤ k ∧ k ≤ 1099511627776) (hl : l.length ≤ 1073741824) : ACalls Try.prog 48 [v, .int .i64 k] hs (fun r h' => r = .int .i64 (k + 3 * l.length) ∧ OwnL T.av 3 v (marksT k l.length) h') := by
  have nil : ∀ u, (u = AV.nilsl ∨ u = .emp) → ACalls Try.prog 48 [u, .int .i64 k] [] (fun r h' => r = .int .i64 (k + 3 * ([] : List T).length) ∧ OwnL T.av 3 u (marksT k 0) h') := by
    rintro u (rfl | rfl)
    all_goals
      refine k48_of0 rfl noPure fun I => ?_
      refine Run2.of I 1000 ?_
      simp -implicitDefEqProofs
      refine Run2.loopE (fun (_ : Unit) => [(0, _), (1, .int .i64 k), (5, .int .i64 0)]) (fun _ => []) (fun _ => 0) (fun _ => True) () (by rfl) rfl trivial fun _ _ _ => ?_
      refine Run2.of I 1000 ?_
      simp -implicitDefEqProofs
      constructor
  cases ho with
  | nil => exact nil _ (.inl rfl)
  | emp => exact nil _ (.inr rfl)
  | sl id cap ex hex =>
    refine (markTurnS_s id l ex cap k hk hl).mono ?_
    rintro r h' ⟨rfl, rfl⟩
    refine ⟨rfl, ?_⟩
    have := OwnL.sl (enc := T.av) (sz := 3) (l := marksT k l.length) id cap ex hex
    rwa [marksT_length] at this
abbrev k18_o0 : List AJ := [.o ⟨(some 2), none, false, .box false 3 (.t 0), none⟩, .o ⟨(some 4), none, false, .mv (.c (.int .i64 0)), (some [1, 2])⟩]
abbrev k18_o1 : List AJ := [.o ⟨(some 5), none, false, .fieldA 2 (.t 2), none⟩, .o ⟨(some 6), none, false, .load 1 false (.t 5), none⟩, .o ⟨(some 7), none, false, .mv (.t 1), none⟩, .o ⟨(some 8), none, false, .call 48 [(.t 6), (.t 7)], none⟩, .o ⟨(some 1), none, false, .mv (.t 8), (some [1])⟩]
abbrev k18_o2 : List AJ := [.o ⟨(some 9), none, false, .mv (.t 1), none⟩, .o ⟨(some 4), none, false, .mv (.t 9), (some [4])⟩]
def k18_3 : ACode := .seq (.region k18_o2) .ret
def k18_4 : ACode := .seq (.region k18_o1) k18_3
def k18_5 : ACode := .seq (.region k18_o0) k18_4
@[simp, simp ↓] theorem k18_3r : sR k18_3 k18_o2 .ret := yR rfl
@[simp, simp ↓] theorem k18_4r : sR k18_4 k18_o1 k18_3 := yR rfl
@[simp, simp ↓] theorem k18_5r : sR k18_5 k18_o0 k18_4 := yR rfl
noncomputable abbrev k18_C : Orc → Cx := mkC Try.prog [] 18 10 [.tmp 4]
theorem k18_of0 : OfP0 Try.prog Try.f18 18 10 k18_C k18_5 := @ofP0 _ _ _ _ _ _ _ _ Try.func18 (by decide +kernel) rfl (by kernel_rfl) rfl (by kernel_rfl)
theorem markPhases_o {v : AV} {x : Ph} {hs : Heap} (ho : OwnPh v x hs) (k : Int) (hk : 0 ≤ k ∧ k ≤ 1099511627776) (hl : x.ts.length ≤ 1073741824) : ACalls Try.prog 18 [v, .int .i64 k] hs (fun r h' => r = .int .i64 (k + 3 * x.ts.length) ∧ OwnPh v ⟨x.n, x.m, marksT k x.ts.length⟩ h') := by
  obtain ⟨u, rfl, hu⟩ := ho
  have hc := hu.cell
  refine k18_of0 rfl noPure fun I => ?_
  refine Run2.of I 1000 ?_
  simp -implicitDefEqProofs [hc]
  refine (markTurnS_o hu k hk hl).mono ?_
  rintro r h' ⟨rfl, hu'⟩
  refine gK.go ?_
  simp -implicitDefEqProofs
  exact ⟨_, rfl, hu'⟩
abbrev k43_o0 : List AJ := [.o ⟨(some 4), none, false, .mv (.c (.int .i64 0)), (some [0, 1])⟩]
abbrev k43_o1 : List AJ := [.o ⟨(some 5), none, false, .mv (.t 1), none⟩, .o ⟨(some 6), none, false, .mv (.t 0), none⟩, .o ⟨(some 7), none, false, .len (.t 6), none⟩, .o ⟨(some 8), none, true, .bin .sub (.t 5) (.t 7), none⟩, .o ⟨(some 1), none, false, .mv (.t 8), (some [1])⟩]
abbrev k43_o2 : List AJ := [.o ⟨(some 9), none, false, .mv (.t 1), none⟩, .o ⟨(some 10), none, false, .bin .lss (.t 9) (.c (.int .i64 0)), (some [1, 10])⟩]
abbrev k43_o3 : List AJ := [.o ⟨(some 4), none, false, .mv (.c (.int .i64 (-1))), (some [4])⟩]
def k43_4 : ACode := .seq (.region k43_o3) .ret
def k43_5 : ACode := .cond (.t 10) k43_4 .skip
def k43_6 : ACode := .seq (.region k43_o2) k43_5
abbrev k43_o4 : List AJ := [.o ⟨(some 11), none, false, .mv (.t 1), none⟩, .o ⟨(some 4), none, false, .mv (.t 11), (some [4])⟩]
def k43_8 : ACode := .seq (.region k43_o4) .ret
def k43_9 : ACode := .seq k43_6 k43_8
def k43_10 : ACode := .seq (.region k43_o1) k43_9
def k43_11 : ACode := .seq (.region k43_o0) k43_10
@[simp, simp ↓] theorem k43_4r : sR k43_4 k43_o3 .ret := yR rfl
@[simp, simp ↓] theorem k43_5r : rC k43_5 (.t 10) k43_4 .skip := zC rfl
@[simp, simp ↓] theorem k43_6r : sR k43_6 k43_o2 k43_5 := yR rfl
@[simp, simp ↓] theorem k43_8r : sR k43_8 k43_o4 .ret := yR rfl
@[simp, simp ↓] theorem k43_9r : rS k43_9 k43_6 k43_8 := zS rfl
@[simp, simp ↓] theorem k43_10r : sR k43_10 k43_o1 k43_9 := yR rfl
@[simp, simp ↓] theorem k43_11r : sR k43_11 k43_o0 k43_10 := yR rfl
noncomputable abbrev k43_C : Orc → Cx := mkC Try.prog [] 43 12 [.tmp 4]
theorem k43_of0 : OfP0 Try.prog Try.f43 43 12 k43_C k43_11 := @ofP0 _ _ _ _ _ _ _ _ Try.func43 (by decide +kernel) rfl (by kernel_rfl) rfl (by kernel_rfl)
theorem szTurnS_c (l : List T) (n : Int) (h : Heap) (hn : 0 ≤ n ∧ n ≤ 1048576) (hl : l.length ≤ 9223372036854775807) : ACalls Try.prog 43 [.snap 3 (l.map T.av), .int .i64 n] h (fun v h' => v = .int .i64 (if n < l.length then -1 else n - l.length) ∧ h' = h) := by
  refine k43_of0 rfl noPure fun I => ?_
  refine Run2.of I 1000 ?_
  simp -implicitDefEqProofs
  grind
abbrev k13_o0 : List AJ := [.o ⟨(some 2), none, false, .box false 3 (.t 0), none⟩, .o ⟨(some 4), none, false, .mv (.c (.int .i64 0)), (some [1, 2])⟩]
abbrev k13_o1 : List AJ := [.o ⟨(some 5), none, false, .fieldA 2 (.t 2), none⟩, .o ⟨(some 6), none, false, .load 1 false (.t 5), none⟩, .o ⟨(some 7), none, false, .mv (.t 1), none⟩, .o ⟨(some 8), none, false, .call 43 [(.t 6), (.t 7)], none⟩, .o ⟨(some 1), none, false, .mv (.t 8), (some [1])⟩]
abbrev k13_o2 : List AJ := [.o ⟨(some 9), none, false, .mv (.t 1), none⟩, .o ⟨(some 10), none, false, .bin .lss (.t 9) (.c (.int .i64 0)), (some [1, 10])⟩]
abbrev k13_o3 : List AJ := [.o ⟨(some 4), none, false, .mv (.c (.int .i64 (-1))), (some [4])⟩]
def k13_4 : ACode := .seq (.region k13_o3) .ret
def k13_5 : ACode := .cond (.t 10) k13_4 .skip
def k13_6 : ACode := .seq (.region k13_o2) k13_5
abbrev k13_o4 : List AJ := [.o ⟨(some 11), none, false, .mv (.t 1), none⟩, .o ⟨(some 4), none, false, .mv (.t 11), (some [4])⟩]
def k13_8 : ACode := .seq (.region k13_o4) .ret
def k13_9 : ACode := .seq k13_6 k13_8
def k13_10 : ACode := .seq (.region k13_o1) k13_9
def k13_11 : ACode := .seq (.region k13_o0) k13_10
@[simp, simp ↓] theorem k13_4r : sR k13_4 k13_o3 .ret := yR rfl
@[simp, simp ↓] theorem k13_5r : rC k13_5 (.t 10) k13_4 .skip := zC rfl
@[simp, simp ↓] theorem k13_6r : sR k13_6 k13_o2 k13_5 := yR rfl
@[simp, simp ↓] theorem k13_8r : sR k13_8 k13_o4 .ret := yR rfl
@[simp, simp ↓] theorem k13_9r : rS k13_9 k13_6 k13_8 := zS rfl
@[simp, simp ↓] theorem k13_10r : sR k13_10 k13_o1 k13_9 := yR rfl
@[simp, simp ↓] theorem k13_11r : sR k13_11 k13_o0 k13_10 := yR rfl
noncomputable abbrev k13_C : Orc → Cx := mkC Try.prog [] 13 12 [.tmp 4]
theorem k13_of0 : OfP0 Try.prog Try.f13 13 12 k13_C k13_11 := @ofP0 _ _ _ _ _ _ _ _ Try.func13 (by decide +kernel) rfl (by kernel_rfl) rfl (by kernel_rfl)
theorem szPhases_c (x : Ph) (n : Int) (h : Heap) (hn : 0 ≤ n ∧ n ≤ 1048576) (hl : x.ts.length ≤ 9223372036854775807) : ACalls Try.prog 13 [x.av, .int .i64 n] h (fun v h' => v = .int .i64 (if n < x.ts.length then -1 else n - x.ts.length) ∧ h' = h) := by
  refine k13_of0 rfl noPure fun I => ?_
  refine Run2.of I 1000 ?_
  simp -implicitDefEqProofs
  refine (szTurnS_c x.ts n _ hn hl).mono ?_
  rintro v h' ⟨rfl, rfl⟩
  refine gK.go ?_
  simp -implicitDefEqProofs
  grind
abbrev k68_o0 : List AJ := [.o ⟨(some 2), none, false, .box false 3 (.t 0), none⟩, .o ⟨(some 3), none, false, .box false 3 (.t 1), none⟩, .o ⟨(some 4), none, false, .mv (.c (.bool false)), (some [2, 3])⟩]
abbrev k68_o1 : List AJ := [.o ⟨(some 5), none, false, .fieldA 0 (.t 2), none⟩, .o ⟨(some 6), none, false, .load 1 false (.t 5), none⟩, .o ⟨(some 7), none, false, .fieldA 0 (.t 3), none⟩, .o ⟨(some 8), none, false, .load 1 false (.t 7), none⟩, .o ⟨(some 9), none, false, .bin .neq (.t 6) (.t 8), (some [2, 3, 9])⟩]
abbrev k68_o2 : List AJ := [.o ⟨(some 4), none, false, .mv (.c (.bool false)), (some [4])⟩]
def k68_3 : ACode := .seq (.region k68_o2) .ret
def k68_4 : ACode := .cond (.t 9) k68_3 .skip
def k68_5 : ACode := .seq (.region k68_o1) k68_4
abbrev k68_o3 : List AJ := [.o ⟨(some 10), none, false, .fieldA 1 (.t 2), none⟩, .o ⟨(some 11), none, false, .load 1 false (.t 10), none⟩, .o ⟨(some 12), none, false, .fieldA 1 (.t 3), none⟩, .o ⟨(some 13), none, false, .load 1 false (.t 12), none⟩, .o ⟨(some 14), none, false, .bin .neq (.t 11) (.t 13), (some [2, 3, 14])⟩]
abbrev k68_o4 : List AJ := [.o ⟨(some 4), none, false, .mv (.c (.bool false)), (some [4])⟩]
def k68_8 : ACode := .seq (.region k68_o4) .ret
def k68_9 : ACode := .cond (.t 14) k68_8 .skip
def k68_10 : ACode := .seq (.region k68_o3) k68_9
abbrev k68_o5 : List AJ := [.o ⟨(some 15), none, false, .fieldA 2 (.t 2), none⟩, .o ⟨(some 16), none, false, .load 1 false (.t 15), none⟩, .o ⟨(some 17), none, false, .fieldA 2 (.t 3), none⟩, .o ⟨(some 18), none, false, .load 1 false (.t 17), none⟩, .o ⟨(some 19), none, false, .bin .neq (.t 16) (.t 18), (some [19])⟩]
abbrev k68_o6 : List AJ := [.o ⟨(some 4), none, false, .mv (.c (.bool false)), (some [4])⟩]
def k68_13 : ACode := .seq (.region k68_o6) .ret
def k68_14 : ACode := .cond (.t 19) k68_13 .skip
def k68_15 : ACode := .seq (.region k68_o5) k68_14
abbrev k68_o7 : List AJ := [.o ⟨(some 4), none, false, .mv (.c (.bool true)), (some [4])⟩]
def k68_17 : ACode := .seq (.region k68_o7) .ret
def k68_18 : ACode := .seq k68_15 k68_17
def k68_19 : ACode := .seq k68_10 k68_18
def k68_20 : ACode := .seq k68_5 k68_19
def k68_21 : ACode := .seq (.region k68_o0) k68_20
@[simp, simp ↓] theorem k68_3r : sR k68_3 k68_o2 .ret := yR rfl
@[simp, simp ↓] theorem k68_4r : rC k68_4 (.t 9) k68_3 .skip := zC rfl
@[simp, simp ↓] theorem k68_5r : sR k68_5 k68_o1 k68_4 := yR rfl
@[simp, simp ↓] theorem k68_8r : sR k68_8 k68_o4 .ret := yR rfl
@[simp, simp ↓] theorem k68_9r : rC k68_9 (.t 14) k68_8 .skip := zC rfl
@[simp, simp ↓] theorem k68_10r : sR k68_10 k68_o3 k68_9 := yR rfl
@[simp, simp ↓] theorem k68_13r : sR k68_13 k68_o6 .ret := yR rfl
@[simp, simp ↓] theorem k68_14r : rC k68_14 (.t 19) k68_13 .skip := zC rfl
@[simp, simp ↓] theorem k68_15r : sR k68_15 k68_o5 k68_14 := yR rfl
@[simp, simp ↓] theorem k68_17r : sR k68_17 k68_o7 .ret := yR rfl
@[simp, simp ↓] theorem k68_18r : rS k68_18 k68_15 k68_17 := zS rfl
@[simp, simp ↓] theorem k68_19r : rS k68_19 k68_10 k68_18 := zS rfl
@[simp, simp ↓] theorem k68_20r : rS k68_20 k68_5 k68_19 := zS rfl
@[simp, simp ↓] theorem k68_21r : sR k68_21 k68_o0 k68_20 := yR rfl
noncomputable abbrev k68_C : Orc → Cx := mkC Try.prog [] 68 20 [.tmp 4]
theorem k68_of0 : OfP0 Try.prog Try.f68 68 20 k68_C k68_21 := @ofP0 _ _ _ _ _ _ _ _ Try.func68 (by decide +kernel) rfl (by kernel_rfl) rfl (by kernel_rfl)
theorem eqTurn_c (x y : T) (h : Heap) : ACalls Try.prog 68 [x.av, y.av] h (fun v h' => v = .bool (decide (x = y)) ∧ h' = h) := by
  refine k68_of0 rfl noPure fun I => ?_
  cases x; cases y
  refine Run2.of I 1000 ?_
  simp -implicitDefEqProofs
  grind
noncomputable def o_eqTurn : List AV → Option (Prop × AV) := tab (fun (x : Int × Int × Int × Int × Int × Int) => match x with | (f, t, s, f', t', s') => [.agg [.int .i64 f, .int .i64 t, .int .i64 s], .agg [.int .i64 f', .int .i64 t', .int .i64 s']]) (fun x => match x with | (f, t, s, f', t', s') => True) (fun x => match x with | (f, t, s, f', t', s') => .bool (decide ((⟨f, t, s⟩ : T) = ⟨f', t', s'⟩)))
@[simp] theorem o_eqTurn_e (f : Int) (t : Int) (s : Int) (f' : Int) (t' : Int) (s' : Int) : o_eqTurn [.agg [.int .i64 f, .int .i64 t, .int .i64 s], .agg [.int .i64 f', .int .i64 t', .int .i64 s']] = some (True, .bool (decide ((⟨f, t, s⟩ : T) = ⟨f', t', s'⟩))) := tab_at (enc := fun (x : Int × Int × Int × Int × Int × Int) => match x with | (f, t, s, f', t', s') => [.agg [.int .i64 f, .int .i64 t, .int .i64 s], .agg [.int .i64 f', .int .i64 t', .int .i64 s']]) (fun x y h => by
  obtain ⟨f1, t1, s1, f'1, t'1, s'1⟩ := x; obtain ⟨f2, t2, s2, f'2, t'2, s'2⟩ := y; simp at h; simp [h] <;> omega) _ _ (f, t, s, f', t', s')
theorem o_eqTurn_k : Knows Try.prog 68 o_eqTurn := tab_knows fun x hx h => by
  obtain ⟨f, t, s, f', t', s'⟩ := x; exact eqTurn_c ⟨f, t, s⟩ ⟨f', t', s'⟩ h
abbrev k47_o0 : List AJ := [.o ⟨(some 4), none, false, .mv (.c (.bool false)), (some [0, 1])⟩]
abbrev k47_o1 : List AJ := [.o ⟨(some 6), none, false, .mv (.t 0), none⟩, .o ⟨(some 7), none, false, .len (.t 6), none⟩, .o ⟨(some 8), none, false, .mv (.t 1), none⟩, .o ⟨(some 9), none, false, .len (.t 8), none⟩, .o ⟨(some 10), none, false, .bin .neq (.t 7) (.t 9), (some [0, 1, 10])⟩]
abbrev k47_o2 : List AJ := [.o ⟨(some 4), none, false, .mv (.c (.bool false)), (some [4])⟩]
def k47_3 : ACode := .seq (.region k47_o2) .ret
def k47_4 : ACode := .cond (.t 10) k47_3 .skip
def k47_5 : ACode := .seq (.region k47_o1) k47_4
abbrev k47_o3 : List AJ := [.o ⟨(some 5), none, false, .mv (.c (.int .i64 0)), (some [0, 1, 5])⟩]
abbrev k47_o4 : List AJ := [.o ⟨(some 11), none, false, .mv (.t 5), none⟩, .o ⟨(some 12), none, false, .mv (.t 0), none⟩, .o ⟨(some 13), none, false, .len (.t 12), none⟩, .o ⟨(some 14), none, false, .bin .lss (.t 11) (.t 13), (some [0, 1, 5, 14])⟩]
def k47_8 : ACode := .cond (.t 14) .skip (.exit 0)
def k47_9 : ACode := .seq (.region k47_o4) k47_8
abbrev k47_o5 : List AI := [⟨(some 17), none, false, .mv (.t 0), none⟩, ⟨(some 18), none, false, .mv (.t 5), none⟩, ⟨(some 19), none, false, .idxA 3 (.t 17) (.t 18), none⟩, ⟨(some 20), none, false, .load 3 true (.t 19), none⟩, ⟨(some 21), none, false, .mv (.t 1), none⟩, ⟨(some 22), none, false, .mv (.t 5), none⟩, ⟨(some 23), none, false, .idxA 3 (.t 21) (.t 22), none⟩, ⟨(some 24), none, false, .load 3 true (.t 23), none⟩, ⟨(some 25), none, false, .call 68 [(.t 20), (.t 24)], none⟩, ⟨(some 26), none, false, .un .not (.t 25), (some [0, 1, 5, 26])⟩]
abbrev k47_o6 : List AJ := [.o ⟨(some 4), none, false, .mv (.c (.bool false)), (some [4])⟩]
def k47_12 : ACode := .seq (.region k47_o6) .ret
def k47_13 : ACode := .cond (.t 26) k47_12 .skip
def k47_14 : ACode := .seq (.draw k47_o5 [] rfl) k47_13
abbrev k47_o7 : List AJ := [.o ⟨(some 15), none, false, .mv (.t 5), none⟩, .o ⟨(some 16), none, true, .bin .add (.t 15) (.c (.int .i64 1)), none⟩, .o ⟨(some 5), none, false, .mv (.t 16), (some [0, 1, 5])⟩]
def k47_16 : ACode := .region k47_o7
def k47_17 : ACode := .seq (.block 1 k47_14) k47_16
def k47_18 : ACode := .seq k47_9 k47_17
def k47_19 : ACode := .loop k47_18
def k47_20 : ACode := .block 0 k47_19
def k47_21 : ACode := .seq (.region k47_o3) k47_20
abbrev k47_o8 : List AJ := [.o ⟨(some 4), none, false, .mv (.c (.bool true)), (some [4])⟩]
def k47_23 : ACode := .seq (.region k47_o8) .ret
def k47_24 : ACode := .seq k47_21 k47_23
def k47_25 : ACode := .seq k47_5 k47_24
def k47_26 : ACode := .seq (.region k47_o0) k47_25
@[simp, simp ↓] theorem k47_3r : sR k47_3 k47_o2 .ret := yR rfl
@[simp, simp ↓] theorem k47_4r : rC k47_4 (.t 10) k47_3 .skip := zC rfl
@[simp, simp ↓] theorem k47_5r : sR k47_5 k47_o1 k47_4 := yR rfl
@[simp, simp ↓] theorem k47_8r : rC k47_8 (.t 14) .skip (.exit 0) := zC rfl
@[simp, simp ↓] theorem k47_9r : sR k47_9 k47_o4 k47_8 := yR rfl
@[simp, simp ↓] theorem k47_12r : sR k47_12 k47_o6 .ret := yR rfl
@[simp, simp ↓] theorem k47_13r : rC k47_13 (.t 26) k47_12 .skip := zC rfl
@[simp, simp ↓] theorem k47_14r : sD k47_14 k47_o5 [] k47_13 := yD rfl
@[simp, simp ↓] theorem k47_16r : rR k47_16 k47_o7 := zR rfl
@[simp, simp ↓] theorem k47_17r : sB k47_17 1 k47_14 k47_16 := yB rfl
@[simp, simp ↓] theorem k47_18r : rS k47_18 k47_9 k47_17 := zS rfl
@[simp, simp ↓] theorem k47_19r : rL k47_19 k47_18 := zL rfl
@[simp, simp ↓] theorem k47_20r : rB k47_20 0 k47_19 := zB rfl
@[simp, simp ↓] theorem k47_21r : sR k47_21 k47_o3 k47_20 := yR rfl
@[simp, simp ↓] theorem k47_23r : sR k47_23 k47_o8 .ret := yR rfl
@[simp, simp ↓] theorem k47_24r : rS k47_24 k47_21 k47_23 := zS rfl
@[simp, simp ↓] theorem k47_25r : rS k47_25 k47_5 k47_24 := zS rfl
@[simp, simp ↓] theorem k47_26r : sR k47_26 k47_o0 k47_25 := yR rfl
noncomputable abbrev k47_C : Orc → Cx := mkC Try.prog [] 47 27 [.tmp 4]
theorem k47_of0 : OfP0 Try.prog Try.f47 47 27 k47_C k47_26 := @ofP0 _ _ _ _ _ _ _ _ Try.func47 (by decide +kernel) rfl (by kernel_rfl) rfl (by kernel_rfl)
theorem eqTurnS_c (l m : List T) (h : Heap) (hl : l.length ≤ 1048576) : ACalls Try.prog 47 [.snap 3 (l.map T.av), .snap 3 (m.map T.av)] h (fun v h' => v = .bool (decide (l = m)) ∧ h' = h) := by
  refine k47_of0 rfl (lk_pure o_eqTurn_k lk_pure0) fun I => ?_
  refine Run2.of I 1000 ?_
  simp -implicitDefEqProofs
  refine ⟨by rintro hne rfl; exact hne rfl, fun hlen => ?_⟩
  refine Run2.loop (fun i => [(0, .snap 3 (l.map T.av)), (1, .snap 3 (m.map T.av)), (5, .int .i64 (i : Nat))]) (fun i => h) (fun i => l.length - i) (fun i => i ≤ l.length ∧ l.take i = m.take i) 0 (by simp) fun i hi ih => ?_
  by_cases hlt : i < l.length
  · have hlt' : i < m.length := by omega
    refine Run2.of I 1000 ?_
    simp -implicitDefEqProofs [hlt, hlt']
    constructor
    · rintro hne rfl
      exact hne rfl
    · intro he
      refine ⟨by omega, ?_⟩
      have := ih (i + 1) ⟨by omega, by rw [List.take_succ_eq_append_getElem hlt, List.take_succ_eq_append_getElem hlt', hi.2, he]⟩ (by omega)
      simpa using this
  · refine Run2.of I 1000 ?_
    simp -implicitDefEqProofs [hlt]
    have : i = l.length := by omega
    have h2 := hi.2
    rw [List.take_of_length_le (by omega), List.take_of_length_le (by omega)] at h2
    exact h2
abbrev k17_o0 : List AJ := [.o ⟨(some 2), none, false, .box false 3 (.t 0), none⟩, .o ⟨(some 3), none, false, .box false 3 (.t 1), none⟩, .o ⟨(some 4), none, false, .mv (.c (.bool false)), (some [2, 3])⟩]
abbrev k17_o1 : List AJ := [.o ⟨(some 5), none, false, .fieldA 0 (.t 2), none⟩, .o ⟨(some 6), none, false, .load 1 false (.t 5), none⟩, .o ⟨(some 7), none, false, .fieldA 0 (.t 3), none⟩, .o ⟨(some 8), none, false, .load 1 false (.t 7), none⟩, .o ⟨(some 9), none, false, .bin .neq (.t 6) (.t 8), (some [2, 3, 9])⟩]
abbrev k17_o2 : List AJ := [.o ⟨(some 4), none, false, .mv (.c (.bool false)), (some [4])⟩]
def k17_3 : ACode := .seq (.region k17_o2) .ret
def k17_4 : ACode := .cond (.t 9) k17_3 .skip
def k17_5 : ACode := .seq (.region k17_o1) k17_4
abbrev k17_o3 : List AJ := [.o ⟨(some 10), none, false, .fieldA 1 (.t 2), none⟩, .o ⟨(some 11), none, false, .load 1 false (.t 10), none⟩, .o ⟨(some 12), none, false, .fieldA 1 (.t 3), none⟩, .o ⟨(some 13), none, false, .load 1 false (.t 12), none⟩, .o ⟨(some 14), none, false, .bin .neq (.t 11) (.t 13), (some [2, 3, 14])⟩]
abbrev k17_o4 : List AJ := [.o ⟨(some 4), none, false, .mv (.c (.bool false)), (some [4])⟩]
def k17_8 : ACode := .seq (.region k17_o4) .ret
def k17_9 : ACode := .cond (.t 14) k17_8 .skip
def k17_10 : ACode := .seq (.region k17_o3) k17_9
abbrev k17_o5 : List AJ := [.o ⟨(some 15), none, false, .fieldA 2 (.t 2), none⟩, .o ⟨(some 16), none, false, .load 1 false (.t 15), none⟩, .o ⟨(some 17), none, false, .fieldA 2 (.t 3), none⟩, .o ⟨(some 18), none, false, .load 1 false (.t 17), none⟩, .o ⟨(some 19), none, false, .call 47 [(.t 16), (.t 18)], none⟩, .o ⟨(some 20), none, false, .un .not (.t 19), (some [20])⟩]
abbrev k17_o6 : List AJ := [.o ⟨(some 4), none, false, .mv (.c (.bool false)), (some [4])⟩]
def k17_13 : ACode := .seq (.region k17_o6) .ret
def k17_14 : ACode := .cond (.t 20) k17_13 .skip
def k17_15 : ACode := .seq (.region k17_o5) k17_14
abbrev k17_o7 : List AJ := [.o ⟨(some 4), none, false, .mv (.c (.bool true)), (some [4])⟩]
def k17_17 : ACode := .seq (.region k17_o7) .ret
def k17_18 : ACode := .seq k17_15 k17_17
def k17_19 : ACode := .seq k17_10 k17_18
def k17_20 : ACode := .seq k17_5 k17_19
def k17_21 : ACode := .seq (.region k17_o0) k17_20
@[simp, simp ↓] theorem k17_3r : sR k17_3 k17_o2 .ret := yR rfl
@[simp, simp ↓] theorem k17_4r : rC k17_4 (.t 9) k17_3 .skip := zC rfl
@[simp, simp ↓] theorem k17_5r : sR k17_5 k17_o1 k17_4 := yR rfl
@[simp, simp ↓] theorem k17_8r : sR k17_8 k17_o4 .ret := yR rfl
@[simp, simp ↓] theorem k17_9r : rC k17_9 (.t 14) k17_8 .skip := zC rfl
@[simp, simp ↓] theorem k17_10r : sR k17_10 k17_o3 k17_9 := yR rfl
@[simp, simp ↓] theorem k17_13r : sR k17_13 k17_o6 .ret := yR rfl
@[simp, simp ↓] theorem k17_14r : rC k17_14 (.t 20) k17_13 .skip := zC rfl
@[simp, simp ↓] theorem k17_15r : sR k17_15 k17_o5 k17_14 := yR rfl
@[simp, simp ↓] theorem k17_17r : sR k17_17 k17_o7 .ret := yR rfl
@[simp, simp ↓] theorem k17_18r : rS k17_18 k17_15 k17_17 := zS rfl
@[simp, simp ↓] theorem k17_19r : rS k17_19 k17_10 k17_18 := zS rfl
@[simp, simp ↓] theorem k17_20r : rS k17_20 k17_5 k17_19 := zS rfl
@[simp, simp ↓] theorem k17_21r : sR k17_21 k17_o0 k17_20 := yR rfl
noncomputable abbrev k17_C : Orc → Cx := mkC Try.prog [] 17 21 [.tmp 4]
theorem k17_of0 : OfP0 Try.prog Try.f17 17 21 k17_C k17_21 := @ofP0 _ _ _ _ _ _ _ _ Try.func17 (by decide +kernel) rfl (by kernel_rfl) rfl (by kernel_rfl)
theorem eqPhases_c (x y : Ph) (h : Heap) (hl : x.ts.length ≤ 1048576) : ACalls Try.prog 17 [x.av, y.av] h (fun v h' => v = .bool (decide (x = y)) ∧ h' = h) := by
  refine k17_of0 rfl noPure fun I => ?_
  cases x; cases y
  refine Run2.of I 1000 ?_
  simp -implicitDefEqProofs
  refine ⟨by grind, fun h1 => ⟨by grind, fun h2 => ?_⟩⟩
  refine (eqTurnS_c _ _ _ hl).mono ?_
  rintro v h' ⟨rfl, rfl⟩
  refine gK.go ?_
  simp -implicitDefEqProofs [h1, h2]
/-! ## In the laws: with other memory about -/
theorem eqPh_own {w u : AV} {x y : Ph} {g h : Heap} (o : OwnPh w x g) (hu : IsPh u y) (hs : ∀ p ∈ g, p ∈ h) (hl : x.ts.length ≤ 1048576) : ACalls Try.prog 17 [w, u] h (fun r h' => r = .bool (decide (x = y)) ∧ h' = h) := by
  refine ACalls.reads g hs ?_ rfl
  rw [lend_cons, lend_cons, lend_nil', lend1_cold g hu.cold]
  exact ACalls.wk (.cons o.lent.wk (.cons hu.wk .nil)) (eqPhases_c x y [] hl)
theorem markPh_drop {w : AV} {x : Ph} {g h : Heap} (o : OwnPh w x g) (keep : Heap) (hs : ∀ p ∈ g, p ∈ h) (hk : ∀ p ∈ keep, p ∈ h ∧ p.1 ∉ dom g) (nk : (dom h).Nodup → (dom keep).Nodup) (k : Int) (hk1 : 0 ≤ k ∧ k ≤ 1099511627776) (hl : x.ts.length ≤ 1073741824) : ACalls Try.prog 18 [w, .int .i64 k] h (fun r h' => r = .int .i64 (k + 3 * x.ts.length) ∧ h' = keep) :=
  ACalls.marks g keep o.nodup hs hk nk (S := fun h' => OwnPh w ⟨x.n, x.m, marksT k x.ts.length⟩ h') (markPhases_o o k hk1 hl) ⟨rfl, fun h' ho => ho.own.2⟩
theorem markPh_keep {w : AV} {x : Ph} {g h : Heap} (o : OwnPh w x g) (keep : Heap) (hs : ∀ p ∈ g, p ∈ h) (hk : ∀ p ∈ keep, p ∈ h ∧ p.1 ∉ dom g) (nk : (dom h).Nodup → (dom keep).Nodup) (k : Int) (hk1 : 0 ≤ k ∧ k ≤ 1099511627776) (hl : x.ts.length ≤ 1073741824) : ACalls Try.prog 18 [w, .int .i64 k] h (fun r h' => ∃ g', r = .int .i64 (k + 3 * x.ts.length) ∧ OwnPh w ⟨x.n, x.m, marksT k x.ts.length⟩ g' ∧ h' = g' ++ keep) :=
  (ACalls.frame g [] keep o.nodup hs (by simp) hk nk (S := fun v h' => v = .int .i64 (k + 3 * x.ts.length) ∧ OwnPh w ⟨x.n, x.m, marksT k x.ts.length⟩ h') (by simpa [lend] using markPhases_o o k hk1 hl) (fun v h' e => by obtain ⟨rfl, e⟩ := e; exact ⟨rfl, e.own.2⟩)).mono fun v h' ⟨g', ⟨e1, e2⟩, _, e3⟩ => ⟨g', e1, e2, e3⟩
theorem Ph.is (x : Ph) : IsPh x.av x := ⟨_, rfl, .snap _⟩
noncomputable def o_toPhases : List AV → Option (Prop × AV) := tab (fun (x : Int × Int × List T) => match x with | (n, m, ts) => [.agg [.int .i64 n, .int .i64 m, .snap 3 (ts.map T.av)]]) (fun x => match x with | (n, m, ts) => ts.length ≤ 1048576) (fun x => match x with | (n, m, ts) => .agg [.int .i64 n, .int .i64 m, .snap 3 (ts.map T.av)])
@[simp] theorem o_toPhases_e (n : Int) (m : Int) (ts : List T) : o_toPhases [.agg [.int .i64 n, .int .i64 m, .snap 3 (ts.map T.av)]] = some (ts.length ≤ 1048576, .agg [.int .i64 n, .int .i64 m, .snap 3 (ts.map T.av)]) := tab_at (enc := fun (x : Int × Int × List T) => match x with | (n, m, ts) => [.agg [.int .i64 n, .int .i64 m, .snap 3 (ts.map T.av)]]) (fun x y h => by
  obtain ⟨n1, m1, ts1⟩ := x; obtain ⟨n2, m2, ts2⟩ := y; simp at h; simp [h] <;> omega) _ _ (n, m, ts)
theorem o_toPhases_k : Knows Try.prog 15 o_toPhases := tab_knows fun x hx h => by
  obtain ⟨n, m, ts⟩ := x; exact toPhases_c ⟨n, m, ts⟩ h hx
noncomputable def o_szPhases : List AV → Option (Prop × AV) := tab (fun (x : Int × Int × List T × Int) => match x with | (n, m, ts, k) => [.agg [.int .i64 n, .int .i64 m, .snap 3 (ts.map T.av)], .int .i64 k]) (fun x => match x with | (n, m, ts, k) => ((0 ≤ k ∧ k ≤ 1048576) ∧ ts.length ≤ 9223372036854775807)) (fun x => match x with | (n, m, ts, k) => .int .i64 (if k < ts.length then -1 else k - ts.length))
@[simp] theorem o_szPhases_e (n : Int) (m : Int) (ts : List T) (k : Int) : o_szPhases [.agg [.int .i64 n, .int .i64 m, .snap 3 (ts.map T.av)], .int .i64 k] = some (((0 ≤ k ∧ k ≤ 1048576) ∧ ts.length ≤ 9223372036854775807), .int .i64 (if k < ts.length then -1 else k - ts.length)) := tab_at (enc := fun (x : Int × Int × List T × Int) => match x with | (n, m, ts, k) => [.agg [.int .i64 n, .int .i64 m, .snap 3 (ts.map T.av)], .int .i64 k]) (fun x y h => by
  obtain ⟨n1, m1, ts1, k1⟩ := x; obtain ⟨n2, m2, ts2, k2⟩ := y; simp at h; simp [h] <;> omega) _ _ (n, m, ts, k)
theorem o_szPhases_k : Knows Try.prog 13 o_szPhases := tab_knows fun x hx h => by
  obtain ⟨n, m, ts, k⟩ := x; exact szPhases_c ⟨n, m, ts⟩ k h hx.1 hx.2
noncomputable def o_eqPhases : List AV → Option (Prop × AV) := tab (fun (x : Int × Int × List T × Int × Int × List T) => match x with | (n, m, ts, n', m', ts') => [.agg [.int .i64 n, .int .i64 m, .snap 3 (ts.map T.av)], .agg [.int .i64 n', .int .i64 m', .snap 3 (ts'.map T.av)]]) (fun x => match x with | (n, m, ts, n', m', ts') => ts.length ≤ 1048576) (fun x => match x with | (n, m, ts, n', m', ts') => .bool (decide ((⟨n, m, ts⟩ : Ph) = ⟨n', m', ts'⟩)))
@[simp] theorem o_eqPhases_e (n : Int) (m : Int) (ts : List T) (n' : Int) (m' : Int) (ts' : List T) : o_eqPhases [.agg [.int .i64 n, .int .i64 m, .snap 3 (ts.map T.av)], .agg [.int .i64 n', .int .i64 m', .snap 3 (ts'.map T.av)]] = some (ts.length ≤ 1048576, .bool (decide ((⟨n, m, ts⟩ : Ph) = ⟨n', m', ts'⟩))) := tab_at (enc := fun (x : Int × Int × List T × Int × Int × List T) => match x with | (n, m, ts, n', m', ts') => [.agg [.int .i64 n, .int .i64 m, .snap 3 (ts.map T.av)], .agg [.int .i64 n', .int .i64 m', .snap 3 (ts'.map T.av)]]) (fun x y h => by
  obtain ⟨n1, m1, ts1, n'1, m'1, ts'1⟩ := x; obtain ⟨n2, m2, ts2, n'2, m'2, ts'2⟩ := y; simp at h; simp [h] <;> omega) _ _ (n, m, ts, n', m', ts')
theorem o_eqPhases_k : Knows Try.prog 17 o_eqPhases := tab_knows fun x hx h => by
  obtain ⟨n, m, ts, n', m', ts'⟩ := x; exact eqPhases_c ⟨n, m, ts⟩ ⟨n', m', ts'⟩ h hx
noncomputable def orcA : List (Nat × (List AV → Option (Prop × AV))) := (15, o_toPhases) :: (13, o_szPhases) :: (17, o_eqPhases) :: []
theorem orcA_p : Pure Try.prog (lk orcA) := (lk_pure o_toPhases_k (lk_pure o_szPhases_k (lk_pure o_eqPhases_k lk_pure0)))
@[simp] theorem orcA_l (b : Bool) (g : FuncId) (l : List AV) : lk orcA b g l = if g = 15 then o_toPhases l else if g = 13 then o_szPhases l else if g = 17 then o_eqPhases l else none := nr rfl
end Go.AG
