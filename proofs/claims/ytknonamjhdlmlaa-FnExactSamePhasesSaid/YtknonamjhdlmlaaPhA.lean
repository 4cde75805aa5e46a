/- Phases as plain data, and what the set's own helpers of phases do: they copy, compare and count. No statement is made here. -/
import Derived.Test.YtknonamjhdlmlaaRows
import Derived.Test.YtknonamjhdlmlaaAGLaw
namespace Go.AG
open Go.Proofs Go.Proofs.Ytknonamjhdlmlaa
set_option linter.unusedSimpArgs false
structure T where
  f : Int
  t : Int
  s : Int
  deriving DecidableEq, Inhabited
@[simp] def T.av (x : T) : AV := .agg [.int .i64 x.f, .int .i64 x.t, .int .i64 x.s]
def r64 (n : Int) : Prop := -9223372036854775808 ≤ n ∧ n ≤ 9223372036854775807
def T.ok (x : T) : Prop := r64 x.f ∧ r64 x.t ∧ r64 x.s
structure Ph where
  n : Int
  m : Int
  ts : List T
  deriving DecidableEq
@[simp] def Ph.av (x : Ph) : AV := .agg [.int .i64 x.n, .int .i64 x.m, .snap 3 (x.ts.map T.av)]
def Ph.ok (x : Ph) : Prop := r64 x.n ∧ r64 x.m ∧ ∀ t ∈ x.ts, t.ok
def tz : AV := .agg [.int .i64 0, .int .i64 0, .int .i64 0]
def tyT : Ty := .struct (.cons (.int .i64) (.cons (.int .i64) (.cons (.int .i64) .nil)))
def tyPh : Ty := .struct (.cons (.int .i64) (.cons (.int .i64) (.cons (.slice tyT) .nil)))
theorem T_of_shape {x : AV} (h : isAgg x = tyT.isS ∧ shC tyT (cellsOf x)) : ∃ t : T, x = t.av ∧ t.ok := by
  obtain ⟨h1, a1, b1, e1, ⟨n1, rfl, r1⟩, a2, b2, rfl, ⟨n2, rfl, r2⟩, a3, b3, rfl, ⟨n3, rfl, r3⟩, h3⟩ := h
  have h3' : b3 = [] := h3
  subst h3'
  cases x <;> simp [isAgg, tyT, Ty.isS] at h1
  rename_i l
  refine ⟨⟨n1, n2, n3⟩, ?_, r1, r2, r3⟩
  simp only [cellsOf] at e1
  rw [e1]; rfl
theorem Ts_of_shape : ∀ {xs : List AV}, (∀ x ∈ xs, isAgg x = tyT.isS ∧ shC tyT (cellsOf x)) → ∃ ts : List T, xs = ts.map T.av ∧ ∀ t ∈ ts, t.ok
  | [], _ => ⟨[], rfl, by simp⟩
  | x :: xs, h => by
    obtain ⟨t, rfl, ht⟩ := T_of_shape (h x (List.mem_cons_self ..))
    obtain ⟨ts, rfl, hts⟩ := Ts_of_shape (xs := xs) fun y hy => h y (List.mem_cons_of_mem _ hy)
    exact ⟨t :: ts, rfl, by simpa using ⟨ht, hts⟩⟩
theorem Ph_of_shape {x : AV} (h : shV tyPh x) : ∃ p : Ph, x = p.av ∧ p.ok ∧ p.ts.length ≤ 9223372036854775807 := by
  obtain ⟨h1, a1, b1, e1, ⟨n1, rfl, r1⟩, a2, b2, rfl, ⟨n2, rfl, r2⟩, a3, b3, rfl, ⟨xs, rfl, hlen, r3⟩, h3⟩ := h
  have hm : maxLen ≤ 9223372036854775807 := by decide
  have h3' : b3 = [] := h3
  subst h3'
  obtain ⟨ts, rfl, hts⟩ := Ts_of_shape r3
  cases x <;> simp [isAgg, tyPh, Ty.isS] at h1
  rename_i l
  refine ⟨⟨n1, n2, ts⟩, ?_, ⟨r1, r2, hts⟩, by simp only [List.length_map] at hlen; exact Nat.le_trans hlen hm⟩
  simp only [cellsOf] at e1
  rw [e1]; rfl

set_option maxRecDepth 4000
theorem toTurn_c (x : T) (h : Heap) : ACalls Try.prog 86 [x.av] h (fun v h' => v = x.av ∧ h' = h) := by
  refine contract [2, 3] Try.func86 (by decide +kernel) rfl [.cell 2 3 true] (by cbv) (n := 1) rfl (by decide +kernel) (by decide +kernel) fun I => ?_
  conv => enter [2]; cbv
  refine Run.of_vc I 100 ?_
  simp -implicitDefEqProofs
  intro a ha
  refine Go.of_vc I 100 ?_
  simp -implicitDefEqProofs
  intro b hb1 hb2
  refine Go.of_vc I 100 ?_
  simp -implicitDefEqProofs [hb1]
  refine .drop b (.drop a (.base ?_))
  simp -implicitDefEqProofs [hb1]
theorem toTurnS_c (l : List T) (h : Heap) (hl : l.length ≤ 1048576) : ACalls Try.prog 46 [.snap 3 (l.map T.av)] h (fun v h' => v = .snap 3 (l.map T.av) ∧ h' = h) := by
  refine contract [] Try.func46 (by decide +kernel) rfl [.tmp 2] (by cbv) (n := 1) rfl (by decide +kernel) (by decide +kernel) fun I => ?_
  conv => enter [2]; cbv
  refine Run.of_vc I 100 ?_
  simp -implicitDefEqProofs
  refine ⟨by omega, fun id hid => ?_⟩
  refine Go.of_vc I 100 ?_
  simp -implicitDefEqProofs
  refine Run.keep [0, 3, 4] ?_
  simp -implicitDefEqProofs
  refine Run.loop (fun i => [(0, .snap 3 (l.map T.av)), (3, .sl id 3 0 l.length (some l.length)), (4, .int .i64 (i : Nat))]) (fun i => (id, ⟨3, (l.map T.av).take i ++ List.replicate (l.length - i) tz⟩) :: h) (fun i => l.length - i) (fun i => i ≤ l.length) 0 (Nat.zero_le _) fun i hi ih => ?_
  refine Run.of_vc I 100 ?_
  simp -implicitDefEqProofs
  constructor
  · intro hlt
    refine ⟨hlt, ?_⟩
    refine (toTurn_c l[i] _).mono ?_
    rintro v h' ⟨rfl, rfl⟩
    refine Go.of_vc I 100 ?_
    simp -implicitDefEqProofs (disch := omega) [w64]
    refine ⟨hlt, Run.keep [0, 3, 4] ?_⟩
    have := ih (i + 1) (by omega) (by omega)
    simpa [set_fill (l.map T.av) tz (i := i) (n := l.length) (by simp) (by simpa using hlt)] using this
  · intro hge
    obtain rfl : i = l.length := by omega
    refine .freeze id (by simp; rfl) (.base ?_)
    simp
    rw [List.take_of_length_le (by simp), List.take_of_length_le (by simp)]
theorem toPhases_c (x : Ph) (h : Heap) (hl : x.ts.length ≤ 1048576) : ACalls Try.prog 16 [x.av] h (fun v h' => v = x.av ∧ h' = h) := by
  refine contract [2, 3] Try.func16 (by decide +kernel) rfl [.cell 2 3 true] (by cbv) (n := 1) rfl (by decide +kernel) (by decide +kernel) fun I => ?_
  conv => enter [2]; cbv
  refine Run.of_vc I 100 ?_
  simp -implicitDefEqProofs
  intro a ha
  refine Go.of_vc I 100 ?_
  simp -implicitDefEqProofs
  intro b hb1 hb2
  refine Go.of_vc I 100 ?_
  simp -implicitDefEqProofs [hb1]
  refine (toTurnS_c x.ts _ hl).mono ?_
  rintro v h' ⟨rfl, rfl⟩
  refine Go.of_vc I 100 ?_
  simp -implicitDefEqProofs [hb1]
  refine .drop b (.drop a (.base ?_))
  simp -implicitDefEqProofs [hb1]
theorem szTurnS_c (l : List T) (n : Int) (h : Heap) (hn : 0 ≤ n ∧ n ≤ 1048576) (hl : l.length ≤ 9223372036854775807) : ACalls Try.prog 45 [.snap 3 (l.map T.av), .int .i64 n] h (fun v h' => v = .int .i64 (if n < l.length then -1 else n - l.length) ∧ h' = h) := by
  refine contract0 Try.func45 (by decide +kernel) rfl [.tmp 4] (by cbv) (n := 2) rfl (by decide +kernel) (by decide +kernel) fun I => ?_
  conv => enter [2]; cbv
  refine Run.of_vc I 100 ?_
  simp -implicitDefEqProofs (disch := omega) [w64]
  grind
theorem szPhases_c (x : Ph) (n : Int) (h : Heap) (hn : 0 ≤ n ∧ n ≤ 1048576) (hl : x.ts.length ≤ 9223372036854775807) : ACalls Try.prog 14 [x.av, .int .i64 n] h (fun v h' => v = .int .i64 (if n < x.ts.length then -1 else n - x.ts.length) ∧ h' = h) := by
  refine contract0 Try.func14 (by decide +kernel) rfl [.tmp 4] (by cbv) (n := 2) rfl (by decide +kernel) (by decide +kernel) fun I => ?_
  conv => enter [2]; cbv
  refine Run.of_vc I 100 ?_
  simp -implicitDefEqProofs
  refine (szTurnS_c x.ts n _ hn hl).mono ?_
  rintro v h' ⟨rfl, rfl⟩
  refine Go.of_vc I 100 ?_
  simp -implicitDefEqProofs
  grind
theorem eqTurn_c (x y : T) (h : Heap) : ACalls Try.prog 87 [x.av, y.av] h (fun v h' => v = .bool (decide (x = y)) ∧ h' = h) := by
  refine contract0 Try.func87 (by decide +kernel) rfl [.tmp 4] (by cbv) (n := 2) rfl (by decide +kernel) (by decide +kernel) fun I => ?_
  conv => enter [2]; cbv
  refine Run.of_vc I 100 ?_
  simp -implicitDefEqProofs
  cases x; cases y
  simp -implicitDefEqProofs
  grind
theorem eqTurnS_c (l m : List T) (h : Heap) (hl : l.length ≤ 1048576) : ACalls Try.prog 48 [.snap 3 (l.map T.av), .snap 3 (m.map T.av)] h (fun v h' => v = .bool (decide (l = m)) ∧ h' = h) := by
  refine contract0 Try.func48 (by decide +kernel) rfl [.tmp 4] (by cbv) (n := 2) rfl (by decide +kernel) (by decide +kernel) fun I => ?_
  conv => enter [2]; cbv
  refine Run.of_vc I 100 ?_
  simp -implicitDefEqProofs
  constructor
  · rintro hne rfl
    exact hne rfl
  intro hlen
  refine Run.keep [0, 1, 5] ?_
  simp -implicitDefEqProofs
  refine Run.loop (fun i => [(0, .snap 3 (l.map T.av)), (1, .snap 3 (m.map T.av)), (5, .int .i64 (i : Nat))]) (fun i => h) (fun i => l.length - i) (fun i => i ≤ l.length ∧ l.take i = m.take i) 0 (by simp) fun i hi ih => ?_
  refine Run.of_vc I 100 ?_
  simp -implicitDefEqProofs
  constructor
  · intro hlt
    refine ⟨hlt, by omega, _, eqTurn_c l[i] m[i] _, ?_⟩
    simp
    constructor
    · rintro hne rfl
      exact hne rfl
    · intro he
      refine Run.keep [0, 1, 5] ?_
      simp (disch := omega) [w64]
      have := ih (i + 1) ⟨by omega, by rw [List.take_succ_eq_append_getElem hlt, List.take_succ_eq_append_getElem (by omega), hi.2, he]⟩ (by omega)
      simpa using this
  · intro hge
    have : i = l.length := by omega
    have h2 := hi.2
    rw [List.take_of_length_le (by omega), List.take_of_length_le (by omega)] at h2
    exact h2
theorem eqPhases_c (x y : Ph) (h : Heap) (hl : x.ts.length ≤ 1048576) : ACalls Try.prog 18 [x.av, y.av] h (fun v h' => v = .bool (decide (x = y)) ∧ h' = h) := by
  refine contract0 Try.func18 (by decide +kernel) rfl [.tmp 4] (by cbv) (n := 2) rfl (by decide +kernel) (by decide +kernel) fun I => ?_
  conv => enter [2]; cbv
  refine Run.of_vc I 100 ?_
  simp -implicitDefEqProofs
  cases x; cases y
  simp -implicitDefEqProofs
  refine ⟨by grind, fun h1 => ⟨by grind, fun h2 => ?_⟩⟩
  refine (eqTurnS_c _ _ _ hl).mono ?_
  rintro v h' ⟨rfl, rfl⟩
  refine Go.of_vc I 100 ?_
  simp -implicitDefEqProofs [h1, h2]
end Go.AG
