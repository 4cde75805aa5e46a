/- The law FnExactSamePhases is true for every input: the program's SamePhases returns what the reference's returns. -/
import Derived.Test.YtknonamjhdlmlaaPhA
namespace Go.AG
open Go.Proofs Go.Proofs.Ytknonamjhdlmlaa
set_option linter.unusedSimpArgs false
set_option maxRecDepth 4000
theorem T_ext {x y : T} (h1 : x.f = y.f) (h2 : x.t = y.t) (h3 : x.s = y.s) : x = y := by
  cases x; cases y; simp at h1 h2 h3; simp [h1, h2, h3]
theorem equalS_c (l m : List T) (h : Heap) (hl : l.length ≤ 1048576) : ACalls Try.prog 47 [.snap 3 (l.map T.av), .snap 3 (m.map T.av)] h (fun v h' => v = .bool (decide (l = m)) ∧ h' = h) := by
  refine contract0 Try.func47 (by decide +kernel) rfl [.tmp 4] (by cbv) (n := 2) rfl (by decide +kernel) (by decide +kernel) fun I => ?_
  conv => enter [2]; cbv
  refine Run.of_vc I 100 ?_
  simp -implicitDefEqProofs
  constructor
  · rintro hne rfl
    exact hne rfl
  intro hlen
  refine Run.keep [0, 1, 12, 13] ?_
  simp -implicitDefEqProofs
  refine Run.loop (fun i => [(0, .snap 3 (l.map T.av)), (1, .snap 3 (m.map T.av)), (12, .int .i64 l.length), (13, .int .i64 (i : Nat))]) (fun i => h) (fun i => l.length - i) (fun i => i ≤ l.length ∧ l.take i = m.take i) 0 (by simp) fun i hi ih => ?_
  refine Run.of_vc I 100 ?_
  simp -implicitDefEqProofs
  constructor
  · intro hlt
    refine ⟨hlt, by omega, ?_⟩
    refine ⟨?_, fun h1 h2 h3 => Run.keep [0, 1, 12, 13] ?_⟩
    · rintro hne rfl
      simp at hne
    have he := T_ext h1 h2 h3
    have := ih (i + 1) ⟨by omega, by rw [List.take_succ_eq_append_getElem hlt, List.take_succ_eq_append_getElem (by omega), hi.2, he]⟩ (by omega)
    simpa -implicitDefEqProofs (disch := omega) [w64] using this
  · intro hge
    have : i = l.length := by omega
    have h2 := hi.2
    rw [List.take_of_length_le (by omega), List.take_of_length_le (by omega)] at h2
    exact h2
theorem implSame_c (x y : Ph) (h : Heap) (hl : x.ts.length ≤ 1048576) : ACalls Try.prog 17 [x.av, y.av] h (fun v h' => v = .bool (decide (x = y)) ∧ h' = h) := by
  refine contract0 Try.func17 (by decide +kernel) rfl [.tmp 4] (by cbv) (n := 2) rfl (by decide +kernel) (by decide +kernel) fun I => ?_
  conv => enter [2]; cbv
  refine Run.of_vc I 100 ?_
  cases x; cases y
  simp -implicitDefEqProofs
  refine ⟨fun h1 => ⟨fun h2 => ?_, by grind⟩, by grind⟩
  refine (equalS_c _ _ _ hl).mono ?_
  rintro v h' ⟨rfl, rfl⟩
  refine Go.of_vc I 100 ?_
  simp -implicitDefEqProofs [h1, h2]
theorem specSame_c (x y : Ph) (h : Heap) (hl : x.ts.length ≤ 1048576) : ACalls Try.prog 15 [x.av, y.av] h (fun v h' => v = .bool (decide (x = y)) ∧ h' = h) := by
  refine contract0 Try.func15 (by decide +kernel) rfl [.tmp 4] (by cbv) (n := 2) rfl (by decide +kernel) (by decide +kernel) fun I => ?_
  conv => enter [2]; cbv
  refine Run.of_vc I 100 ?_
  obtain ⟨n1, m1, l⟩ := x
  obtain ⟨n2, m2, m⟩ := y
  have hl : l.length ≤ 1048576 := hl
  simp -implicitDefEqProofs
  refine ⟨fun h1 => ⟨fun h2 => ⟨by grind, fun hlen => ?_⟩, by grind⟩, by grind⟩
  refine Run.keep [2, 3, 5] ?_
  simp -implicitDefEqProofs
  refine Run.loop (fun i => [(2, .ip [.int .i64 n1, .int .i64 m1, .snap 3 (l.map T.av)]), (3, .ip [.int .i64 n2, .int .i64 m2, .snap 3 (m.map T.av)]), (5, .int .i64 (i : Nat))]) (fun i => h) (fun i => l.length - i) (fun i => i ≤ l.length ∧ l.take i = m.take i) 0 (by simp) fun i hi ih => ?_
  refine Run.of_vc I 100 ?_
  simp -implicitDefEqProofs
  constructor
  · intro hlt
    refine ⟨hlt, by omega, ?_⟩
    refine ⟨?_, fun h1 h2 h3 => Run.keep [2, 3, 5] ?_⟩
    · rintro hne - - rfl
      simp at hne
    have he := T_ext h1 h2 h3
    have := ih (i + 1) ⟨by omega, by rw [List.take_succ_eq_append_getElem hlt, List.take_succ_eq_append_getElem (by omega), hi.2, he]⟩ (by omega)
    simpa -implicitDefEqProofs (disch := omega) [w64] using this
  · intro hge
    have : i = l.length := by omega
    have h2 := hi.2
    rw [List.take_of_length_le (by omega), List.take_of_length_le (by omega)] at h2
    exact ⟨‹_›, ‹_›, h2⟩
theorem same_law (p q : Ph) (hp : p.ts.length ≤ 9223372036854775807) (hq : q.ts.length ≤ 9223372036854775807) : ACalls Try.prog 3 [p.av, q.av] [] (fun v h' => v = .bool true ∧ h' = []) := by
  refine contract [7, 8] Try.func3 (by decide +kernel) rfl [.tmp 4] (by cbv) (n := 2) rfl (by decide +kernel) (by decide +kernel) fun I => ?_
  conv => enter [2]; cbv
  refine Run.of_vc I 100 ?_
  simp -implicitDefEqProofs
  refine (szPhases_c p 1048576 _ (by omega) hp).mono ?_
  rintro v h' ⟨rfl, rfl⟩
  by_cases hP : 1048576 < (p.ts.length : Int)
  · rw [if_pos hP]
    refine Go.of_vc I 100 ?_
    simp -implicitDefEqProofs
    exact .base ⟨rfl, rfl⟩
  rw [if_neg hP]
  refine Go.of_vc I 100 ?_
  simp -implicitDefEqProofs
  refine ⟨fun hn => by omega, fun _ => ?_⟩
  refine (szPhases_c q _ _ (by omega) hq).mono ?_
  rintro v h' ⟨rfl, rfl⟩
  by_cases hQ : 1048576 - (p.ts.length : Int) < (q.ts.length : Int)
  · rw [if_pos hQ]
    refine Go.of_vc I 100 ?_
    simp -implicitDefEqProofs
    exact .base ⟨rfl, rfl⟩
  rw [if_neg hQ]
  refine Go.of_vc I 100 ?_
  simp -implicitDefEqProofs
  refine ⟨fun hn => by omega, fun _ => ?_⟩
  refine ⟨_, toPhases_c p _ (by omega), ?_⟩
  simp -implicitDefEqProofs
  refine ⟨_, toPhases_c q _ (by omega), ?_⟩
  simp -implicitDefEqProofs
  refine ⟨_, specSame_c p q _ (by omega), ?_⟩
  simp -implicitDefEqProofs
  refine (toPhases_c p _ (by omega)).mono ?_
  rintro v h' ⟨rfl, rfl⟩
  refine Go.of_vc I 100 ?_
  simp -implicitDefEqProofs
  intro a
  refine Go.of_vc I 100 ?_
  simp -implicitDefEqProofs
  refine (toPhases_c q _ (by omega)).mono ?_
  rintro v h' ⟨rfl, rfl⟩
  refine Go.of_vc I 100 ?_
  simp -implicitDefEqProofs
  intro b hb
  refine Go.of_vc I 100 ?_
  simp -implicitDefEqProofs [hb]
  refine (implSame_c p q _ (by omega)).mono ?_
  rintro v h' ⟨rfl, rfl⟩
  refine Go.of_vc I 100 ?_
  simp -implicitDefEqProofs [hb]
  refine ⟨_, toPhases_c p _ (by omega), ?_⟩
  simp -implicitDefEqProofs [hb]
  refine ⟨_, eqPhases_c p p _ (by omega), ?_⟩
  simp -implicitDefEqProofs [hb]
  refine ⟨_, toPhases_c q _ (by omega), ?_⟩
  simp -implicitDefEqProofs [hb]
  refine ⟨_, eqPhases_c q q _ (by omega), ?_⟩
  simp -implicitDefEqProofs [hb]
  refine .drop b (.drop a (.base ?_))
  simp [hb]
end Go.AG
namespace Go.Proofs.Ytknonamjhdlmlaa
open Go.ChangeShapes Go.WideShapes Go.ChangeAt Go.RowKit Go.AG
theorem own : ownKnob Try.prog.godebug = none := by kernel_rfl
theorem laidOut : laidOutB Try.prog = true := by kernel_rfl
set_option maxRecDepth 100000 in
theorem same_lifted (os : Os) (started : os.Started) (H : Type) (enc : TypeId × Value → H) :
    ReturnsInHanded {} Try.checked os 3 .any (Rows.fnExactSamePhasesSpec.pre6 enc Try.prog Try.f3 Rows.fnExactSamePhasesRow.domain false) (Rows.fnExactSamePhasesSpec.post enc Try.prog Try.f3 false true false false) := by
  refine returnsInHanded_of_change (C := Try.checked) own started (by kernel_rfl) Try.func3
    (ChangeSpec.witness6 (enc := enc) (C := Try.checked) false ⟨#[], #[.agg #[.int .i64 0, .int .i64 0, .slice none 0 0], .agg #[.int .i64 0, .int .i64 0, .slice none 0 0]], []⟩ 8 (by kernel_rfl) (by kernel_rfl) (by kernel_rfl) (by kernel_rfl)) ?_
  intro W base args ds gs before hval0 hW _ _
  have hval : ∀ (j : Nat) t v, Try.f3.params[j]? = some t → args[j]? = some v → Value.okWide Try.prog W .any base t v := hval0
  refine law_post (tys := [tyPh, tyPh]) (tb := 4) laidOut rfl (by kernel_rfl) (by kernel_rfl) (by kernel_rfl) (by kernel_rfl) hval hW ?_ ?_
  · intro ds h
    match ds, h with
    | [a, b], _ => rfl
  · rintro xs ⟨x, r, rfl, hx, y, r', rfl, hy, hr⟩
    have hr' : r' = [] := hr
    subst hr'
    obtain ⟨p, rfl, _, hp⟩ := Ph_of_shape hx
    obtain ⟨q, rfl, _, hq⟩ := Ph_of_shape hy
    exact same_law p q hp hq
theorem samePhases_holds : Rows.FnExactSamePhasesSaid :=
  OpenClaim.holds_of_wide 3 Try.f3 rfl rfl rfl rfl rfl rfl rfl ⟨rfl, rfl, rfl, rfl, rfl⟩ rfl rfl rfl rfl rfl (by kernel_rfl) Try.func3 (by kernel_rfl)
    (of_decide_eq_true (by kernel_rfl)) (by unfold Func.isWrapper; first | (rw [if_pos (by decide +kernel)]; kernel_rfl) | (rw [if_neg (by decide +kernel)]; exact ⟨rfl, rfl⟩))
    (fun os started H enc _ => same_lifted os started H enc)
end Go.Proofs.Ytknonamjhdlmlaa
