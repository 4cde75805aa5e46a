/- The law FnExactCountMaps is true for every input: the program's CountMaps returns what the reference's returns. -/
import Derived.Test.YtebkdegjiollbaaCmD
import Derived.Test.YtebkdegjiollbaaFilL
namespace Go.AG
open Go.Proofs Go.Proofs.Ytebkdegjiollbaa
set_option linter.unusedSimpArgs false
set_option linter.unusedVariables false
set_option maxRecDepth 4000
abbrev k4_o0 : List AJ := [.o ⟨(some 3), none, false, .box false 1 (.t 0), none⟩, .o ⟨(some 4), none, false, .box false 1 (.t 1), none⟩, .o ⟨(some 6), none, false, .mv (.c (.bool false)), (some [2, 3, 4])⟩]
abbrev k4_o1 : List AJ := [.o ⟨(some 7), none, false, .mv (.c (.int .i64 1048576)), (some [2, 3, 4, 7])⟩]
abbrev k4_o2 : List AJ := [.o ⟨(some 14), none, false, .load 1 true (.t 3), none⟩, .o ⟨(some 15), none, false, .mv (.t 7), none⟩, .o ⟨(some 16), none, false, .call 17 [(.t 14), (.t 15)], none⟩, .o ⟨(some 7), none, false, .mv (.t 16), (some [2, 3, 4, 7])⟩]
abbrev k4_o3 : List AJ := [.o ⟨(some 17), none, false, .mv (.t 7), none⟩, .o ⟨(some 18), none, false, .bin .lss (.t 17) (.c (.int .i64 0)), (some [2, 3, 4, 7, 18])⟩]
abbrev k4_o4 : List AJ := [.o ⟨(some 6), none, false, .mv (.c (.bool true)), (some [6])⟩]
def k4_5 : ACode := .seq (.region k4_o4) .ret
def k4_6 : ACode := .cond (.t 18) k4_5 .skip
def k4_7 : ACode := .seq (.region k4_o3) k4_6
abbrev k4_o5 : List AJ := [.o ⟨(some 19), none, false, .load 1 true (.t 4), none⟩, .o ⟨(some 20), none, false, .mv (.t 7), none⟩, .o ⟨(some 21), none, false, .call 17 [(.t 19), (.t 20)], none⟩, .o ⟨(some 7), none, false, .mv (.t 21), (some [2, 3, 4, 7])⟩]
abbrev k4_o6 : List AJ := [.o ⟨(some 22), none, false, .mv (.t 7), none⟩, .o ⟨(some 23), none, false, .bin .lss (.t 22) (.c (.int .i64 0)), (some [2, 3, 4, 23])⟩]
abbrev k4_o7 : List AJ := [.o ⟨(some 6), none, false, .mv (.c (.bool true)), (some [6])⟩]
def k4_11 : ACode := .seq (.region k4_o7) .ret
def k4_12 : ACode := .cond (.t 23) k4_11 .skip
def k4_13 : ACode := .seq (.region k4_o6) k4_12
abbrev k4_o8 : List AI := [⟨(some 25), none, false, .load 1 true (.t 3), none⟩, ⟨(some 26), none, false, .call 19 [(.t 25)], none⟩, ⟨(some 27), none, false, .load 1 true (.t 4), none⟩, ⟨(some 28), none, false, .call 19 [(.t 27)], none⟩, ⟨(some 29), none, false, .mv (.t 2), none⟩, ⟨(some 30), none, false, .call 18 [(.t 26), (.t 28), (.t 29)], none⟩, ⟨(some 24), none, false, .mv (.t 30), none⟩, ⟨(some 31), none, false, .extract (.t 24) 0, none⟩, ⟨(some 32), none, false, .extract (.t 24) 1, none⟩, ⟨(some 8), none, false, .mv (.t 31), none⟩, ⟨(some 9), none, false, .mv (.t 32), (some [2, 3, 4, 8, 9])⟩]
abbrev k4_o9 : List AJ := [.o ⟨(some 33), none, false, .load 1 true (.t 3), none⟩, .o ⟨(some 34), none, false, .call 19 [(.t 33)], none⟩, .v 10 1 (.agg [.nilsl]) [] (.t 34) (some [2, 3, 4, 8, 9, 10])]
abbrev k4_o10 : List AJ := [.o ⟨(some 35), none, false, .load 1 true (.t 4), none⟩, .o ⟨(some 36), none, false, .call 19 [(.t 35)], none⟩, .v 11 1 (.agg [.nilsl]) [] (.t 36) (some [2, 3, 4, 8, 9, 10, 11])]
abbrev k4_o11 : List AJ := [.o ⟨(some 38), none, false, .load 1 true (.t 10), none⟩, .o ⟨(some 39), none, false, .load 1 true (.t 11), none⟩, .o ⟨(some 40), none, false, .mv (.t 2), none⟩, .o ⟨(some 41), none, false, .call 20 [(.t 38), (.t 39), (.t 40)], none⟩, .o ⟨(some 37), none, false, .mv (.t 41), none⟩, .o ⟨(some 42), none, false, .extract (.t 37) 0, none⟩, .o ⟨(some 43), none, false, .extract (.t 37) 1, none⟩, .o ⟨(some 12), none, false, .mv (.t 42), none⟩, .o ⟨(some 13), none, false, .mv (.t 43), (some [3, 4, 8, 9, 10, 11, 12, 13])⟩]
abbrev k4_o12 : List AJ := [.o ⟨(some 44), none, false, .mv (.t 12), none⟩, .o ⟨(some 45), none, false, .mv (.t 8), none⟩, .o ⟨(some 46), none, false, .bin .neq (.t 44) (.t 45), none⟩, .o ⟨(some 47), none, false, .mv (.t 46), none⟩, .o ⟨(some 48), (some (47, false)), false, .mv (.t 13), none⟩, .o ⟨(some 49), (some (47, false)), false, .mv (.t 9), none⟩, .o ⟨(some 50), (some (47, false)), false, .bin .neq (.t 48) (.t 49), none⟩, .o ⟨(some 51), none, false, .pick (.t 47) (.c (.bool true)) (.t 50), (some [3, 4, 10, 11, 51])⟩]
abbrev k4_o13 : List AJ := [.o ⟨(some 6), none, false, .mv (.c (.bool false)), (some [6])⟩]
def k4_20 : ACode := .seq (.region k4_o13) .ret
def k4_21 : ACode := .cond (.t 51) k4_20 .skip
def k4_22 : ACode := .seq (.region k4_o12) k4_21
abbrev k4_o14 : List AI := [⟨(some 52), none, false, .load 1 true (.t 10), none⟩, ⟨(some 53), none, false, .load 1 true (.t 3), none⟩, ⟨(some 54), none, false, .call 19 [(.t 53)], none⟩, ⟨(some 55), none, false, .call 21 [(.t 52), (.t 54)], none⟩, ⟨(some 56), none, false, .un .not (.t 55), (some [4, 11, 56])⟩]
abbrev k4_o15 : List AJ := [.o ⟨(some 6), none, false, .mv (.c (.bool false)), (some [6])⟩]
def k4_25 : ACode := .seq (.region k4_o15) .ret
def k4_26 : ACode := .cond (.t 56) k4_25 .skip
def k4_27 : ACode := .seq (.draw k4_o14 [] rfl) k4_26
abbrev k4_o16 : List AI := [⟨(some 57), none, false, .load 1 true (.t 11), none⟩, ⟨(some 58), none, false, .load 1 true (.t 4), none⟩, ⟨(some 59), none, false, .call 19 [(.t 58)], none⟩, ⟨(some 60), none, false, .call 21 [(.t 57), (.t 59)], none⟩, ⟨(some 61), none, false, .un .not (.t 60), (some [61])⟩]
abbrev k4_o17 : List AJ := [.o ⟨(some 6), none, false, .mv (.c (.bool false)), (some [6])⟩]
def k4_30 : ACode := .seq (.region k4_o17) .ret
def k4_31 : ACode := .cond (.t 61) k4_30 .skip
def k4_32 : ACode := .seq (.draw k4_o16 [] rfl) k4_31
abbrev k4_o18 : List AJ := [.o ⟨(some 6), none, false, .mv (.c (.bool true)), (some [6])⟩]
def k4_34 : ACode := .seq (.region k4_o18) .ret
def k4_35 : ACode := .seq k4_32 k4_34
def k4_36 : ACode := .seq k4_27 k4_35
def k4_37 : ACode := .seq k4_22 k4_36
def k4_38 : ACode := .seq (.region k4_o11) k4_37
def k4_39 : ACode := .seq (.region k4_o10) k4_38
def k4_40 : ACode := .seq (.region k4_o9) k4_39
def k4_41 : ACode := .seq (.draw k4_o8 [] rfl) k4_40
def k4_42 : ACode := .seq k4_13 k4_41
def k4_43 : ACode := .seq (.region k4_o5) k4_42
def k4_44 : ACode := .seq k4_7 k4_43
def k4_45 : ACode := .seq (.region k4_o2) k4_44
def k4_46 : ACode := .seq (.region k4_o1) k4_45
def k4_47 : ACode := .seq (.region k4_o0) k4_46
@[simp, simp ↓] theorem k4_5r : sR k4_5 k4_o4 .ret := yR rfl
@[simp, simp ↓] theorem k4_6r : rC k4_6 (.t 18) k4_5 .skip := zC rfl
@[simp, simp ↓] theorem k4_7r : sR k4_7 k4_o3 k4_6 := yR rfl
@[simp, simp ↓] theorem k4_11r : sR k4_11 k4_o7 .ret := yR rfl
@[simp, simp ↓] theorem k4_12r : rC k4_12 (.t 23) k4_11 .skip := zC rfl
@[simp, simp ↓] theorem k4_13r : sR k4_13 k4_o6 k4_12 := yR rfl
@[simp, simp ↓] theorem k4_20r : sR k4_20 k4_o13 .ret := yR rfl
@[simp, simp ↓] theorem k4_21r : rC k4_21 (.t 51) k4_20 .skip := zC rfl
@[simp, simp ↓] theorem k4_22r : sR k4_22 k4_o12 k4_21 := yR rfl
@[simp, simp ↓] theorem k4_25r : sR k4_25 k4_o15 .ret := yR rfl
@[simp, simp ↓] theorem k4_26r : rC k4_26 (.t 56) k4_25 .skip := zC rfl
@[simp, simp ↓] theorem k4_27r : sD k4_27 k4_o14 [] k4_26 := yD rfl
@[simp, simp ↓] theorem k4_30r : sR k4_30 k4_o17 .ret := yR rfl
@[simp, simp ↓] theorem k4_31r : rC k4_31 (.t 61) k4_30 .skip := zC rfl
@[simp, simp ↓] theorem k4_32r : sD k4_32 k4_o16 [] k4_31 := yD rfl
@[simp, simp ↓] theorem k4_34r : sR k4_34 k4_o18 .ret := yR rfl
@[simp, simp ↓] theorem k4_35r : rS k4_35 k4_32 k4_34 := zS rfl
@[simp, simp ↓] theorem k4_36r : rS k4_36 k4_27 k4_35 := zS rfl
@[simp, simp ↓] theorem k4_37r : rS k4_37 k4_22 k4_36 := zS rfl
@[simp, simp ↓] theorem k4_38r : sR k4_38 k4_o11 k4_37 := yR rfl
@[simp, simp ↓] theorem k4_39r : sR k4_39 k4_o10 k4_38 := yR rfl
@[simp, simp ↓] theorem k4_40r : sR k4_40 k4_o9 k4_39 := yR rfl
@[simp, simp ↓] theorem k4_41r : sD k4_41 k4_o8 [] k4_40 := yD rfl
@[simp, simp ↓] theorem k4_42r : rS k4_42 k4_13 k4_41 := zS rfl
@[simp, simp ↓] theorem k4_43r : sR k4_43 k4_o5 k4_42 := yR rfl
@[simp, simp ↓] theorem k4_44r : rS k4_44 k4_7 k4_43 := zS rfl
@[simp, simp ↓] theorem k4_45r : sR k4_45 k4_o2 k4_44 := yR rfl
@[simp, simp ↓] theorem k4_46r : sR k4_46 k4_o1 k4_45 := yR rfl
@[simp, simp ↓] theorem k4_47r : sR k4_47 k4_o0 k4_46 := yR rfl
noncomputable abbrev k4_C : Orc → Cx := mkC Try.prog [10, 11] 4 62 [.tmp 6]
theorem k4_of : OfP Try.prog Try.f4 4 62 k4_C k4_47 := @ofP _ _ _ _ _ _ _ _ Try.func4 (by decide +kernel) rfl (by kernel_rfl) rfl (by kernel_rfl)
theorem k4_of0 : OfP0 Try.prog Try.f4 4 62 k4_C k4_47 := @ofP0 _ _ _ _ _ _ _ _ Try.func4 (by decide +kernel) rfl (by kernel_rfl) rfl (by kernel_rfl)
theorem cm_law (x : LS) (hx : wfSS x) (y : LS) (hy : wfSS y) (k : Int) (hk : in64 k) : ACalls Try.prog 4 [(cx x), (cx y), (.int .i64 k)] [] (fun v h' => v = .bool true ∧ h' = []) := by
  refine k4_of rfl orcM_p fun I => ?_
  have hx2_x := hx
  have hx2_y := hy
  refine Run2.of I 1000 ?_
  by_cases kx : ((ssTot x) : Int) ≤ (1048576 : Int)
  · have hAx : ¬ (1048576 : Int) < (ssTot x) := by omega
    have hBx : ¬ (1048576 : Int) - (ssTot x) < 0 := by omega
    have hCx : (0 : Int) ≤ (1048576 : Int) - (ssTot x) := by omega
    have lx : (ssTot x) ≤ 1048576 := by omega
    have hDx : (1048576 : Int) - (ssTot x) ≤ 1048576 := by omega
    by_cases ky : ((ssTot y) : Int) ≤ ((1048576 : Int) - (ssTot x))
    · have hAy : ¬ ((1048576 : Int) - (ssTot x)) < (ssTot y) := by omega
      have hBy : ¬ ((1048576 : Int) - (ssTot x)) - (ssTot y) < 0 := by omega
      have hCy : (0 : Int) ≤ ((1048576 : Int) - (ssTot x)) - (ssTot y) := by omega
      have ly : (ssTot y) ≤ 1048576 := by omega
      have hDy : ((1048576 : Int) - (ssTot x)) - (ssTot y) ≤ 1048576 := by omega
      have hxc := sumL_le_tot x
      have hyc := sumL_le_tot y
      simp -implicitDefEqProofs [hx2_x, hx2_y, hAx, hBx, hCx, hDx, kx, hAy, hBy, hCy, hDy, ky]
      first | refine dcallK (toCx_c x _ lx) ?_ | (refine (toCx_c x _ lx).mono ?_; rintro v h' ⟨rfl, rfl⟩; refine gK.go ?_)
      simp -implicitDefEqProofs
      first | refine dcallK (toCx_c y _ ly) ?_ | (refine (toCx_c y _ ly).mono ?_; rintro v h' ⟨rfl, rfl⟩; refine gK.go ?_)
      simp -implicitDefEqProofs
      first | refine dcallK (specCM_s x y k _ lx ly) ?_ | (refine (specCM_s x y k _ lx ly).mono ?_; rintro v h' ⟨rfl, rfl⟩; refine gK.go ?_)
      simp -implicitDefEqProofs
      refine (toCx_o x _ lx).monoN ?_
      rintro v0 h' ⟨g0, o0, d0, rfl⟩ n0
      obtain ⟨pu0, rfl, pou0⟩ := id o0
      have c0 := pou0.cell
      refine gK.go ?_
      simp -implicitDefEqProofs [c0]
      refine (toCx_o y _ ly).monoN ?_
      rintro v1 h' ⟨g1, o1, d1, rfl⟩ n1
      obtain ⟨pu1, rfl, pou1⟩ := id o1
      have c1 := pou1.cell
      refine gK.go ?_
      simp -implicitDefEqProofs [c0, c1]
      skip
      have L0 := o0.lentMid (A := g1) (B := []) (by simpa only [List.nil_append, List.append_nil, List.append_assoc] using n1)
      simp only [List.nil_append, List.append_nil, List.append_assoc] at L0
      have L1 := o1.lentMid (A := []) (B := g0) (by simpa only [List.nil_append, List.append_nil, List.append_assoc] using n1)
      first | refine dcallK (ACalls.reads (g1 ++ g0) (fun p hp => hp) (v0 := .tup [.int .i64 (cmN x y k), .int .i64 (cmC x y k)]) ?_ rfl) ?_ | (refine (ACalls.reads (g1 ++ g0) (fun p hp => hp) (v0 := .tup [.int .i64 (cmN x y k), .int .i64 (cmC x y k)]) ?_ rfl).mono ?_)
      · rw [lend_cons, lend_cons, lend_cons, lend_nil', lend1_cold (g1 ++ g0) (x := (.int .i64 k)) rfl]
        exact ACalls.wk (.cons L0.wk (.cons L1.wk (.cons (.refl _) .nil))) (implCM_s x y k [] lx ly)
      try (rintro v h' ⟨rfl, rfl⟩; refine gK.go ?_)
      simp -implicitDefEqProofs [c0, c1]
      first | refine dcallK (toCx_c x _ lx) ?_ | (refine (toCx_c x _ lx).mono ?_; rintro v h' ⟨rfl, rfl⟩; refine gK.go ?_)
      simp -implicitDefEqProofs [c0, c1]
      first | refine dcallK (eqCx_own o0 (cx_is x) (fun p hp => List.mem_append_right _ (hp)) lx) ?_ | (refine (eqCx_own o0 (cx_is x) (fun p hp => List.mem_append_right _ (hp)) lx).mono ?_; rintro v h' ⟨rfl, rfl⟩; refine gK.go ?_)
      simp -implicitDefEqProofs [c0, c1]
      first | refine dcallK (toCx_c y _ ly) ?_ | (refine (toCx_c y _ ly).mono ?_; rintro v h' ⟨rfl, rfl⟩; refine gK.go ?_)
      simp -implicitDefEqProofs [c0, c1]
      first | refine dcallK (eqCx_own o1 (cx_is y) (fun p hp => List.mem_append_left _ hp) ly) ?_ | (refine (eqCx_own o1 (cx_is y) (fun p hp => List.mem_append_left _ hp) ly).mono ?_; rintro v h' ⟨rfl, rfl⟩; refine gK.go ?_)
      simp -implicitDefEqProofs [c0, c1]
      exact Post.none ⟨rfl, rfl⟩
    · have hAy : ((1048576 : Int) - (ssTot x)) < (ssTot y) := by omega
      simp -implicitDefEqProofs [hx2_x, hx2_y, hAx, hBx, hCx, hDx, kx, hAy]
      exact .base ⟨rfl, rfl⟩
  · have hAx : (1048576 : Int) < (ssTot x) := by omega
    simp -implicitDefEqProofs [hx2_x, hx2_y, hAx]
    exact .base ⟨rfl, rfl⟩
end Go.AG
namespace Go.Proofs.Ytebkdegjiollbaa
open Go.ChangeShapes Go.WideShapes Go.ChangeAt Go.RowKit Go.AG
theorem own : ownKnob Try.prog.godebug = none := by kernel_rfl
theorem laidOut : laidOutB Try.prog = true := by kernel_rfl
set_option maxRecDepth 100000 in
theorem fnExactCountMaps_lifted (os : Os) (started : os.Started) (H : Type) (enc : TypeId × Value → H) :
    ReturnsInHanded {} Try.checked os 4 .any (Rows.fnExactCountMapsSpec.pre6 enc Try.prog Try.f4 Rows.fnExactCountMapsRow.domain false) (Rows.fnExactCountMapsSpec.post enc Try.prog Try.f4 false true false false) := by
  refine returnsInHanded_of_change (C := Try.checked) own started (by kernel_rfl) Try.func4
    (ChangeSpec.witness6 (enc := enc) (C := Try.checked) false ⟨#[], #[.agg #[.slice none 0 0], .agg #[.slice none 0 0], .int .i64 0], []⟩ 8 (by kernel_rfl) (by kernel_rfl) (by kernel_rfl) (by kernel_rfl)) ?_
  intro W base args ds gs before hval0 hW _ _
  have hval : ∀ (j : Nat) t v, Try.f4.params[j]? = some t → args[j]? = some v → Value.okWide Try.prog W .any base t v := hval0
  refine law_post (tys := [tyCx, tyCx, (.int .i64)]) (tb := 4) laidOut rfl (by kernel_rfl) (by kernel_rfl) (by kernel_rfl) (by kernel_rfl) hval hW ?_ ?_ ⟨fun p hp => by simp [laidV] at hp, fun p hp => by simp [laidS] at hp⟩
  · intro ds h
    match ds, h with
    | [a0, a1, a2], _ => rfl
  · rintro xs ⟨x0, r0, rfl, h0, x1, r1, rfl, h1, x2, r2, rfl, h2, hr⟩
    have hr0 : r2 = [] := hr
    subst hr0
    obtain ⟨p0, rfl, q0⟩ := Cx_of_shape h0
    obtain ⟨p1, rfl, q1⟩ := Cx_of_shape h1
    obtain ⟨p2, rfl, q2⟩ := Int_of_shape h2
    exact cm_law p0 q0 p1 q1 p2 q2
theorem fnExactCountMaps_holds : Rows.FnExactCountMapsSaid :=
  OpenClaim.holds_of_wide 4 Try.f4 rfl rfl rfl rfl rfl rfl rfl ⟨rfl, rfl, rfl, rfl, rfl⟩ rfl rfl rfl rfl rfl (by kernel_rfl) Try.func4 (by kernel_rfl)
    (of_decide_eq_true (by kernel_rfl)) (by unfold Func.isWrapper; first | (rw [if_pos (by decide +kernel)]; kernel_rfl) | (rw [if_neg (by decide +kernel)]; exact ⟨rfl, rfl⟩))
    (fun os started H enc _ => fnExactCountMaps_lifted os started H enc)
end Go.Proofs.Ytebkdegjiollbaa
