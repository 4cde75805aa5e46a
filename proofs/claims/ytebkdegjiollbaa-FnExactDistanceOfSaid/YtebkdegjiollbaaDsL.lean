/- The law FnExactDistanceOf is true for every input: the program's DistanceOf returns what the reference's returns. -/
import Derived.Test.YtebkdegjiollbaaDsF
namespace Go.AG
open Go.Proofs Go.Proofs.Ytebkdegjiollbaa
set_option linter.unusedSimpArgs false
set_option linter.unusedVariables false
set_option maxRecDepth 4000
noncomputable def orcM : List (Nat × (List AV → Option (Prop × AV))) := (31, o_szBarS) :: []
theorem orcM_p : Pure Try.prog (lk orcM) := (lk_pure o_szBarS_k lk_pure0)
@[simp] theorem orcM_l (b : Bool) (g : FuncId) (l : List AV) : lk orcM b g l = if g = 31 then o_szBarS l else none := nr rfl
abbrev k6_o0 : List AJ := [.o ⟨(some 6), none, false, .mv (.c (.bool false)), (some [0, 1, 2])⟩]
abbrev k6_o1 : List AJ := [.o ⟨(some 7), none, false, .mv (.c (.int .i64 1048576)), (some [0, 1, 2, 7])⟩]
abbrev k6_o2 : List AJ := [.o ⟨(some 14), none, false, .mv (.t 0), none⟩, .o ⟨(some 15), none, false, .mv (.t 7), none⟩, .o ⟨(some 16), none, false, .call 31 [(.t 14), (.t 15)], none⟩, .o ⟨(some 7), none, false, .mv (.t 16), (some [0, 1, 2, 7])⟩]
abbrev k6_o3 : List AJ := [.o ⟨(some 17), none, false, .mv (.t 7), none⟩, .o ⟨(some 18), none, false, .bin .lss (.t 17) (.c (.int .i64 0)), (some [0, 1, 2, 7, 18])⟩]
abbrev k6_o4 : List AJ := [.o ⟨(some 6), none, false, .mv (.c (.bool true)), (some [6])⟩]
def k6_5 : ACode := .seq (.region k6_o4) .ret
def k6_6 : ACode := .cond (.t 18) k6_5 .skip
def k6_7 : ACode := .seq (.region k6_o3) k6_6
abbrev k6_o5 : List AJ := [.o ⟨(some 19), none, false, .mv (.t 1), none⟩, .o ⟨(some 20), none, false, .mv (.t 7), none⟩, .o ⟨(some 21), none, false, .call 31 [(.t 19), (.t 20)], none⟩, .o ⟨(some 7), none, false, .mv (.t 21), (some [0, 1, 2, 7])⟩]
abbrev k6_o6 : List AJ := [.o ⟨(some 22), none, false, .mv (.t 7), none⟩, .o ⟨(some 23), none, false, .bin .lss (.t 22) (.c (.int .i64 0)), (some [0, 1, 2, 23])⟩]
abbrev k6_o7 : List AJ := [.o ⟨(some 6), none, false, .mv (.c (.bool true)), (some [6])⟩]
def k6_11 : ACode := .seq (.region k6_o7) .ret
def k6_12 : ACode := .cond (.t 23) k6_11 .skip
def k6_13 : ACode := .seq (.region k6_o6) k6_12
abbrev k6_o8 : List AJ := [.o ⟨(some 25), none, false, .mv (.t 0), none⟩, .o ⟨(some 26), none, false, .call 33 [(.t 25)], none⟩, .o ⟨(some 27), none, false, .mv (.t 1), none⟩, .o ⟨(some 28), none, false, .call 33 [(.t 27)], none⟩, .o ⟨(some 29), none, false, .mv (.t 2), none⟩, .o ⟨(some 30), none, false, .call 32 [(.t 26), (.t 28), (.t 29)], none⟩, .o ⟨(some 24), none, false, .mv (.t 30), none⟩, .o ⟨(some 31), none, false, .extract (.t 24) 0, none⟩, .o ⟨(some 32), none, false, .extract (.t 24) 1, none⟩, .o ⟨(some 8), none, false, .mv (.t 31), none⟩, .o ⟨(some 9), none, false, .mv (.t 32), (some [0, 1, 2, 8, 9])⟩]
abbrev k6_o9 : List AJ := [.o ⟨(some 33), none, false, .mv (.t 0), none⟩, .o ⟨(some 34), none, false, .call 33 [(.t 33)], none⟩, .o ⟨(some 10), none, false, .mv (.t 34), (some [0, 1, 2, 8, 9, 10])⟩]
abbrev k6_o10 : List AJ := [.o ⟨(some 35), none, false, .mv (.t 1), none⟩, .o ⟨(some 36), none, false, .call 33 [(.t 35)], none⟩, .o ⟨(some 11), none, false, .mv (.t 36), (some [0, 1, 2, 8, 9, 10, 11])⟩]
abbrev k6_o11 : List AJ := [.o ⟨(some 38), none, false, .mv (.t 10), none⟩, .o ⟨(some 39), none, false, .mv (.t 11), none⟩, .o ⟨(some 40), none, false, .mv (.t 2), none⟩, .o ⟨(some 41), none, false, .call 34 [(.t 38), (.t 39), (.t 40)], none⟩, .o ⟨(some 37), none, false, .mv (.t 41), none⟩, .o ⟨(some 42), none, false, .extract (.t 37) 0, none⟩, .o ⟨(some 43), none, false, .extract (.t 37) 1, none⟩, .o ⟨(some 12), none, false, .mv (.t 42), none⟩, .o ⟨(some 13), none, false, .mv (.t 43), (some [0, 1, 8, 9, 10, 11, 12, 13])⟩]
abbrev k6_o12 : List AJ := [.o ⟨(some 44), none, false, .mv (.t 12), none⟩, .o ⟨(some 45), none, false, .mv (.t 8), none⟩, .o ⟨(some 46), none, false, .bin .neq (.t 44) (.t 45), none⟩, .o ⟨(some 47), none, false, .mv (.t 46), none⟩, .o ⟨(some 48), (some (47, false)), false, .mv (.t 13), none⟩, .o ⟨(some 49), (some (47, false)), false, .mv (.t 9), none⟩, .o ⟨(some 50), (some (47, false)), false, .bin .neq (.t 48) (.t 49), none⟩, .o ⟨(some 51), none, false, .pick (.t 47) (.c (.bool true)) (.t 50), (some [0, 1, 10, 11, 51])⟩]
abbrev k6_o13 : List AJ := [.o ⟨(some 6), none, false, .mv (.c (.bool false)), (some [6])⟩]
def k6_20 : ACode := .seq (.region k6_o13) .ret
def k6_21 : ACode := .cond (.t 51) k6_20 .skip
def k6_22 : ACode := .seq (.region k6_o12) k6_21
abbrev k6_o14 : List AJ := [.o ⟨(some 52), none, false, .mv (.t 10), none⟩, .o ⟨(some 53), none, false, .mv (.t 0), none⟩, .o ⟨(some 54), none, false, .call 33 [(.t 53)], none⟩, .o ⟨(some 55), none, false, .call 35 [(.t 52), (.t 54)], none⟩, .o ⟨(some 56), none, false, .un .not (.t 55), (some [1, 11, 56])⟩]
abbrev k6_o15 : List AJ := [.o ⟨(some 6), none, false, .mv (.c (.bool false)), (some [6])⟩]
def k6_25 : ACode := .seq (.region k6_o15) .ret
def k6_26 : ACode := .cond (.t 56) k6_25 .skip
def k6_27 : ACode := .seq (.region k6_o14) k6_26
abbrev k6_o16 : List AJ := [.o ⟨(some 57), none, false, .mv (.t 11), none⟩, .o ⟨(some 58), none, false, .mv (.t 1), none⟩, .o ⟨(some 59), none, false, .call 33 [(.t 58)], none⟩, .o ⟨(some 60), none, false, .call 35 [(.t 57), (.t 59)], none⟩, .o ⟨(some 61), none, false, .un .not (.t 60), (some [61])⟩]
abbrev k6_o17 : List AJ := [.o ⟨(some 6), none, false, .mv (.c (.bool false)), (some [6])⟩]
def k6_30 : ACode := .seq (.region k6_o17) .ret
def k6_31 : ACode := .cond (.t 61) k6_30 .skip
def k6_32 : ACode := .seq (.region k6_o16) k6_31
abbrev k6_o18 : List AJ := [.o ⟨(some 6), none, false, .mv (.c (.bool true)), (some [6])⟩]
def k6_34 : ACode := .seq (.region k6_o18) .ret
def k6_35 : ACode := .seq k6_32 k6_34
def k6_36 : ACode := .seq k6_27 k6_35
def k6_37 : ACode := .seq k6_22 k6_36
def k6_38 : ACode := .seq (.region k6_o11) k6_37
def k6_39 : ACode := .seq (.region k6_o10) k6_38
def k6_40 : ACode := .seq (.region k6_o9) k6_39
def k6_41 : ACode := .seq (.region k6_o8) k6_40
def k6_42 : ACode := .seq k6_13 k6_41
def k6_43 : ACode := .seq (.region k6_o5) k6_42
def k6_44 : ACode := .seq k6_7 k6_43
def k6_45 : ACode := .seq (.region k6_o2) k6_44
def k6_46 : ACode := .seq (.region k6_o1) k6_45
def k6_47 : ACode := .seq (.region k6_o0) k6_46
@[simp, simp ↓] theorem k6_5r : sR k6_5 k6_o4 .ret := yR rfl
@[simp, simp ↓] theorem k6_6r : rC k6_6 (.t 18) k6_5 .skip := zC rfl
@[simp, simp ↓] theorem k6_7r : sR k6_7 k6_o3 k6_6 := yR rfl
@[simp, simp ↓] theorem k6_11r : sR k6_11 k6_o7 .ret := yR rfl
@[simp, simp ↓] theorem k6_12r : rC k6_12 (.t 23) k6_11 .skip := zC rfl
@[simp, simp ↓] theorem k6_13r : sR k6_13 k6_o6 k6_12 := yR rfl
@[simp, simp ↓] theorem k6_20r : sR k6_20 k6_o13 .ret := yR rfl
@[simp, simp ↓] theorem k6_21r : rC k6_21 (.t 51) k6_20 .skip := zC rfl
@[simp, simp ↓] theorem k6_22r : sR k6_22 k6_o12 k6_21 := yR rfl
@[simp, simp ↓] theorem k6_25r : sR k6_25 k6_o15 .ret := yR rfl
@[simp, simp ↓] theorem k6_26r : rC k6_26 (.t 56) k6_25 .skip := zC rfl
@[simp, simp ↓] theorem k6_27r : sR k6_27 k6_o14 k6_26 := yR rfl
@[simp, simp ↓] theorem k6_30r : sR k6_30 k6_o17 .ret := yR rfl
@[simp, simp ↓] theorem k6_31r : rC k6_31 (.t 61) k6_30 .skip := zC rfl
@[simp, simp ↓] theorem k6_32r : sR k6_32 k6_o16 k6_31 := yR rfl
@[simp, simp ↓] theorem k6_34r : sR k6_34 k6_o18 .ret := yR rfl
@[simp, simp ↓] theorem k6_35r : rS k6_35 k6_32 k6_34 := zS rfl
@[simp, simp ↓] theorem k6_36r : rS k6_36 k6_27 k6_35 := zS rfl
@[simp, simp ↓] theorem k6_37r : rS k6_37 k6_22 k6_36 := zS rfl
@[simp, simp ↓] theorem k6_38r : sR k6_38 k6_o11 k6_37 := yR rfl
@[simp, simp ↓] theorem k6_39r : sR k6_39 k6_o10 k6_38 := yR rfl
@[simp, simp ↓] theorem k6_40r : sR k6_40 k6_o9 k6_39 := yR rfl
@[simp, simp ↓] theorem k6_41r : sR k6_41 k6_o8 k6_40 := yR rfl
@[simp, simp ↓] theorem k6_42r : rS k6_42 k6_13 k6_41 := zS rfl
@[simp, simp ↓] theorem k6_43r : sR k6_43 k6_o5 k6_42 := yR rfl
@[simp, simp ↓] theorem k6_44r : rS k6_44 k6_7 k6_43 := zS rfl
@[simp, simp ↓] theorem k6_45r : sR k6_45 k6_o2 k6_44 := yR rfl
@[simp, simp ↓] theorem k6_46r : sR k6_46 k6_o1 k6_45 := yR rfl
@[simp, simp ↓] theorem k6_47r : sR k6_47 k6_o0 k6_46 := yR rfl
noncomputable abbrev k6_C : Orc → Cx := mkC Try.prog [] 6 62 [.tmp 6]
theorem k6_of : OfP Try.prog Try.f6 6 62 k6_C k6_47 := @ofP _ _ _ _ _ _ _ _ Try.func6 (by decide +kernel) rfl (by kernel_rfl) rfl (by kernel_rfl)
theorem k6_of0 : OfP0 Try.prog Try.f6 6 62 k6_C k6_47 := @ofP0 _ _ _ _ _ _ _ _ Try.func6 (by decide +kernel) rfl (by kernel_rfl) rfl (by kernel_rfl)
theorem ds_law (x : List T) (hx : wfB x) (y : List T) (hy : wfB y) (k : Int) (hk : in64 k) : ACalls Try.prog 6 [(.snap 3 (x.map T.av)), (.snap 3 (y.map T.av)), (.int .i64 k)] [] (fun v h' => v = .bool true ∧ h' = []) := by
  refine k6_of rfl orcM_p fun I => ?_
  have hx2_x := hx.2
  have hx2_y := hy.2
  refine Run2.of I 1000 ?_
  by_cases kx : (x.length : Int) ≤ (1048576 : Int)
  · have hAx : ¬ (1048576 : Int) < x.length := by omega
    have hBx : ¬ (1048576 : Int) - x.length < 0 := by omega
    have hCx : (0 : Int) ≤ (1048576 : Int) - x.length := by omega
    have lx : x.length ≤ 1048576 := by omega
    have hDx : (1048576 : Int) - x.length ≤ 1048576 := by omega
    by_cases ky : (y.length : Int) ≤ ((1048576 : Int) - x.length)
    · have hAy : ¬ ((1048576 : Int) - x.length) < y.length := by omega
      have hBy : ¬ ((1048576 : Int) - x.length) - y.length < 0 := by omega
      have hCy : (0 : Int) ≤ ((1048576 : Int) - x.length) - y.length := by omega
      have ly : y.length ≤ 1048576 := by omega
      have hDy : ((1048576 : Int) - x.length) - y.length ≤ 1048576 := by omega
      have ox : okB x := hx.1
      have oy : okB y := hy.1
      simp -implicitDefEqProofs [hx2_x, hx2_y, hAx, hBx, hCx, hDx, kx, hAy, hBy, hCy, hDy, ky]
      first | refine dcallK (toBarS_c x _ lx) ?_ | (refine (toBarS_c x _ lx).mono ?_; rintro v h' ⟨rfl, rfl⟩; refine gK.go ?_)
      simp -implicitDefEqProofs
      first | refine dcallK (toBarS_c y _ ly) ?_ | (refine (toBarS_c y _ ly).mono ?_; rintro v h' ⟨rfl, rfl⟩; refine gK.go ?_)
      simp -implicitDefEqProofs
      first | refine dcallK (specDs_s x y k _ lx ly ox oy) ?_ | (refine (specDs_s x y k _ lx ly ox oy).mono ?_; rintro v h' ⟨rfl, rfl⟩; refine gK.go ?_)
      simp -implicitDefEqProofs
      refine (toBarS_o x _ lx).monoN ?_
      rintro v0 h' ⟨g0, o0, d0, rfl⟩ n0
      refine gK.go ?_
      simp -implicitDefEqProofs
      refine (toBarS_o y _ ly).monoN ?_
      rintro v1 h' ⟨g1, o1, d1, rfl⟩ n1
      refine gK.go ?_
      simp -implicitDefEqProofs
      skip
      have L0 := o0.lentIn T.cold (L := (g1 ++ g0)) (fun p hp => List.mem_append_right _ (hp)) n1
      have L1 := o1.lentIn T.cold (L := (g1 ++ g0)) (fun p hp => List.mem_append_left _ hp) n1
      first | refine dcallK (ACalls.reads (g1 ++ g0) (fun p hp => hp) (v0 := .tup [.int .i64 (dsN x y k), .int .i64 (dsC x y k)]) ?_ rfl) ?_ | (refine (ACalls.reads (g1 ++ g0) (fun p hp => hp) (v0 := .tup [.int .i64 (dsN x y k), .int .i64 (dsC x y k)]) ?_ rfl).mono ?_)
      · rw [lend_cons, lend_cons, lend_cons, lend_nil', lend1_cold (g1 ++ g0) (x := (.int .i64 k)) rfl]
        exact ACalls.wk (.cons L0.wk (.cons L1.wk (.cons (.refl _) .nil))) (implDs_s x y k [] lx ly ox oy)
      try (rintro v h' ⟨rfl, rfl⟩; refine gK.go ?_)
      simp -implicitDefEqProofs
      first | refine dcallK (toBarS_c x _ lx) ?_ | (refine (toBarS_c x _ lx).mono ?_; rintro v h' ⟨rfl, rfl⟩; refine gK.go ?_)
      simp -implicitDefEqProofs
      first | refine dcallK (eqB_own o0 (.snap x) (fun p hp => List.mem_append_right _ (hp)) lx) ?_ | (refine (eqB_own o0 (.snap x) (fun p hp => List.mem_append_right _ (hp)) lx).mono ?_; rintro v h' ⟨rfl, rfl⟩; refine gK.go ?_)
      simp -implicitDefEqProofs
      first | refine dcallK (toBarS_c y _ ly) ?_ | (refine (toBarS_c y _ ly).mono ?_; rintro v h' ⟨rfl, rfl⟩; refine gK.go ?_)
      simp -implicitDefEqProofs
      first | refine dcallK (eqB_own o1 (.snap y) (fun p hp => List.mem_append_left _ hp) ly) ?_ | (refine (eqB_own o1 (.snap y) (fun p hp => List.mem_append_left _ hp) ly).mono ?_; rintro v h' ⟨rfl, rfl⟩; refine gK.go ?_)
      simp -implicitDefEqProofs
      exact Post.none ⟨rfl, rfl⟩
    · have hAy : ((1048576 : Int) - x.length) < y.length := by omega
      simp -implicitDefEqProofs [hx2_x, hx2_y, hAx, hBx, hCx, hDx, kx, hAy]
      exact .base ⟨rfl, rfl⟩
  · have hAx : (1048576 : Int) < x.length := by omega
    simp -implicitDefEqProofs [hx2_x, hx2_y, hAx]
    exact .base ⟨rfl, rfl⟩
end Go.AG
namespace Go.Proofs.Ytebkdegjiollbaa
open Go.ChangeShapes Go.WideShapes Go.ChangeAt Go.RowKit Go.AG
theorem own : ownKnob Try.prog.godebug = none := by kernel_rfl
theorem laidOut : laidOutB Try.prog = true := by kernel_rfl
set_option maxRecDepth 100000 in
theorem fnExactDistanceOf_lifted (os : Os) (started : os.Started) (H : Type) (enc : TypeId × Value → H) :
    ReturnsInHanded {} Try.checked os 6 .any (Rows.fnExactDistanceOfSpec.pre6 enc Try.prog Try.f6 Rows.fnExactDistanceOfRow.domain false) (Rows.fnExactDistanceOfSpec.post enc Try.prog Try.f6 false true false false) := by
  refine returnsInHanded_of_change (C := Try.checked) own started (by kernel_rfl) Try.func6
    (ChangeSpec.witness6 (enc := enc) (C := Try.checked) false ⟨#[], #[.slice none 0 0, .slice none 0 0, .int .i64 0], []⟩ 8 (by kernel_rfl) (by kernel_rfl) (by kernel_rfl) (by kernel_rfl)) ?_
  intro W base args ds gs before hval0 hW _ _
  have hval : ∀ (j : Nat) t v, Try.f6.params[j]? = some t → args[j]? = some v → Value.okWide Try.prog W .any base t v := hval0
  refine law_post (tys := [tyB, tyB, (.int .i64)]) (tb := 4) laidOut rfl (by kernel_rfl) (by kernel_rfl) (by kernel_rfl) (by kernel_rfl) hval hW ?_ ?_ ⟨fun p hp => by simp [laidV] at hp, fun p hp => by simp [laidS] at hp⟩
  · intro ds h
    match ds, h with
    | [a0, a1, a2], _ => rfl
  · rintro xs ⟨x0, r0, rfl, h0, x1, r1, rfl, h1, x2, r2, rfl, h2, hr⟩
    have hr0 : r2 = [] := hr
    subst hr0
    obtain ⟨p0, rfl, q0⟩ := Bars_of_shape h0
    obtain ⟨p1, rfl, q1⟩ := Bars_of_shape h1
    obtain ⟨p2, rfl, q2⟩ := Int_of_shape h2
    exact ds_law p0 q0 p1 q1 p2 q2
theorem fnExactDistanceOf_holds : Rows.FnExactDistanceOfSaid :=
  OpenClaim.holds_of_wide 6 Try.f6 rfl rfl rfl rfl rfl rfl rfl ⟨rfl, rfl, rfl, rfl, rfl⟩ rfl rfl rfl rfl rfl (by kernel_rfl) Try.func6 (by kernel_rfl)
    (of_decide_eq_true (by kernel_rfl)) (by unfold Func.isWrapper; first | (rw [if_pos (by decide +kernel)]; kernel_rfl) | (rw [if_neg (by decide +kernel)]; exact ⟨rfl, rfl⟩))
    (fun os started H enc _ => fnExactDistanceOf_lifted os started H enc)
end Go.Proofs.Ytebkdegjiollbaa
