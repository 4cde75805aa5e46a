/- The law FnExactPhasesText is true for every input: the program's PhasesText returns what the reference's returns. The listed package-level variables (tables of the library) read as the program's text lays them. -/
import Derived.Test.YtnbllllkaohfoaaDoorPsT
import Derived.Test.YtnbllllkaohfoaaDoorCards
import Derived.Test.YtnbllllkaohfoaaDoorTie
import Derived.ProofKit
import Derived.LaidMore
import Derived.OpenShut
import Derived.Stop.Joined
import Derived.Stop.LaidErr
namespace Go.AG.P
open Go.Proofs Go.Proofs.YtnbllllkaohfoaaDoor
set_option linter.unusedSimpArgs false
set_option linter.unusedVariables false
set_option maxRecDepth 4000
noncomputable def orcPtL : List (Nat × (List AV → Option (Prop × AV))) := (17, o_szPhases) :: []
theorem orcPtL_p : Pure Tryd.prog (lk orcPtL) := (lk_pure o_szPhases_k lk_pure0)
@[simp] theorem orcPtL_l (b : Bool) (g : FuncId) (l : List AV) : lk orcPtL b g l = if g = 17 then o_szPhases l else none := nr rfl
abbrev k5_o0 : List AJ := [.o ⟨(some 1), none, false, .box false 3 (.t 0), none⟩, .o ⟨(some 2), none, false, .mv (.c (.bool false)), (some [1])⟩]
abbrev k5_o1 : List AJ := [.o ⟨(some 3), none, false, .mv (.c (.int .i64 1048576)), (some [1, 3])⟩]
abbrev k5_o2 : List AJ := [.o ⟨(some 7), none, false, .load 3 true (.t 1), none⟩, .o ⟨(some 8), none, false, .mv (.t 3), none⟩, .o ⟨(some 9), none, false, .call 17 [(.t 7), (.t 8)], none⟩, .o ⟨(some 3), none, false, .mv (.t 9), (some [1, 3])⟩]
abbrev k5_o3 : List AJ := [.o ⟨(some 10), none, false, .mv (.t 3), none⟩, .o ⟨(some 11), none, false, .bin .lss (.t 10) (.c (.int .i64 0)), (some [1, 11])⟩]
abbrev k5_o4 : List AJ := [.o ⟨(some 2), none, false, .mv (.c (.bool true)), (some [2])⟩]
def k5_5 : ACode := .seq (.region k5_o4) .ret
def k5_6 : ACode := .cond (.t 11) k5_5 .skip
def k5_7 : ACode := .seq (.region k5_o3) k5_6
abbrev k5_o5 : List AJ := [.o ⟨(some 12), none, false, .load 3 true (.t 1), none⟩, .o ⟨(some 13), none, false, .call 19 [(.t 12)], none⟩, .o ⟨(some 14), none, false, .call 18 [(.t 13)], none⟩, .o ⟨(some 4), none, false, .mv (.t 14), (some [1, 4])⟩]
abbrev k5_o6 : List AJ := [.o ⟨(some 15), none, false, .load 3 true (.t 1), none⟩, .o ⟨(some 16), none, false, .call 19 [(.t 15)], none⟩, .v 5 3 (.agg [(.int .i64 0), (.int .i64 0), .nilsl]) [] (.t 16) (some [1, 4, 5])]
abbrev k5_o7 : List AJ := [.o ⟨(some 17), none, false, .load 3 true (.t 5), none⟩, .o ⟨(some 18), none, false, .call 20 [(.t 17)], none⟩, .o ⟨(some 6), none, false, .mv (.t 18), (some [1, 4, 5, 6])⟩]
abbrev k5_o8 : List AJ := [.o ⟨(some 19), none, false, .mv (.t 6), none⟩, .o ⟨(some 20), none, false, .mv (.t 4), none⟩, .o ⟨(some 21), none, false, .bin .neq (.t 19) (.t 20), (some [1, 5, 21])⟩]
abbrev k5_o9 : List AJ := [.o ⟨(some 2), none, false, .mv (.c (.bool false)), (some [2])⟩]
def k5_13 : ACode := .seq (.region k5_o9) .ret
def k5_14 : ACode := .cond (.t 21) k5_13 .skip
def k5_15 : ACode := .seq (.region k5_o8) k5_14
abbrev k5_o10 : List AI := [⟨(some 22), none, false, .load 3 true (.t 5), none⟩, ⟨(some 23), none, false, .load 3 true (.t 1), none⟩, ⟨(some 24), none, false, .call 19 [(.t 23)], none⟩, ⟨(some 25), none, false, .call 21 [(.t 22), (.t 24)], none⟩, ⟨(some 26), none, false, .un .not (.t 25), (some [26])⟩]
abbrev k5_o11 : List AJ := [.o ⟨(some 2), none, false, .mv (.c (.bool false)), (some [2])⟩]
def k5_18 : ACode := .seq (.region k5_o11) .ret
def k5_19 : ACode := .cond (.t 26) k5_18 .skip
def k5_20 : ACode := .seq (.draw k5_o10 [] rfl) k5_19
abbrev k5_o12 : List AJ := [.o ⟨(some 2), none, false, .mv (.c (.bool true)), (some [2])⟩]
def k5_22 : ACode := .seq (.region k5_o12) .ret
def k5_23 : ACode := .seq k5_20 k5_22
def k5_24 : ACode := .seq k5_15 k5_23
def k5_25 : ACode := .seq (.region k5_o7) k5_24
def k5_26 : ACode := .seq (.region k5_o6) k5_25
def k5_27 : ACode := .seq (.region k5_o5) k5_26
def k5_28 : ACode := .seq k5_7 k5_27
def k5_29 : ACode := .seq (.region k5_o2) k5_28
def k5_30 : ACode := .seq (.region k5_o1) k5_29
def k5_31 : ACode := .seq (.region k5_o0) k5_30
@[simp, simp ↓] theorem k5_5r : sR k5_5 k5_o4 .ret := yR rfl
@[simp, simp ↓] theorem k5_6r : rC k5_6 (.t 11) k5_5 .skip := zC rfl
@[simp, simp ↓] theorem k5_7r : sR k5_7 k5_o3 k5_6 := yR rfl
@[simp, simp ↓] theorem k5_13r : sR k5_13 k5_o9 .ret := yR rfl
@[simp, simp ↓] theorem k5_14r : rC k5_14 (.t 21) k5_13 .skip := zC rfl
@[simp, simp ↓] theorem k5_15r : sR k5_15 k5_o8 k5_14 := yR rfl
@[simp, simp ↓] theorem k5_18r : sR k5_18 k5_o11 .ret := yR rfl
@[simp, simp ↓] theorem k5_19r : rC k5_19 (.t 26) k5_18 .skip := zC rfl
@[simp, simp ↓] theorem k5_20r : sD k5_20 k5_o10 [] k5_19 := yD rfl
@[simp, simp ↓] theorem k5_22r : sR k5_22 k5_o12 .ret := yR rfl
@[simp, simp ↓] theorem k5_23r : rS k5_23 k5_20 k5_22 := zS rfl
@[simp, simp ↓] theorem k5_24r : rS k5_24 k5_15 k5_23 := zS rfl
@[simp, simp ↓] theorem k5_25r : sR k5_25 k5_o7 k5_24 := yR rfl
@[simp, simp ↓] theorem k5_26r : sR k5_26 k5_o6 k5_25 := yR rfl
@[simp, simp ↓] theorem k5_27r : sR k5_27 k5_o5 k5_26 := yR rfl
@[simp, simp ↓] theorem k5_28r : rS k5_28 k5_7 k5_27 := zS rfl
@[simp, simp ↓] theorem k5_29r : sR k5_29 k5_o2 k5_28 := yR rfl
@[simp, simp ↓] theorem k5_30r : sR k5_30 k5_o1 k5_29 := yR rfl
@[simp, simp ↓] theorem k5_31r : sR k5_31 k5_o0 k5_30 := yR rfl
noncomputable abbrev k5_C : Orc → Cx := mkC Tryd.prog [5] 5 27 [.tmp 2]
theorem k5_of : OfP Tryd.prog Tryd.f5 5 27 k5_C k5_31 := @ofP _ _ _ _ _ _ _ _ Tryd.func5 (by decide +kernel) rfl (by kernel_rfl) rfl (by kernel_rfl)
theorem k5_of0 : OfP0 Tryd.prog Tryd.f5 5 27 k5_C k5_31 := @ofP0 _ _ _ _ _ _ _ _ Tryd.func5 (by decide +kernel) rfl (by kernel_rfl) rfl (by kernel_rfl)
theorem pt_law (x : Ph) (hx : x.wf) : ACalls Tryd.prog 5 [x.av] [] (fun v h' => v = .bool true ∧ h' = []) := by
  refine k5_of rfl orcPtL_p fun I => ?_
  have hx2_x := hx.2
  refine Run2.of I 1000 ?_
  by_cases kx : (x.ts.length : Int) ≤ (1048576 : Int)
  · have hAx : ¬ (1048576 : Int) < x.ts.length := by omega
    have hBx : ¬ (1048576 : Int) - x.ts.length < 0 := by omega
    have hCx : (0 : Int) ≤ (1048576 : Int) - x.ts.length := by omega
    have lx : x.ts.length ≤ 1048576 := by omega
    have hDx : (1048576 : Int) - x.ts.length ≤ 1048576 := by omega
    simp -implicitDefEqProofs [hx2_x, hAx, hBx, hCx, hDx, kx]
    first | refine dcallK (toPhases_c x _ lx) ?_ | (refine (toPhases_c x _ lx).mono ?_; rintro v h' ⟨rfl, rfl⟩; refine gK.go ?_)
    simp -implicitDefEqProofs
    first | refine dcallK (specPT_c x _ lx hx.1) ?_ | (refine (specPT_c x _ lx hx.1).mono ?_; rintro v h' ⟨rfl, rfl⟩; refine gK.go ?_)
    simp -implicitDefEqProofs
    refine (toPhases_o x _ lx).monoN ?_
    rintro v0 h' ⟨g0, o0, d0, rfl⟩ n0
    obtain ⟨u0, rfl, ou0⟩ := id o0
    have c0 := ou0.cell
    refine gK.go ?_
    simp -implicitDefEqProofs [c0]
    simp only [List.append_nil] at n0
    skip
    have L0 := o0.lentIn (L := g0) (fun p hp => hp) n0
    first | refine dcallK (ACalls.reads g0 (fun p hp => hp) (v0 := .str (phT x)) ?_ rfl) ?_ | (refine (ACalls.reads g0 (fun p hp => hp) (v0 := .str (phT x)) ?_ rfl).mono ?_)
    · rw [lend_cons, lend_nil']
      exact ACalls.wk (.cons L0.wk .nil) (implPT_c x [] lx hx.1)
    try (rintro v h' ⟨rfl, rfl⟩; refine gK.go ?_)
    simp -implicitDefEqProofs [c0]
    first | refine dcallK (toPhases_c x _ lx) ?_ | (refine (toPhases_c x _ lx).mono ?_; rintro v h' ⟨rfl, rfl⟩; refine gK.go ?_)
    simp -implicitDefEqProofs [c0]
    first | refine dcallK (eqPh_own o0 x.is (fun p hp => hp) lx) ?_ | (refine (eqPh_own o0 x.is (fun p hp => hp) lx).mono ?_; rintro v h' ⟨rfl, rfl⟩; refine gK.go ?_)
    simp -implicitDefEqProofs [c0]
    exact Post.none ⟨rfl, rfl⟩
  · have hAx : (1048576 : Int) < x.ts.length := by omega
    simp -implicitDefEqProofs [hx2_x, hAx]
    exact .base ⟨rfl, rfl⟩
end Go.AG.P
namespace Go.Proofs.YtnbllllkaohfoaaDoor
open Go.ChangeShapes Go.WideShapes Go.ChangeAt Go.RowKit Go.AG Go.AG.P
theorem own : ownKnob Tryd.prog.godebug = none := by kernel_rfl
theorem laidOut : laidOutB Tryd.prog = true := by kernel_rfl
theorem door_met (os : Os) (args : Array Value) : laidMetH Tryd.prog Rows.fnExactPhasesTextRow.laid ((World.doorLaid Tryd.prog 400 os).forCall (fun _ _ => 0) ⟨#[], args, []⟩).memory :=
  laidMetH_of_parts3 (fuel := 8) (laidMet_of_run' 8 (by kernel_rfl) (by kernel_rfl)) (by kernel_rfl) (by kernel_rfl)
theorem fix_of {W : World} (h : laidMetH Tryd.prog Rows.fnExactPhasesTextRow.laid W) : Fix W [] := by
  rw [MakeChecks.laidMetH_plain _ _ _ (by kernel_rfl)] at h
  have h2 : laidMet Tryd.prog (("internal/strconv.uint64pow10", Lib.tabData .u64 Lib.pow10Tab) :: Rows.fnExactPhasesTextRow.laid.drop 3) W := h.tail.tail
  have ht := Lib.tabIs_of_head (g := 1) (t := 160) (e := 147) (n := 20) (by kernel_rfl) (by kernel_rfl) Tryd.underlying160 Tryd.underlying147 (by kernel_rfl) (by kernel_rfl) h2
  intro p hp
  obtain rfl := List.mem_singleton.1 hp
  refine ⟨by simp, ?_⟩
  unfold Lib.TabIs World.var? at ht
  rw [show Tryd.prog.globalNamed "internal/strconv.uint64pow10" = some 1 by kernel_rfl] at ht
  simp only [Option.bind_some] at ht
  split at ht
  · rename_i cs el fz e
    exact ⟨el, fz, by rw [e]; rw [Option.some.inj ht]⟩
  · cases ht
set_option maxRecDepth 100000 in
theorem fnExactPhasesText_lifted (os : Os) (started : os.Started) (H : Type) (enc : TypeId × Value → H) :
    ReturnsInHanded {} Tryd.checked os 5 .any (fun w args => (Rows.fnExactPhasesTextSpec.pre enc Tryd.prog Tryd.f5 [] false w args ∧ laidMetH Tryd.prog Rows.fnExactPhasesTextRow.laid w) ∧ sizedMet enc Tryd.prog Tryd.f5 (OpenSpec.ofChange Rows.fnExactPhasesTextSpec) false w args)
      (Rows.fnExactPhasesTextSpec.post enc Tryd.prog Tryd.f5 false true false false) := by
  refine returnsInHanded_of_change_and (C := Tryd.checked) (X := fun w _ => laidMetH Tryd.prog Rows.fnExactPhasesTextRow.laid w) (fun _ _ _ hh h => h.of_heap hh) own started (by kernel_rfl) Tryd.func5
    (ChangeSpec.witness_shaped (enc := enc) (C := Tryd.checked) (os := os) (X := fun w _ => laidMetH Tryd.prog Rows.fnExactPhasesTextRow.laid w) false (World.doorLaid Tryd.prog 400 os) #[.agg #[.int .i64 0, .int .i64 0, .slice none 0 0]] 8 rfl (World.shaped_of_RefB (by kernel_rfl) (by kernel_rfl)) (by kernel_rfl) (by kernel_rfl) (by kernel_rfl) (door_met os _)) ?_
  intro W base args ds gs before hval0 hW _ _ hL _
  have hval : ∀ (j : Nat) t v, Tryd.f5.params[j]? = some t → args[j]? = some v → Value.okWide Tryd.prog W .any base t v := hval0
  refine law_post (tys := [tyPh]) (tb := 4) laidOut rfl (by kernel_rfl) (by kernel_rfl) (by kernel_rfl) (by kernel_rfl) hval hW ?_ ?_ (fix_of hL)
  · intro ds h
    match ds, h with
    | [a0], _ => rfl
  · rintro xs ⟨x0, r0, rfl, h0, hr⟩
    have hr0 : r0 = [] := hr
    subst hr0
    obtain ⟨p0, rfl, q0⟩ := Ph_of_shape h0
    exact pt_law p0 q0
theorem fnExactPhasesText_row : Rows.FnExactPhasesTextSaid :=
  OpenClaim.holds_of_wide 5 Tryd.f5 rfl rfl rfl rfl rfl rfl rfl ⟨rfl, rfl, rfl, rfl, rfl⟩ rfl rfl rfl rfl rfl (by kernel_rfl) Tryd.func5 (by kernel_rfl)
    (of_decide_eq_true (by kernel_rfl)) (by unfold Func.isWrapper; first | (rw [if_pos (by decide +kernel)]; kernel_rfl) | (rw [if_neg (by decide +kernel)]; exact ⟨rfl, rfl⟩))
    (fun os started H enc _ => fnExactPhasesText_lifted os started H enc)
theorem fnExactPhasesText_holds : Rows.FnExactPhasesTextCardSaid :=
  Claim7.holds_tied_plain_at .later [] [.data, .data, .data] true (true, "a1d33aee8b531a4f8af15697465241e6ebd90f373fd34e139fee28588575376a") false
    fnExactPhasesText_row (fun _ h => by cases h) (by kernel_rfl) (fun _ h => by cases h) fnExactPhasesText_row_tie rfl ⟨rfl, rfl⟩ (by kernel_rfl) rfl
    (fun f fn hf hfn => by
      obtain rfl : f = 5 := Option.some.inj ((show Tryd.prog.funcNamed "loop.example/g01005/laws.FnExactPhasesText" = some 5 by kernel_rfl).symm.trans hf) |>.symm
      obtain rfl : fn = Tryd.f5 := (Option.some.inj (Tryd.func5.symm.trans hfn)).symm
      exact ⟨by kernel_rfl, fun j t ht => by
        have hm : t ∈ Tryd.f5.params.toList := by simpa using Array.mem_of_getElem? ht
        have hall : (Tryd.f5.params.toList.all fun u => !Tryd.prog.wantsStandIn u) = true := by kernel_rfl
        exact (show Tryd.prog.wantsStandIn t = false by simpa using List.all_eq_true.1 hall t hm)⟩)
    (by kernel_rfl)
end Go.Proofs.YtnbllllkaohfoaaDoor
