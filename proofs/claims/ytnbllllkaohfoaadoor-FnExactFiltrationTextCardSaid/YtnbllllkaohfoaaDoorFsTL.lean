/- The law FnExactFiltrationText is true for every input: the program's FiltrationText returns what the reference's returns. The listed package-level variables (tables of the library) read as the program's text lays them. -/
import Derived.Test.YtnbllllkaohfoaaDoorFsT
import Derived.Test.YtnbllllkaohfoaaDoorCards
import Derived.Test.YtnbllllkaohfoaaDoorTie
import Derived.ProofKit
import Derived.LaidMore
import Derived.OpenShut
import Derived.Stop.Joined
import Derived.Stop.LaidErr
namespace Go.AG
open Go.Proofs Go.Proofs.YtnbllllkaohfoaaDoor
set_option linter.unusedSimpArgs false
set_option linter.unusedVariables false
set_option maxRecDepth 4000
noncomputable def orcFsL : List (Nat × (List AV → Option (Prop × AV))) := (22, o_szFil) :: []
theorem orcFsL_p : Pure Tryd.prog (lk orcFsL) := (lk_pure o_szFil_k lk_pure0)
@[simp] theorem orcFsL_l (b : Bool) (g : FuncId) (l : List AV) : lk orcFsL b g l = if g = 22 then o_szFil l else none := nr rfl
abbrev k6_o0 : List AJ := [.o ⟨(some 1), none, false, .box false 2 (.t 0), none⟩, .o ⟨(some 2), none, false, .mv (.c (.bool false)), (some [1])⟩]
abbrev k6_o1 : List AJ := [.o ⟨(some 3), none, false, .mv (.c (.int .i64 1048576)), (some [1, 3])⟩]
abbrev k6_o2 : List AJ := [.o ⟨(some 7), none, false, .load 2 true (.t 1), none⟩, .o ⟨(some 8), none, false, .mv (.t 3), none⟩, .o ⟨(some 9), none, false, .call 22 [(.t 7), (.t 8)], none⟩, .o ⟨(some 3), none, false, .mv (.t 9), (some [1, 3])⟩]
abbrev k6_o3 : List AJ := [.o ⟨(some 10), none, false, .mv (.t 3), none⟩, .o ⟨(some 11), none, false, .bin .lss (.t 10) (.c (.int .i64 0)), (some [1, 11])⟩]
abbrev k6_o4 : List AJ := [.o ⟨(some 2), none, false, .mv (.c (.bool true)), (some [2])⟩]
def k6_5 : ACode := .seq (.region k6_o4) .ret
def k6_6 : ACode := .cond (.t 11) k6_5 .skip
def k6_7 : ACode := .seq (.region k6_o3) k6_6
abbrev k6_o5 : List AJ := [.o ⟨(some 12), none, false, .load 2 true (.t 1), none⟩, .o ⟨(some 13), none, false, .call 24 [(.t 12)], none⟩, .o ⟨(some 14), none, false, .call 23 [(.t 13)], none⟩, .o ⟨(some 4), none, false, .mv (.t 14), (some [1, 4])⟩]
abbrev k6_o6 : List AJ := [.o ⟨(some 15), none, false, .load 2 true (.t 1), none⟩, .o ⟨(some 16), none, false, .call 24 [(.t 15)], none⟩, .v 5 2 (.agg [.nilsl, .nilsl]) [] (.t 16) (some [1, 4, 5])]
abbrev k6_o7 : List AJ := [.o ⟨(some 17), none, false, .load 2 true (.t 5), none⟩, .o ⟨(some 18), none, false, .call 25 [(.t 17)], none⟩, .o ⟨(some 6), none, false, .mv (.t 18), (some [1, 4, 5, 6])⟩]
abbrev k6_o8 : List AJ := [.o ⟨(some 19), none, false, .mv (.t 6), none⟩, .o ⟨(some 20), none, false, .mv (.t 4), none⟩, .o ⟨(some 21), none, false, .bin .neq (.t 19) (.t 20), (some [1, 5, 21])⟩]
abbrev k6_o9 : List AJ := [.o ⟨(some 2), none, false, .mv (.c (.bool false)), (some [2])⟩]
def k6_13 : ACode := .seq (.region k6_o9) .ret
def k6_14 : ACode := .cond (.t 21) k6_13 .skip
def k6_15 : ACode := .seq (.region k6_o8) k6_14
abbrev k6_o10 : List AI := [⟨(some 22), none, false, .load 2 true (.t 5), none⟩, ⟨(some 23), none, false, .load 2 true (.t 1), none⟩, ⟨(some 24), none, false, .call 24 [(.t 23)], none⟩, ⟨(some 25), none, false, .call 26 [(.t 22), (.t 24)], none⟩, ⟨(some 26), none, false, .un .not (.t 25), (some [26])⟩]
abbrev k6_o11 : List AJ := [.o ⟨(some 2), none, false, .mv (.c (.bool false)), (some [2])⟩]
def k6_18 : ACode := .seq (.region k6_o11) .ret
def k6_19 : ACode := .cond (.t 26) k6_18 .skip
def k6_20 : ACode := .seq (.draw k6_o10 [] rfl) k6_19
abbrev k6_o12 : List AJ := [.o ⟨(some 2), none, false, .mv (.c (.bool true)), (some [2])⟩]
def k6_22 : ACode := .seq (.region k6_o12) .ret
def k6_23 : ACode := .seq k6_20 k6_22
def k6_24 : ACode := .seq k6_15 k6_23
def k6_25 : ACode := .seq (.region k6_o7) k6_24
def k6_26 : ACode := .seq (.region k6_o6) k6_25
def k6_27 : ACode := .seq (.region k6_o5) k6_26
def k6_28 : ACode := .seq k6_7 k6_27
def k6_29 : ACode := .seq (.region k6_o2) k6_28
def k6_30 : ACode := .seq (.region k6_o1) k6_29
def k6_31 : ACode := .seq (.region k6_o0) k6_30
@[simp, simp ↓] theorem k6_5r : sR k6_5 k6_o4 .ret := yR rfl
@[simp, simp ↓] theorem k6_6r : rC k6_6 (.t 11) k6_5 .skip := zC rfl
@[simp, simp ↓] theorem k6_7r : sR k6_7 k6_o3 k6_6 := yR rfl
@[simp, simp ↓] theorem k6_13r : sR k6_13 k6_o9 .ret := yR rfl
@[simp, simp ↓] theorem k6_14r : rC k6_14 (.t 21) k6_13 .skip := zC rfl
@[simp, simp ↓] theorem k6_15r : sR k6_15 k6_o8 k6_14 := yR rfl
@[simp, simp ↓] theorem k6_18r : sR k6_18 k6_o11 .ret := yR rfl
@[simp, simp ↓] theorem k6_19r : rC k6_19 (.t 26) k6_18 .skip := zC rfl
@[simp, simp ↓] theorem k6_20r : sD k6_20 k6_o10 [] k6_19 := yD rfl
@[simp, simp ↓] theorem k6_22r : sR k6_22 k6_o12 .ret := yR rfl
@[simp, simp ↓] theorem k6_23r : rS k6_23 k6_20 k6_22 := zS rfl
@[simp, simp ↓] theorem k6_24r : rS k6_24 k6_15 k6_23 := zS rfl
@[simp, simp ↓] theorem k6_25r : sR k6_25 k6_o7 k6_24 := yR rfl
@[simp, simp ↓] theorem k6_26r : sR k6_26 k6_o6 k6_25 := yR rfl
@[simp, simp ↓] theorem k6_27r : sR k6_27 k6_o5 k6_26 := yR rfl
@[simp, simp ↓] theorem k6_28r : rS k6_28 k6_7 k6_27 := zS rfl
@[simp, simp ↓] theorem k6_29r : sR k6_29 k6_o2 k6_28 := yR rfl
@[simp, simp ↓] theorem k6_30r : sR k6_30 k6_o1 k6_29 := yR rfl
@[simp, simp ↓] theorem k6_31r : sR k6_31 k6_o0 k6_30 := yR rfl
noncomputable abbrev k6_C : Orc → Cx := mkC Tryd.prog [5] 6 27 [.tmp 2]
theorem k6_of : OfP Tryd.prog Tryd.f6 6 27 k6_C k6_31 := @ofP _ _ _ _ _ _ _ _ Tryd.func6 (by decide +kernel) rfl (by kernel_rfl) rfl (by kernel_rfl)
theorem k6_of0 : OfP0 Tryd.prog Tryd.f6 6 27 k6_C k6_31 := @ofP0 _ _ _ _ _ _ _ _ Tryd.func6 (by decide +kernel) rfl (by kernel_rfl) rfl (by kernel_rfl)
theorem ft_law (x : Fil) (hx : x.wf) : ACalls Tryd.prog 6 [x.av] [] (fun v h' => v = .bool true ∧ h' = []) := by
  refine k6_of rfl orcFsL_p fun I => ?_
  have hx2_x := hx
  refine Run2.of I 1000 ?_
  by_cases kx : (x.tot : Int) ≤ (1048576 : Int)
  · have hAx : ¬ (1048576 : Int) < x.tot := by omega
    have hBx : ¬ (1048576 : Int) - x.tot < 0 := by omega
    have hCx : (0 : Int) ≤ (1048576 : Int) - x.tot := by omega
    have lx : x.tot ≤ 1048576 := by omega
    have hDx : (1048576 : Int) - x.tot ≤ 1048576 := by omega
    simp -implicitDefEqProofs [hx2_x, hAx, hBx, hCx, hDx, kx]
    first | refine dcallK (toFil_c x _ lx) ?_ | (refine (toFil_c x _ lx).mono ?_; rintro v h' ⟨rfl, rfl⟩; refine gK.go ?_)
    simp -implicitDefEqProofs
    first | refine dcallK (specFT_c x _ lx) ?_ | (refine (specFT_c x _ lx).mono ?_; rintro v h' ⟨rfl, rfl⟩; refine gK.go ?_)
    simp -implicitDefEqProofs
    refine (toFil_o x _ lx).monoN ?_
    rintro v0 h' ⟨g0, o0, d0, rfl⟩ n0
    obtain ⟨pu0, pw0, pa0, pb0, rfl, pou0, pow0, phd0, phe0⟩ := id o0
    have c0 := pou0.cell
    have c0_1 := pow0.cell
    refine gK.go ?_
    simp -implicitDefEqProofs [c0, c0_1]
    simp only [List.append_nil] at n0
    skip
    have L0 := o0.lentMid (A := []) (B := []) (by simpa only [List.nil_append, List.append_nil, List.append_assoc] using n0)
    simp only [List.nil_append, List.append_nil, List.append_assoc] at L0
    first | refine dcallK (ACalls.reads g0 (fun p hp => hp) (v0 := .str (x.txt)) ?_ rfl) ?_ | (refine (ACalls.reads g0 (fun p hp => hp) (v0 := .str (x.txt)) ?_ rfl).mono ?_)
    · rw [lend_cons, lend_nil']
      exact ACalls.wk (.cons L0.wk .nil) (implFT_c x [] lx)
    try (rintro v h' ⟨rfl, rfl⟩; refine gK.go ?_)
    simp -implicitDefEqProofs [c0, c0_1]
    first | refine dcallK (toFil_c x _ lx) ?_ | (refine (toFil_c x _ lx).mono ?_; rintro v h' ⟨rfl, rfl⟩; refine gK.go ?_)
    simp -implicitDefEqProofs [c0, c0_1]
    first | refine dcallK (eqFil_own o0 x.is (fun p hp => hp) lx) ?_ | (refine (eqFil_own o0 x.is (fun p hp => hp) lx).mono ?_; rintro v h' ⟨rfl, rfl⟩; refine gK.go ?_)
    simp -implicitDefEqProofs [c0, c0_1]
    exact Post.none ⟨rfl, rfl⟩
  · have hAx : (1048576 : Int) < x.tot := by omega
    simp -implicitDefEqProofs [hx2_x, hAx]
    exact .base ⟨rfl, rfl⟩
end Go.AG
namespace Go.Proofs.YtnbllllkaohfoaaDoor
open Go.ChangeShapes Go.WideShapes Go.ChangeAt Go.RowKit Go.AG
theorem own : ownKnob Tryd.prog.godebug = none := by kernel_rfl
theorem laidOut : laidOutB Tryd.prog = true := by kernel_rfl
theorem door_met (os : Os) (args : Array Value) : laidMetH Tryd.prog Rows.fnExactFiltrationTextRow.laid ((World.doorLaid Tryd.prog 400 os).forCall (fun _ _ => 0) ⟨#[], args, []⟩).memory :=
  laidMetH_of_parts3 (fuel := 8) (laidMet_of_run' 8 (by kernel_rfl) (by kernel_rfl)) (by kernel_rfl) (by kernel_rfl)
theorem fix_of {W : World} (h : laidMetH Tryd.prog Rows.fnExactFiltrationTextRow.laid W) : Fix W [] := by
  rw [MakeChecks.laidMetH_plain _ _ _ (by kernel_rfl)] at h
  have h2 : laidMet Tryd.prog (("internal/strconv.uint64pow10", Lib.tabData .u64 Lib.pow10Tab) :: Rows.fnExactFiltrationTextRow.laid.drop 3) W := h.tail.tail
  have ht := Lib.tabIs_of_head (g := 1) (t := 160) (e := 147) (n := 20) (by kernel_rfl) (by kernel_rfl) Tryd.underlying160 Tryd.underlying147 (by kernel_rfl) (by kernel_rfl) h2
  intro p hp
  obtain rfl := List.mem_singleton.1 hp
  refine ⟨by simp, ?_⟩
  unfold Lib.TabIs World.var? at ht
  rw [show Tryd.prog.globalNamed "internal/strconv.uint64pow10" = some 1 by kernel_rfl] at ht
  simp only [Option.bind_some] at ht
  split at ht
  · rename_i cs el fz e
    exact ⟨el, fz, by rw [e]; rw [Option.some.inj ht]⟩
  · cases ht
set_option maxRecDepth 100000 in
theorem fnExactFiltrationText_lifted (os : Os) (started : os.Started) (H : Type) (enc : TypeId × Value → H) :
    ReturnsInHanded {} Tryd.checked os 6 .any (fun w args => (Rows.fnExactFiltrationTextSpec.pre enc Tryd.prog Tryd.f6 [] false w args ∧ laidMetH Tryd.prog Rows.fnExactFiltrationTextRow.laid w) ∧ sizedMet enc Tryd.prog Tryd.f6 (OpenSpec.ofChange Rows.fnExactFiltrationTextSpec) false w args)
      (Rows.fnExactFiltrationTextSpec.post enc Tryd.prog Tryd.f6 false true false false) := by
  refine returnsInHanded_of_change_and (C := Tryd.checked) (X := fun w _ => laidMetH Tryd.prog Rows.fnExactFiltrationTextRow.laid w) (fun _ _ _ hh h => h.of_heap hh) own started (by kernel_rfl) Tryd.func6
    (ChangeSpec.witness_shaped (enc := enc) (C := Tryd.checked) (os := os) (X := fun w _ => laidMetH Tryd.prog Rows.fnExactFiltrationTextRow.laid w) false (World.doorLaid Tryd.prog 400 os) #[.agg #[.slice none 0 0, .slice none 0 0]] 8 rfl (World.shaped_of_RefB (by kernel_rfl) (by kernel_rfl)) (by kernel_rfl) (by kernel_rfl) (by kernel_rfl) (door_met os _)) ?_
  intro W base args ds gs before hval0 hW _ _ hL _
  have hval : ∀ (j : Nat) t v, Tryd.f6.params[j]? = some t → args[j]? = some v → Value.okWide Tryd.prog W .any base t v := hval0
  refine law_post (tys := [tyF]) (tb := 4) laidOut rfl (by kernel_rfl) (by kernel_rfl) (by kernel_rfl) (by kernel_rfl) hval hW ?_ ?_ (fix_of hL)
  · intro ds h
    match ds, h with
    | [a0], _ => rfl
  · rintro xs ⟨x0, r0, rfl, h0, hr⟩
    have hr0 : r0 = [] := hr
    subst hr0
    obtain ⟨p0, rfl, q0⟩ := Fil_of_shape h0
    exact ft_law p0 q0
theorem fnExactFiltrationText_row : Rows.FnExactFiltrationTextSaid :=
  OpenClaim.holds_of_wide 6 Tryd.f6 rfl rfl rfl rfl rfl rfl rfl ⟨rfl, rfl, rfl, rfl, rfl⟩ rfl rfl rfl rfl rfl (by kernel_rfl) Tryd.func6 (by kernel_rfl)
    (of_decide_eq_true (by kernel_rfl)) (by unfold Func.isWrapper; first | (rw [if_pos (by decide +kernel)]; kernel_rfl) | (rw [if_neg (by decide +kernel)]; exact ⟨rfl, rfl⟩))
    (fun os started H enc _ => fnExactFiltrationText_lifted os started H enc)
theorem fnExactFiltrationText_holds : Rows.FnExactFiltrationTextCardSaid :=
  Claim7.holds_tied_plain_at .later [] [.data, .data, .data] true (true, "a1d33aee8b531a4f8af15697465241e6ebd90f373fd34e139fee28588575376a") false
    fnExactFiltrationText_row (fun _ h => by cases h) (by kernel_rfl) (fun _ h => by cases h) fnExactFiltrationText_row_tie rfl ⟨rfl, rfl⟩ (by kernel_rfl) rfl
    (fun f fn hf hfn => by
      obtain rfl : f = 6 := Option.some.inj ((show Tryd.prog.funcNamed "loop.example/g01005/laws.FnExactFiltrationText" = some 6 by kernel_rfl).symm.trans hf) |>.symm
      obtain rfl : fn = Tryd.f6 := (Option.some.inj (Tryd.func6.symm.trans hfn)).symm
      exact ⟨by kernel_rfl, fun j t ht => by
        have hm : t ∈ Tryd.f6.params.toList := by simpa using Array.mem_of_getElem? ht
        have hall : (Tryd.f6.params.toList.all fun u => !Tryd.prog.wantsStandIn u) = true := by kernel_rfl
        exact (show Tryd.prog.wantsStandIn t = false by simpa using List.all_eq_true.1 hall t hm)⟩)
    (by kernel_rfl)
end Go.Proofs.YtnbllllkaohfoaaDoor
