/- The law FnExactBarsText is true for every input: the program's BarsText returns what the reference's returns. The listed package-level variables (tables of the library) read as the program's text lays them. -/
import Derived.Test.YtnbllllkaohfoaaDoorBsT
import Derived.Test.YtnbllllkaohfoaaDoorCards
import Derived.Test.YtnbllllkaohfoaaDoorTie
import Derived.ProofKit
import Derived.LaidMore
import Derived.OpenShut
import Derived.Stop.Joined
import Derived.Stop.LaidErr
namespace Go.AG.B
open Go.Proofs Go.Proofs.YtnbllllkaohfoaaDoor
set_option linter.unusedSimpArgs false
set_option linter.unusedVariables false
set_option maxRecDepth 4000
noncomputable def orcBsL : List (Nat × (List AV → Option (Prop × AV))) := (12, o_szBarS) :: []
theorem orcBsL_p : Pure Tryd.prog (lk orcBsL) := (lk_pure o_szBarS_k lk_pure0)
@[simp] theorem orcBsL_l (b : Bool) (g : FuncId) (l : List AV) : lk orcBsL b g l = if g = 12 then o_szBarS l else none := nr rfl
abbrev k4_o0 : List AJ := [.o ⟨(some 2), none, false, .mv (.c (.bool false)), (some [0])⟩]
abbrev k4_o1 : List AJ := [.o ⟨(some 3), none, false, .mv (.c (.int .i64 1048576)), (some [0, 3])⟩]
abbrev k4_o2 : List AJ := [.o ⟨(some 7), none, false, .mv (.t 0), none⟩, .o ⟨(some 8), none, false, .mv (.t 3), none⟩, .o ⟨(some 9), none, false, .call 12 [(.t 7), (.t 8)], none⟩, .o ⟨(some 3), none, false, .mv (.t 9), (some [0, 3])⟩]
abbrev k4_o3 : List AJ := [.o ⟨(some 10), none, false, .mv (.t 3), none⟩, .o ⟨(some 11), none, false, .bin .lss (.t 10) (.c (.int .i64 0)), (some [0, 11])⟩]
abbrev k4_o4 : List AJ := [.o ⟨(some 2), none, false, .mv (.c (.bool true)), (some [2])⟩]
def k4_5 : ACode := .seq (.region k4_o4) .ret
def k4_6 : ACode := .cond (.t 11) k4_5 .skip
def k4_7 : ACode := .seq (.region k4_o3) k4_6
abbrev k4_o5 : List AJ := [.o ⟨(some 12), none, false, .mv (.t 0), none⟩, .o ⟨(some 13), none, false, .call 14 [(.t 12)], none⟩, .o ⟨(some 14), none, false, .call 13 [(.t 13)], none⟩, .o ⟨(some 4), none, false, .mv (.t 14), (some [0, 4])⟩]
abbrev k4_o6 : List AJ := [.o ⟨(some 15), none, false, .mv (.t 0), none⟩, .o ⟨(some 16), none, false, .call 14 [(.t 15)], none⟩, .o ⟨(some 5), none, false, .mv (.t 16), (some [0, 4, 5])⟩]
abbrev k4_o7 : List AJ := [.o ⟨(some 17), none, false, .mv (.t 5), none⟩, .o ⟨(some 18), none, false, .call 15 [(.t 17)], none⟩, .o ⟨(some 6), none, false, .mv (.t 18), (some [0, 4, 5, 6])⟩]
abbrev k4_o8 : List AJ := [.o ⟨(some 19), none, false, .mv (.t 6), none⟩, .o ⟨(some 20), none, false, .mv (.t 4), none⟩, .o ⟨(some 21), none, false, .bin .neq (.t 19) (.t 20), (some [0, 5, 21])⟩]
abbrev k4_o9 : List AJ := [.o ⟨(some 2), none, false, .mv (.c (.bool false)), (some [2])⟩]
def k4_13 : ACode := .seq (.region k4_o9) .ret
def k4_14 : ACode := .cond (.t 21) k4_13 .skip
def k4_15 : ACode := .seq (.region k4_o8) k4_14
abbrev k4_o10 : List AJ := [.o ⟨(some 22), none, false, .mv (.t 5), none⟩, .o ⟨(some 23), none, false, .mv (.t 0), none⟩, .o ⟨(some 24), none, false, .call 14 [(.t 23)], none⟩, .o ⟨(some 25), none, false, .call 16 [(.t 22), (.t 24)], none⟩, .o ⟨(some 26), none, false, .un .not (.t 25), (some [26])⟩]
abbrev k4_o11 : List AJ := [.o ⟨(some 2), none, false, .mv (.c (.bool false)), (some [2])⟩]
def k4_18 : ACode := .seq (.region k4_o11) .ret
def k4_19 : ACode := .cond (.t 26) k4_18 .skip
def k4_20 : ACode := .seq (.region k4_o10) k4_19
abbrev k4_o12 : List AJ := [.o ⟨(some 2), none, false, .mv (.c (.bool true)), (some [2])⟩]
def k4_22 : ACode := .seq (.region k4_o12) .ret
def k4_23 : ACode := .seq k4_20 k4_22
def k4_24 : ACode := .seq k4_15 k4_23
def k4_25 : ACode := .seq (.region k4_o7) k4_24
def k4_26 : ACode := .seq (.region k4_o6) k4_25
def k4_27 : ACode := .seq (.region k4_o5) k4_26
def k4_28 : ACode := .seq k4_7 k4_27
def k4_29 : ACode := .seq (.region k4_o2) k4_28
def k4_30 : ACode := .seq (.region k4_o1) k4_29
def k4_31 : ACode := .seq (.region k4_o0) k4_30
@[simp, simp ↓] theorem k4_5r : sR k4_5 k4_o4 .ret := yR rfl
@[simp, simp ↓] theorem k4_6r : rC k4_6 (.t 11) k4_5 .skip := zC rfl
@[simp, simp ↓] theorem k4_7r : sR k4_7 k4_o3 k4_6 := yR rfl
@[simp, simp ↓] theorem k4_13r : sR k4_13 k4_o9 .ret := yR rfl
@[simp, simp ↓] theorem k4_14r : rC k4_14 (.t 21) k4_13 .skip := zC rfl
@[simp, simp ↓] theorem k4_15r : sR k4_15 k4_o8 k4_14 := yR rfl
@[simp, simp ↓] theorem k4_18r : sR k4_18 k4_o11 .ret := yR rfl
@[simp, simp ↓] theorem k4_19r : rC k4_19 (.t 26) k4_18 .skip := zC rfl
@[simp, simp ↓] theorem k4_20r : sR k4_20 k4_o10 k4_19 := yR rfl
@[simp, simp ↓] theorem k4_22r : sR k4_22 k4_o12 .ret := yR rfl
@[simp, simp ↓] theorem k4_23r : rS k4_23 k4_20 k4_22 := zS rfl
@[simp, simp ↓] theorem k4_24r : rS k4_24 k4_15 k4_23 := zS rfl
@[simp, simp ↓] theorem k4_25r : sR k4_25 k4_o7 k4_24 := yR rfl
@[simp, simp ↓] theorem k4_26r : sR k4_26 k4_o6 k4_25 := yR rfl
@[simp, simp ↓] theorem k4_27r : sR k4_27 k4_o5 k4_26 := yR rfl
@[simp, simp ↓] theorem k4_28r : rS k4_28 k4_7 k4_27 := zS rfl
@[simp, simp ↓] theorem k4_29r : sR k4_29 k4_o2 k4_28 := yR rfl
@[simp, simp ↓] theorem k4_30r : sR k4_30 k4_o1 k4_29 := yR rfl
@[simp, simp ↓] theorem k4_31r : sR k4_31 k4_o0 k4_30 := yR rfl
noncomputable abbrev k4_C : Orc → Cx := mkC Tryd.prog [] 4 27 [.tmp 2]
theorem k4_of : OfP Tryd.prog Tryd.f4 4 27 k4_C k4_31 := @ofP _ _ _ _ _ _ _ _ Tryd.func4 (by decide +kernel) rfl (by kernel_rfl) rfl (by kernel_rfl)
theorem k4_of0 : OfP0 Tryd.prog Tryd.f4 4 27 k4_C k4_31 := @ofP0 _ _ _ _ _ _ _ _ Tryd.func4 (by decide +kernel) rfl (by kernel_rfl) rfl (by kernel_rfl)
theorem bt_law (x : List T) (hx : wfB x) : ACalls Tryd.prog 4 [(.snap 3 (x.map T.av))] [] (fun v h' => v = .bool true ∧ h' = []) := by
  refine k4_of rfl orcBsL_p fun I => ?_
  have hx2_x := hx.2
  refine Run2.of I 1000 ?_
  by_cases kx : (x.length : Int) ≤ (1048576 : Int)
  · have hAx : ¬ (1048576 : Int) < x.length := by omega
    have hBx : ¬ (1048576 : Int) - x.length < 0 := by omega
    have hCx : (0 : Int) ≤ (1048576 : Int) - x.length := by omega
    have lx : x.length ≤ 1048576 := by omega
    have hDx : (1048576 : Int) - x.length ≤ 1048576 := by omega
    simp -implicitDefEqProofs [hx2_x, hAx, hBx, hCx, hDx, kx]
    first | refine dcallK (toBarS_c x _ lx) ?_ | (refine (toBarS_c x _ lx).mono ?_; rintro v h' ⟨rfl, rfl⟩; refine gK.go ?_)
    simp -implicitDefEqProofs
    first | refine dcallK (specBT_c x _ lx hx.1) ?_ | (refine (specBT_c x _ lx hx.1).mono ?_; rintro v h' ⟨rfl, rfl⟩; refine gK.go ?_)
    simp -implicitDefEqProofs
    refine (toBarS_o x _ lx).monoN ?_
    rintro v0 h' ⟨g0, o0, d0, rfl⟩ n0
    refine gK.go ?_
    simp -implicitDefEqProofs
    simp only [List.append_nil] at n0
    skip
    have L0 := o0.lentIn T.cold (L := g0) (fun p hp => hp) n0
    first | refine dcallK (ACalls.reads g0 (fun p hp => hp) (v0 := .str (bsT x)) ?_ rfl) ?_ | (refine (ACalls.reads g0 (fun p hp => hp) (v0 := .str (bsT x)) ?_ rfl).mono ?_)
    · rw [lend_cons, lend_nil']
      exact ACalls.wk (.cons L0.wk .nil) (implBT_c x [] lx hx.1)
    try (rintro v h' ⟨rfl, rfl⟩; refine gK.go ?_)
    simp -implicitDefEqProofs
    first | refine dcallK (toBarS_c x _ lx) ?_ | (refine (toBarS_c x _ lx).mono ?_; rintro v h' ⟨rfl, rfl⟩; refine gK.go ?_)
    simp -implicitDefEqProofs
    first | refine dcallK (eqB_own o0 (.snap x) (fun p hp => hp) lx) ?_ | (refine (eqB_own o0 (.snap x) (fun p hp => hp) lx).mono ?_; rintro v h' ⟨rfl, rfl⟩; refine gK.go ?_)
    simp -implicitDefEqProofs
    exact Post.none ⟨rfl, rfl⟩
  · have hAx : (1048576 : Int) < x.length := by omega
    simp -implicitDefEqProofs [hx2_x, hAx]
    exact .base ⟨rfl, rfl⟩
end Go.AG.B
namespace Go.Proofs.YtnbllllkaohfoaaDoor
open Go.ChangeShapes Go.WideShapes Go.ChangeAt Go.RowKit Go.AG Go.AG.B
theorem own : ownKnob Tryd.prog.godebug = none := by kernel_rfl
theorem laidOut : laidOutB Tryd.prog = true := by kernel_rfl
theorem door_met (os : Os) (args : Array Value) : laidMetH Tryd.prog Rows.fnExactBarsTextRow.laid ((World.doorLaid Tryd.prog 400 os).forCall (fun _ _ => 0) ⟨#[], args, []⟩).memory :=
  laidMetH_of_parts3 (fuel := 8) (laidMet_of_run' 8 (by kernel_rfl) (by kernel_rfl)) (by kernel_rfl) (by kernel_rfl)
theorem fix_of {W : World} (h : laidMetH Tryd.prog Rows.fnExactBarsTextRow.laid W) : Fix W [] := by
  rw [MakeChecks.laidMetH_plain _ _ _ (by kernel_rfl)] at h
  have h2 : laidMet Tryd.prog (("internal/strconv.uint64pow10", Lib.tabData .u64 Lib.pow10Tab) :: Rows.fnExactBarsTextRow.laid.drop 3) W := h.tail.tail
  have ht := Lib.tabIs_of_head (g := 1) (t := 160) (e := 147) (n := 20) (by kernel_rfl) (by kernel_rfl) Tryd.underlying160 Tryd.underlying147 (by kernel_rfl) (by kernel_rfl) h2
  intro p hp
  obtain rfl := List.mem_singleton.1 hp
  refine ⟨by simp, ?_⟩
  unfold Lib.TabIs World.var? at ht
  rw [show Tryd.prog.globalNamed "internal/strconv.uint64pow10" = some 1 by kernel_rfl] at ht
  simp only [Option.bind_some] at ht
  split at ht
  · rename_i cs el fz e
    exact ⟨el, fz, by rw [e]; rw [Option.some.inj ht]⟩
  · cases ht
set_option maxRecDepth 100000 in
theorem fnExactBarsText_lifted (os : Os) (started : os.Started) (H : Type) (enc : TypeId × Value → H) :
    ReturnsInHanded {} Tryd.checked os 4 .any (fun w args => (Rows.fnExactBarsTextSpec.pre enc Tryd.prog Tryd.f4 [] false w args ∧ laidMetH Tryd.prog Rows.fnExactBarsTextRow.laid w) ∧ sizedMet enc Tryd.prog Tryd.f4 (OpenSpec.ofChange Rows.fnExactBarsTextSpec) false w args)
      (Rows.fnExactBarsTextSpec.post enc Tryd.prog Tryd.f4 false true false false) := by
  refine returnsInHanded_of_change_and (C := Tryd.checked) (X := fun w _ => laidMetH Tryd.prog Rows.fnExactBarsTextRow.laid w) (fun _ _ _ hh h => h.of_heap hh) own started (by kernel_rfl) Tryd.func4
    (ChangeSpec.witness_shaped (enc := enc) (C := Tryd.checked) (os := os) (X := fun w _ => laidMetH Tryd.prog Rows.fnExactBarsTextRow.laid w) false (World.doorLaid Tryd.prog 400 os) #[.slice none 0 0] 8 rfl (World.shaped_of_RefB (by kernel_rfl) (by kernel_rfl)) (by kernel_rfl) (by kernel_rfl) (by kernel_rfl) (door_met os _)) ?_
  intro W base args ds gs before hval0 hW _ _ hL _
  have hval : ∀ (j : Nat) t v, Tryd.f4.params[j]? = some t → args[j]? = some v → Value.okWide Tryd.prog W .any base t v := hval0
  refine law_post (tys := [tyB]) (tb := 4) laidOut rfl (by kernel_rfl) (by kernel_rfl) (by kernel_rfl) (by kernel_rfl) hval hW ?_ ?_ (fix_of hL)
  · intro ds h
    match ds, h with
    | [a0], _ => rfl
  · rintro xs ⟨x0, r0, rfl, h0, hr⟩
    have hr0 : r0 = [] := hr
    subst hr0
    obtain ⟨p0, rfl, q0⟩ := Bars_of_shape h0
    exact bt_law p0 q0
theorem fnExactBarsText_row : Rows.FnExactBarsTextSaid :=
  OpenClaim.holds_of_wide 4 Tryd.f4 rfl rfl rfl rfl rfl rfl rfl ⟨rfl, rfl, rfl, rfl, rfl⟩ rfl rfl rfl rfl rfl (by kernel_rfl) Tryd.func4 (by kernel_rfl)
    (of_decide_eq_true (by kernel_rfl)) (by unfold Func.isWrapper; first | (rw [if_pos (by decide +kernel)]; kernel_rfl) | (rw [if_neg (by decide +kernel)]; exact ⟨rfl, rfl⟩))
    (fun os started H enc _ => fnExactBarsText_lifted os started H enc)
theorem fnExactBarsText_holds : Rows.FnExactBarsTextCardSaid :=
  Claim7.holds_tied_plain_at .later [] [.data, .data, .data] true (true, "a1d33aee8b531a4f8af15697465241e6ebd90f373fd34e139fee28588575376a") false
    fnExactBarsText_row (fun _ h => by cases h) (by kernel_rfl) (fun _ h => by cases h) fnExactBarsText_row_tie rfl ⟨rfl, rfl⟩ (by kernel_rfl) rfl
    (fun f fn hf hfn => by
      obtain rfl : f = 4 := Option.some.inj ((show Tryd.prog.funcNamed "loop.example/g01005/laws.FnExactBarsText" = some 4 by kernel_rfl).symm.trans hf) |>.symm
      obtain rfl : fn = Tryd.f4 := (Option.some.inj (Tryd.func4.symm.trans hfn)).symm
      exact ⟨by kernel_rfl, fun j t ht => by
        have hm : t ∈ Tryd.f4.params.toList := by simpa using Array.mem_of_getElem? ht
        have hall : (Tryd.f4.params.toList.all fun u => !Tryd.prog.wantsStandIn u) = true := by kernel_rfl
        exact (show Tryd.prog.wantsStandIn t = false by simpa using List.all_eq_true.1 hall t hm)⟩)
    (by kernel_rfl)
end Go.Proofs.YtnbllllkaohfoaaDoor
