/- The law FnExactRoundsText is true for every input: the program's RoundsText returns what the reference's returns. The listed package-level variables (tables of the library) read as the program's text lays them. -/
import Derived.Test.YtnbllllkaohfoaaDoorStR
import Derived.Test.YtnbllllkaohfoaaDoorISSM
import Derived.Test.YtnbllllkaohfoaaDoorCards
import Derived.Test.YtnbllllkaohfoaaDoorTie
import Derived.ProofKit
import Derived.LaidMore
import Derived.OpenShut
import Derived.Stop.Joined
import Derived.Stop.LaidErr
namespace Go.AG
open Go.Proofs Go.Proofs.YtnbllllkaohfoaaDoor
set_option linter.unusedSimpArgs false
set_option linter.unusedVariables false
set_option maxRecDepth 4000
noncomputable def orcM : List (Nat × (List AV → Option (Prop × AV))) := (7, o_szInt64SS) :: []
theorem orcM_p : Pure Tryd.prog (lk orcM) := (lk_pure o_szInt64SS_k lk_pure0)
@[simp] theorem orcM_l (b : Bool) (g : FuncId) (l : List AV) : lk orcM b g l = if g = 7 then o_szInt64SS l else none := nr rfl
abbrev k3_o0 : List AJ := [.o ⟨(some 2), none, false, .mv (.c (.bool false)), (some [0])⟩]
abbrev k3_o1 : List AJ := [.o ⟨(some 3), none, false, .mv (.c (.int .i64 1048576)), (some [0, 3])⟩]
abbrev k3_o2 : List AJ := [.o ⟨(some 7), none, false, .mv (.t 0), none⟩, .o ⟨(some 8), none, false, .mv (.t 3), none⟩, .o ⟨(some 9), none, false, .call 7 [(.t 7), (.t 8)], none⟩, .o ⟨(some 3), none, false, .mv (.t 9), (some [0, 3])⟩]
abbrev k3_o3 : List AJ := [.o ⟨(some 10), none, false, .mv (.t 3), none⟩, .o ⟨(some 11), none, false, .bin .lss (.t 10) (.c (.int .i64 0)), (some [0, 11])⟩]
abbrev k3_o4 : List AJ := [.o ⟨(some 2), none, false, .mv (.c (.bool true)), (some [2])⟩]
def k3_5 : ACode := .seq (.region k3_o4) .ret
def k3_6 : ACode := .cond (.t 11) k3_5 .skip
def k3_7 : ACode := .seq (.region k3_o3) k3_6
abbrev k3_o5 : List AJ := [.o ⟨(some 12), none, false, .mv (.t 0), none⟩, .o ⟨(some 13), none, false, .call 9 [(.t 12)], none⟩, .o ⟨(some 14), none, false, .call 8 [(.t 13)], none⟩, .o ⟨(some 4), none, false, .mv (.t 14), (some [0, 4])⟩]
abbrev k3_o6 : List AJ := [.o ⟨(some 15), none, false, .mv (.t 0), none⟩, .o ⟨(some 16), none, false, .call 9 [(.t 15)], none⟩, .o ⟨(some 5), none, false, .mv (.t 16), (some [0, 4, 5])⟩]
abbrev k3_o7 : List AJ := [.o ⟨(some 17), none, false, .mv (.t 5), none⟩, .o ⟨(some 18), none, false, .call 10 [(.t 17)], none⟩, .o ⟨(some 6), none, false, .mv (.t 18), (some [0, 4, 5, 6])⟩]
abbrev k3_o8 : List AJ := [.o ⟨(some 19), none, false, .mv (.t 6), none⟩, .o ⟨(some 20), none, false, .mv (.t 4), none⟩, .o ⟨(some 21), none, false, .bin .neq (.t 19) (.t 20), (some [0, 5, 21])⟩]
abbrev k3_o9 : List AJ := [.o ⟨(some 2), none, false, .mv (.c (.bool false)), (some [2])⟩]
def k3_13 : ACode := .seq (.region k3_o9) .ret
def k3_14 : ACode := .cond (.t 21) k3_13 .skip
def k3_15 : ACode := .seq (.region k3_o8) k3_14
abbrev k3_o10 : List AJ := [.o ⟨(some 22), none, false, .mv (.t 5), none⟩, .o ⟨(some 23), none, false, .mv (.t 0), none⟩, .o ⟨(some 24), none, false, .call 9 [(.t 23)], none⟩, .o ⟨(some 25), none, false, .call 11 [(.t 22), (.t 24)], none⟩, .o ⟨(some 26), none, false, .un .not (.t 25), (some [26])⟩]
abbrev k3_o11 : List AJ := [.o ⟨(some 2), none, false, .mv (.c (.bool false)), (some [2])⟩]
def k3_18 : ACode := .seq (.region k3_o11) .ret
def k3_19 : ACode := .cond (.t 26) k3_18 .skip
def k3_20 : ACode := .seq (.region k3_o10) k3_19
abbrev k3_o12 : List AJ := [.o ⟨(some 2), none, false, .mv (.c (.bool true)), (some [2])⟩]
def k3_22 : ACode := .seq (.region k3_o12) .ret
def k3_23 : ACode := .seq k3_20 k3_22
def k3_24 : ACode := .seq k3_15 k3_23
def k3_25 : ACode := .seq (.region k3_o7) k3_24
def k3_26 : ACode := .seq (.region k3_o6) k3_25
def k3_27 : ACode := .seq (.region k3_o5) k3_26
def k3_28 : ACode := .seq k3_7 k3_27
def k3_29 : ACode := .seq (.region k3_o2) k3_28
def k3_30 : ACode := .seq (.region k3_o1) k3_29
def k3_31 : ACode := .seq (.region k3_o0) k3_30
@[simp, simp ↓] theorem k3_5r : sR k3_5 k3_o4 .ret := yR rfl
@[simp, simp ↓] theorem k3_6r : rC k3_6 (.t 11) k3_5 .skip := zC rfl
@[simp, simp ↓] theorem k3_7r : sR k3_7 k3_o3 k3_6 := yR rfl
@[simp, simp ↓] theorem k3_13r : sR k3_13 k3_o9 .ret := yR rfl
@[simp, simp ↓] theorem k3_14r : rC k3_14 (.t 21) k3_13 .skip := zC rfl
@[simp, simp ↓] theorem k3_15r : sR k3_15 k3_o8 k3_14 := yR rfl
@[simp, simp ↓] theorem k3_18r : sR k3_18 k3_o11 .ret := yR rfl
@[simp, simp ↓] theorem k3_19r : rC k3_19 (.t 26) k3_18 .skip := zC rfl
@[simp, simp ↓] theorem k3_20r : sR k3_20 k3_o10 k3_19 := yR rfl
@[simp, simp ↓] theorem k3_22r : sR k3_22 k3_o12 .ret := yR rfl
@[simp, simp ↓] theorem k3_23r : rS k3_23 k3_20 k3_22 := zS rfl
@[simp, simp ↓] theorem k3_24r : rS k3_24 k3_15 k3_23 := zS rfl
@[simp, simp ↓] theorem k3_25r : sR k3_25 k3_o7 k3_24 := yR rfl
@[simp, simp ↓] theorem k3_26r : sR k3_26 k3_o6 k3_25 := yR rfl
@[simp, simp ↓] theorem k3_27r : sR k3_27 k3_o5 k3_26 := yR rfl
@[simp, simp ↓] theorem k3_28r : rS k3_28 k3_7 k3_27 := zS rfl
@[simp, simp ↓] theorem k3_29r : sR k3_29 k3_o2 k3_28 := yR rfl
@[simp, simp ↓] theorem k3_30r : sR k3_30 k3_o1 k3_29 := yR rfl
@[simp, simp ↓] theorem k3_31r : sR k3_31 k3_o0 k3_30 := yR rfl
noncomputable abbrev k3_C : Orc → Cx := mkC Tryd.prog [] 3 27 [.tmp 2]
theorem k3_of : OfP Tryd.prog Tryd.f3 3 27 k3_C k3_31 := @ofP _ _ _ _ _ _ _ _ Tryd.func3 (by decide +kernel) rfl (by kernel_rfl) rfl (by kernel_rfl)
theorem k3_of0 : OfP0 Tryd.prog Tryd.f3 3 27 k3_C k3_31 := @ofP0 _ _ _ _ _ _ _ _ Tryd.func3 (by decide +kernel) rfl (by kernel_rfl) rfl (by kernel_rfl)
theorem rt_law (x : LS) (hx : wfSS x) : ACalls Tryd.prog 3 [(.snap 1 (x.map il))] [] (fun v h' => v = .bool true ∧ h' = []) := by
  refine k3_of rfl orcM_p fun I => ?_
  have hx2_x := hx
  refine Run2.of I 1000 ?_
  by_cases kx : ((ssTot x) : Int) ≤ (1048576 : Int)
  · have hAx : ¬ (1048576 : Int) < (ssTot x) := by omega
    have hBx : ¬ (1048576 : Int) - (ssTot x) < 0 := by omega
    have hCx : (0 : Int) ≤ (1048576 : Int) - (ssTot x) := by omega
    have lx : (ssTot x) ≤ 1048576 := by omega
    have hDx : (1048576 : Int) - (ssTot x) ≤ 1048576 := by omega
    simp -implicitDefEqProofs [hx2_x, hAx, hBx, hCx, hDx, kx]
    first | refine dcallK (toInt64SS_t x _ lx) ?_ | (refine (toInt64SS_t x _ lx).mono ?_; rintro v h' ⟨rfl, rfl⟩; refine gK.go ?_)
    simp -implicitDefEqProofs
    first | refine dcallK (specRT_c x _ lx) ?_ | (refine (specRT_c x _ lx).mono ?_; rintro v h' ⟨rfl, rfl⟩; refine gK.go ?_)
    simp -implicitDefEqProofs
    refine (toInt64SS_n x _ lx).monoN ?_
    rintro v0 h' ⟨g0, o0, d0, rfl⟩ n0
    refine gK.go ?_
    simp -implicitDefEqProofs
    simp only [List.append_nil] at n0
    skip
    have L0 := o0.lentMid (A := []) (B := []) (by simpa only [List.nil_append, List.append_nil, List.append_assoc] using n0)
    simp only [List.nil_append, List.append_nil, List.append_assoc] at L0
    first | refine dcallK (ACalls.reads g0 (fun p hp => hp) (v0 := .str (rdT x)) ?_ rfl) ?_ | (refine (ACalls.reads g0 (fun p hp => hp) (v0 := .str (rdT x)) ?_ rfl).mono ?_)
    · rw [lend_cons, lend_nil']
      exact ACalls.wk (.cons L0.wk .nil) (implRT_c x [] lx)
    try (rintro v h' ⟨rfl, rfl⟩; refine gK.go ?_)
    simp -implicitDefEqProofs
    first | refine dcallK (toInt64SS_t x _ lx) ?_ | (refine (toInt64SS_t x _ lx).mono ?_; rintro v h' ⟨rfl, rfl⟩; refine gK.go ?_)
    simp -implicitDefEqProofs
    first | refine dcallK (eqL_own o0 (.is x) (fun p hp => hp) lx) ?_ | (refine (eqL_own o0 (.is x) (fun p hp => hp) lx).mono ?_; rintro v h' ⟨rfl, rfl⟩; refine gK.go ?_)
    simp -implicitDefEqProofs
    exact Post.none ⟨rfl, rfl⟩
  · have hAx : (1048576 : Int) < (ssTot x) := by omega
    simp -implicitDefEqProofs [hx2_x, hAx]
    exact .base ⟨rfl, rfl⟩
end Go.AG
namespace Go.Proofs.YtnbllllkaohfoaaDoor
open Go.ChangeShapes Go.WideShapes Go.ChangeAt Go.RowKit Go.AG
theorem own : ownKnob Tryd.prog.godebug = none := by kernel_rfl
theorem laidOut : laidOutB Tryd.prog = true := by kernel_rfl
theorem door_met (os : Os) (args : Array Value) : laidMetH Tryd.prog Rows.fnExactRoundsTextRow.laid ((World.doorLaid Tryd.prog 400 os).forCall (fun _ _ => 0) ⟨#[], args, []⟩).memory :=
  laidMetH_of_parts3 (fuel := 8) (laidMet_of_run' 8 (by kernel_rfl) (by kernel_rfl)) (by kernel_rfl) (by kernel_rfl)
theorem fix_of {W : World} (h : laidMetH Tryd.prog Rows.fnExactRoundsTextRow.laid W) : Fix W [] := by
  rw [MakeChecks.laidMetH_plain _ _ _ (by kernel_rfl)] at h
  have h2 : laidMet Tryd.prog (("internal/strconv.uint64pow10", Lib.tabData .u64 Lib.pow10Tab) :: Rows.fnExactRoundsTextRow.laid.drop 3) W := h.tail.tail
  have ht := Lib.tabIs_of_head (g := 1) (t := 160) (e := 147) (n := 20) (by kernel_rfl) (by kernel_rfl) Tryd.underlying160 Tryd.underlying147 (by kernel_rfl) (by kernel_rfl) h2
  intro p hp
  obtain rfl := List.mem_singleton.1 hp
  refine ⟨by simp, ?_⟩
  unfold Lib.TabIs World.var? at ht
  rw [show Tryd.prog.globalNamed "internal/strconv.uint64pow10" = some 1 by kernel_rfl] at ht
  simp only [Option.bind_some] at ht
  split at ht
  · rename_i cs el fz e
    exact ⟨el, fz, by rw [e]; rw [Option.some.inj ht]⟩
  · cases ht
set_option maxRecDepth 100000 in
theorem fnExactRoundsText_lifted (os : Os) (started : os.Started) (H : Type) (enc : TypeId × Value → H) :
    ReturnsInHanded {} Tryd.checked os 3 .any (fun w args => (Rows.fnExactRoundsTextSpec.pre enc Tryd.prog Tryd.f3 [] false w args ∧ laidMetH Tryd.prog Rows.fnExactRoundsTextRow.laid w) ∧ sizedMet enc Tryd.prog Tryd.f3 (OpenSpec.ofChange Rows.fnExactRoundsTextSpec) false w args)
      (Rows.fnExactRoundsTextSpec.post enc Tryd.prog Tryd.f3 false true false false) := by
  refine returnsInHanded_of_change_and (C := Tryd.checked) (X := fun w _ => laidMetH Tryd.prog Rows.fnExactRoundsTextRow.laid w) (fun _ _ _ hh h => h.of_heap hh) own started (by kernel_rfl) Tryd.func3
    (ChangeSpec.witness_shaped (enc := enc) (C := Tryd.checked) (os := os) (X := fun w _ => laidMetH Tryd.prog Rows.fnExactRoundsTextRow.laid w) false (World.doorLaid Tryd.prog 400 os) #[.slice none 0 0] 8 rfl (World.shaped_of_RefB (by kernel_rfl) (by kernel_rfl)) (by kernel_rfl) (by kernel_rfl) (by kernel_rfl) (door_met os _)) ?_
  intro W base args ds gs before hval0 hW _ _ hL _
  have hval : ∀ (j : Nat) t v, Tryd.f3.params[j]? = some t → args[j]? = some v → Value.okWide Tryd.prog W .any base t v := hval0
  refine law_post (tys := [tySS]) (tb := 4) laidOut rfl (by kernel_rfl) (by kernel_rfl) (by kernel_rfl) (by kernel_rfl) hval hW ?_ ?_ (fix_of hL)
  · intro ds h
    match ds, h with
    | [a0], _ => rfl
  · rintro xs ⟨x0, r0, rfl, h0, hr⟩
    have hr0 : r0 = [] := hr
    subst hr0
    obtain ⟨p0, rfl, q0⟩ := Lists_of_shape h0
    exact rt_law p0 q0
theorem fnExactRoundsText_row : Rows.FnExactRoundsTextSaid :=
  OpenClaim.holds_of_wide 3 Tryd.f3 rfl rfl rfl rfl rfl rfl rfl ⟨rfl, rfl, rfl, rfl, rfl⟩ rfl rfl rfl rfl rfl (by kernel_rfl) Tryd.func3 (by kernel_rfl)
    (of_decide_eq_true (by kernel_rfl)) (by unfold Func.isWrapper; first | (rw [if_pos (by decide +kernel)]; kernel_rfl) | (rw [if_neg (by decide +kernel)]; exact ⟨rfl, rfl⟩))
    (fun os started H enc _ => fnExactRoundsText_lifted os started H enc)
theorem fnExactRoundsText_holds : Rows.FnExactRoundsTextCardSaid :=
  Claim7.holds_tied_plain_at .later [] [.data, .data, .data] true (true, "a1d33aee8b531a4f8af15697465241e6ebd90f373fd34e139fee28588575376a") false
    fnExactRoundsText_row (fun _ h => by cases h) (by kernel_rfl) (fun _ h => by cases h) fnExactRoundsText_row_tie rfl ⟨rfl, rfl⟩ (by kernel_rfl) rfl
    (fun f fn hf hfn => by
      obtain rfl : f = 3 := Option.some.inj ((show Tryd.prog.funcNamed "loop.example/g01005/laws.FnExactRoundsText" = some 3 by kernel_rfl).symm.trans hf) |>.symm
      obtain rfl : fn = Tryd.f3 := (Option.some.inj (Tryd.func3.symm.trans hfn)).symm
      exact ⟨by kernel_rfl, fun j t ht => by
        have hm : t ∈ Tryd.f3.params.toList := by simpa using Array.mem_of_getElem? ht
        have hall : (Tryd.f3.params.toList.all fun u => !Tryd.prog.wantsStandIn u) = true := by kernel_rfl
        exact (show Tryd.prog.wantsStandIn t = false by simpa using List.all_eq_true.1 hall t hm)⟩)
    (by kernel_rfl)
end Go.Proofs.YtnbllllkaohfoaaDoor
