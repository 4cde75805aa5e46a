/- The law FnExactReadBars is true for every input: the program's ReadBars returns what the reference's returns. The listed package-level variables (tables and errors of the library) read as the program's text lays them. -/
import Derived.Test.YtiahlbbljmngnaaDoorRdBs
import Derived.Test.YtiahlbbljmngnaaDoorAGHand
import Derived.Test.YtiahlbbljmngnaaDoorCards
import Derived.Test.YtiahlbbljmngnaaDoorTie
import Derived.ProofKit
import Derived.LaidMore
import Derived.OpenShut
import Derived.Stop.Joined
import Derived.Stop.LaidErr
namespace Go.AG.B
open Go.Proofs Go.Proofs.YtiahlbbljmngnaaDoor
set_option linter.unusedSimpArgs false
set_option linter.unusedVariables false
set_option maxRecDepth 4000
theorem rbL_len (s : Txt) : (rbL s).length ≤ 24 := by
  unfold rbL
  split
  · rename_i h; exact h.1.2
  · simp
noncomputable def orcRbL : List (Nat × (List AV → Option (Prop × AV))) := (23, o_eqBar) :: []
theorem orcRbL_p : Pure Tryd.prog (lk orcRbL) := (lk_pure o_eqBar_k lk_pure0)
@[simp] theorem orcRbL_l (b : Bool) (g : FuncId) (l : List AV) : lk orcRbL b g l = if g = 23 then o_eqBar l else none := nr rfl
abbrev k3_o0 : List AJ := [.o ⟨(some 2), none, false, .mv (.c (.bool false)), (some [0])⟩]
abbrev k3_o1 : List AJ := [.o ⟨(some 11), none, false, .mv (.t 0), none⟩, .o ⟨(some 12), none, false, .slen (.t 11), none⟩, .o ⟨(some 13), none, false, .bin .gtr (.t 12) (.c (.int .i64 1048576)), (some [0, 13])⟩]
abbrev k3_o2 : List AJ := [.o ⟨(some 2), none, false, .mv (.c (.bool true)), (some [2])⟩]
def k3_3 : ACode := .seq (.region k3_o2) .ret
def k3_4 : ACode := .cond (.t 13) k3_3 .skip
def k3_5 : ACode := .seq (.region k3_o1) k3_4
abbrev k3_o3 : List AJ := [.o ⟨(some 15), none, false, .mv (.t 0), none⟩, .o ⟨(some 16), none, false, .call 5 [(.t 15)], none⟩, .o ⟨(some 14), none, false, .mv (.t 16), none⟩, .o ⟨(some 17), none, false, .extract (.t 14) 0, none⟩, .o ⟨(some 18), none, false, .extract (.t 14) 1, none⟩, .o ⟨(some 3), none, false, .mv (.t 17), none⟩, .o ⟨(some 4), none, false, .mv (.t 18), (some [0, 3, 4])⟩]
abbrev k3_o4 : List AJ := [.o ⟨(some 20), none, false, .mv (.t 0), none⟩, .o ⟨(some 21), none, false, .call 6 [(.t 20)], none⟩, .o ⟨(some 19), none, false, .mv (.t 21), none⟩, .o ⟨(some 22), none, false, .extract (.t 19) 0, none⟩, .o ⟨(some 23), none, false, .extract (.t 19) 1, none⟩, .o ⟨(some 5), none, false, .mv (.t 22), none⟩, .o ⟨(some 6), none, false, .mv (.t 23), (some [0, 3, 4, 5, 6])⟩]
abbrev k3_o5 : List AJ := [.o ⟨(some 24), none, false, .mv (.t 5), none⟩, .o ⟨(some 25), none, false, .mv (.t 3), none⟩, .o ⟨(some 26), none, false, .call 7 [(.t 24), (.t 25)], none⟩, .o ⟨(some 27), none, false, .un .not (.t 26), none⟩, .o ⟨(some 28), none, false, .mv (.t 27), none⟩, .o ⟨(some 29), (some (28, false)), false, .mv (.t 6), none⟩, .o ⟨(some 30), (some (28, false)), false, .mv (.t 4), none⟩, .o ⟨(some 31), (some (28, false)), false, .beq true (.t 29) (.t 30), none⟩, .o ⟨(some 32), none, false, .pick (.t 28) (.c (.bool true)) (.t 31), (some [0, 3, 4, 5, 32])⟩]
abbrev k3_o6 : List AJ := [.o ⟨(some 2), none, false, .mv (.c (.bool false)), (some [2])⟩]
def k3_10 : ACode := .seq (.region k3_o6) .ret
def k3_11 : ACode := .cond (.t 32) k3_10 .skip
def k3_12 : ACode := .seq (.region k3_o5) k3_11
abbrev k3_o7 : List AJ := [.o ⟨(some 7), none, false, .mv (.c (.int .i64 1)), (some [0, 3, 4, 5, 7])⟩]
abbrev k3_o8 : List AJ := [.o ⟨(some 33), none, false, .mv (.t 5), none⟩, .o ⟨(some 34), none, false, .mv (.t 7), none⟩, .o ⟨(some 35), none, false, .call 8 [(.t 33), (.t 34)], none⟩, .o ⟨(some 7), none, false, .mv (.t 35), (some [0, 3, 4, 5, 7])⟩]
abbrev k3_o9 : List AJ := [.o ⟨(some 8), none, false, .mv (.c (.int .i64 1)), (some [0, 3, 4, 5, 7, 8])⟩]
abbrev k3_o10 : List AJ := [.o ⟨(some 36), none, false, .mv (.t 5), none⟩, .o ⟨(some 37), none, false, .mv (.t 8), none⟩, .o ⟨(some 38), none, false, .call 9 [(.t 36), (.t 37)], none⟩, .o ⟨(some 8), none, false, .mv (.t 38), (some [0, 3, 4, 5, 7, 8])⟩]
abbrev k3_o11 : List AJ := [.o ⟨(some 39), none, false, .mv (.t 8), none⟩, .o ⟨(some 40), none, false, .bin .lss (.t 39) (.c (.int .i64 0)), (some [0, 3, 4, 5, 7, 8, 40])⟩]
abbrev k3_o12 : List AJ := [.o ⟨(some 2), none, false, .mv (.c (.bool false)), (some [2])⟩]
def k3_19 : ACode := .seq (.region k3_o12) .ret
def k3_20 : ACode := .cond (.t 40) k3_19 .skip
def k3_21 : ACode := .seq (.region k3_o11) k3_20
abbrev k3_o13 : List AJ := [.o ⟨(some 41), none, false, .mv (.t 8), none⟩, .o ⟨(some 42), none, false, .mv (.t 7), none⟩, .o ⟨(some 43), none, false, .bin .neq (.t 41) (.t 42), (some [0, 3, 4, 5, 7, 43])⟩]
abbrev k3_o14 : List AJ := [.o ⟨(some 2), none, false, .mv (.c (.bool false)), (some [2])⟩]
def k3_24 : ACode := .seq (.region k3_o14) .ret
def k3_25 : ACode := .cond (.t 43) k3_24 .skip
def k3_26 : ACode := .seq (.region k3_o13) k3_25
abbrev k3_o15 : List AJ := [.o ⟨(some 45), none, false, .mv (.t 0), none⟩, .o ⟨(some 46), none, false, .call 6 [(.t 45)], none⟩, .o ⟨(some 44), none, false, .mv (.t 46), none⟩, .o ⟨(some 47), none, false, .extract (.t 44) 0, none⟩, .o ⟨(some 48), none, false, .extract (.t 44) 1, none⟩, .o ⟨(some 9), none, false, .mv (.t 47), none⟩, .o ⟨(some 10), none, false, .mv (.t 48), (some [3, 4, 5, 7, 9, 10])⟩]
abbrev k3_o16 : List AJ := [.o ⟨(some 49), none, false, .mv (.t 9), none⟩, .o ⟨(some 50), none, false, .mv (.t 3), none⟩, .o ⟨(some 51), none, false, .call 7 [(.t 49), (.t 50)], none⟩, .o ⟨(some 52), none, false, .un .not (.t 51), none⟩, .o ⟨(some 53), none, false, .mv (.t 52), none⟩, .o ⟨(some 54), (some (53, false)), false, .mv (.t 10), none⟩, .o ⟨(some 55), (some (53, false)), false, .mv (.t 4), none⟩, .o ⟨(some 56), (some (53, false)), false, .beq true (.t 54) (.t 55), none⟩, .o ⟨(some 57), none, false, .pick (.t 53) (.c (.bool true)) (.t 56), (some [5, 7, 57])⟩]
abbrev k3_o17 : List AJ := [.o ⟨(some 2), none, false, .mv (.c (.bool false)), (some [2])⟩]
def k3_30 : ACode := .seq (.region k3_o17) .ret
def k3_31 : ACode := .cond (.t 57) k3_30 .skip
def k3_32 : ACode := .seq (.region k3_o16) k3_31
abbrev k3_o18 : List AJ := [.o ⟨(some 8), none, false, .mv (.c (.int .i64 1)), (some [5, 7, 8])⟩]
abbrev k3_o19 : List AJ := [.o ⟨(some 58), none, false, .mv (.t 5), none⟩, .o ⟨(some 59), none, false, .mv (.t 8), none⟩, .o ⟨(some 60), none, false, .call 9 [(.t 58), (.t 59)], none⟩, .o ⟨(some 8), none, false, .mv (.t 60), (some [7, 8])⟩]
abbrev k3_o20 : List AJ := [.o ⟨(some 61), none, false, .mv (.t 8), none⟩, .o ⟨(some 62), none, false, .bin .lss (.t 61) (.c (.int .i64 0)), (some [7, 8, 62])⟩]
abbrev k3_o21 : List AJ := [.o ⟨(some 2), none, false, .mv (.c (.bool false)), (some [2])⟩]
def k3_37 : ACode := .seq (.region k3_o21) .ret
def k3_38 : ACode := .cond (.t 62) k3_37 .skip
def k3_39 : ACode := .seq (.region k3_o20) k3_38
abbrev k3_o22 : List AJ := [.o ⟨(some 63), none, false, .mv (.t 8), none⟩, .o ⟨(some 64), none, false, .mv (.t 7), none⟩, .o ⟨(some 65), none, false, .bin .neq (.t 63) (.t 64), (some [65])⟩]
abbrev k3_o23 : List AJ := [.o ⟨(some 2), none, false, .mv (.c (.bool false)), (some [2])⟩]
def k3_42 : ACode := .seq (.region k3_o23) .ret
def k3_43 : ACode := .cond (.t 65) k3_42 .skip
def k3_44 : ACode := .seq (.region k3_o22) k3_43
abbrev k3_o24 : List AJ := [.o ⟨(some 2), none, false, .mv (.c (.bool true)), (some [2])⟩]
def k3_46 : ACode := .seq (.region k3_o24) .ret
def k3_47 : ACode := .seq k3_44 k3_46
def k3_48 : ACode := .seq k3_39 k3_47
def k3_49 : ACode := .seq (.region k3_o19) k3_48
def k3_50 : ACode := .seq (.region k3_o18) k3_49
def k3_51 : ACode := .seq k3_32 k3_50
def k3_52 : ACode := .seq (.region k3_o15) k3_51
def k3_53 : ACode := .seq k3_26 k3_52
def k3_54 : ACode := .seq k3_21 k3_53
def k3_55 : ACode := .seq (.region k3_o10) k3_54
def k3_56 : ACode := .seq (.region k3_o9) k3_55
def k3_57 : ACode := .seq (.region k3_o8) k3_56
def k3_58 : ACode := .seq (.region k3_o7) k3_57
def k3_59 : ACode := .seq k3_12 k3_58
def k3_60 : ACode := .seq (.region k3_o4) k3_59
def k3_61 : ACode := .seq (.region k3_o3) k3_60
def k3_62 : ACode := .seq k3_5 k3_61
def k3_63 : ACode := .seq (.region k3_o0) k3_62
@[simp, simp ↓] theorem k3_3r : sR k3_3 k3_o2 .ret := yR rfl
@[simp, simp ↓] theorem k3_4r : rC k3_4 (.t 13) k3_3 .skip := zC rfl
@[simp, simp ↓] theorem k3_5r : sR k3_5 k3_o1 k3_4 := yR rfl
@[simp, simp ↓] theorem k3_10r : sR k3_10 k3_o6 .ret := yR rfl
@[simp, simp ↓] theorem k3_11r : rC k3_11 (.t 32) k3_10 .skip := zC rfl
@[simp, simp ↓] theorem k3_12r : sR k3_12 k3_o5 k3_11 := yR rfl
@[simp, simp ↓] theorem k3_19r : sR k3_19 k3_o12 .ret := yR rfl
@[simp, simp ↓] theorem k3_20r : rC k3_20 (.t 40) k3_19 .skip := zC rfl
@[simp, simp ↓] theorem k3_21r : sR k3_21 k3_o11 k3_20 := yR rfl
@[simp, simp ↓] theorem k3_24r : sR k3_24 k3_o14 .ret := yR rfl
@[simp, simp ↓] theorem k3_25r : rC k3_25 (.t 43) k3_24 .skip := zC rfl
@[simp, simp ↓] theorem k3_26r : sR k3_26 k3_o13 k3_25 := yR rfl
@[simp, simp ↓] theorem k3_30r : sR k3_30 k3_o17 .ret := yR rfl
@[simp, simp ↓] theorem k3_31r : rC k3_31 (.t 57) k3_30 .skip := zC rfl
@[simp, simp ↓] theorem k3_32r : sR k3_32 k3_o16 k3_31 := yR rfl
@[simp, simp ↓] theorem k3_37r : sR k3_37 k3_o21 .ret := yR rfl
@[simp, simp ↓] theorem k3_38r : rC k3_38 (.t 62) k3_37 .skip := zC rfl
@[simp, simp ↓] theorem k3_39r : sR k3_39 k3_o20 k3_38 := yR rfl
@[simp, simp ↓] theorem k3_42r : sR k3_42 k3_o23 .ret := yR rfl
@[simp, simp ↓] theorem k3_43r : rC k3_43 (.t 65) k3_42 .skip := zC rfl
@[simp, simp ↓] theorem k3_44r : sR k3_44 k3_o22 k3_43 := yR rfl
@[simp, simp ↓] theorem k3_46r : sR k3_46 k3_o24 .ret := yR rfl
@[simp, simp ↓] theorem k3_47r : rS k3_47 k3_44 k3_46 := zS rfl
@[simp, simp ↓] theorem k3_48r : rS k3_48 k3_39 k3_47 := zS rfl
@[simp, simp ↓] theorem k3_49r : sR k3_49 k3_o19 k3_48 := yR rfl
@[simp, simp ↓] theorem k3_50r : sR k3_50 k3_o18 k3_49 := yR rfl
@[simp, simp ↓] theorem k3_51r : rS k3_51 k3_32 k3_50 := zS rfl
@[simp, simp ↓] theorem k3_52r : sR k3_52 k3_o15 k3_51 := yR rfl
@[simp, simp ↓] theorem k3_53r : rS k3_53 k3_26 k3_52 := zS rfl
@[simp, simp ↓] theorem k3_54r : rS k3_54 k3_21 k3_53 := zS rfl
@[simp, simp ↓] theorem k3_55r : sR k3_55 k3_o10 k3_54 := yR rfl
@[simp, simp ↓] theorem k3_56r : sR k3_56 k3_o9 k3_55 := yR rfl
@[simp, simp ↓] theorem k3_57r : sR k3_57 k3_o8 k3_56 := yR rfl
@[simp, simp ↓] theorem k3_58r : sR k3_58 k3_o7 k3_57 := yR rfl
@[simp, simp ↓] theorem k3_59r : rS k3_59 k3_12 k3_58 := zS rfl
@[simp, simp ↓] theorem k3_60r : sR k3_60 k3_o4 k3_59 := yR rfl
@[simp, simp ↓] theorem k3_61r : sR k3_61 k3_o3 k3_60 := yR rfl
@[simp, simp ↓] theorem k3_62r : rS k3_62 k3_5 k3_61 := zS rfl
@[simp, simp ↓] theorem k3_63r : sR k3_63 k3_o0 k3_62 := yR rfl
noncomputable abbrev k3_C : Orc → Cx := mkC Tryd.prog [] 3 66 [.tmp 2]
theorem k3_of : OfP Tryd.prog Tryd.f3 3 66 k3_C k3_63 := @ofP _ _ _ _ _ _ _ _ Tryd.func3 (by decide +kernel) rfl (by kernel_rfl) rfl (by kernel_rfl)
theorem k3_of0 : OfP0 Tryd.prog Tryd.f3 3 66 k3_C k3_63 := @ofP0 _ _ _ _ _ _ _ _ Tryd.func3 (by decide +kernel) rfl (by kernel_rfl) rfl (by kernel_rfl)
theorem rb_law (s : List UInt8) (hs : wfS s) : ACalls Tryd.prog 3 [(.str s)] [] (fun v h' => v = .bool true ∧ h' = []) := by
  refine k3_of rfl orcRbL_p fun I => ?_
  have hx2_s := hs
  refine Run2.of I 1000 ?_
  by_cases ls : s.length ≤ 1048576
  · have hAs : ¬ (1048576 : Int) < s.length := by omega
    have hct := rbL_len s
    simp -implicitDefEqProofs [hx2_s, hAs]
    first | refine dcallK (specRB_c s _ ls) ?_ | (refine (specRB_c s _ ls).mono ?_; rintro v h' ⟨rfl, rfl⟩; refine gK.go ?_)
    simp -implicitDefEqProofs
    refine (ACalls.gives [] (fun p hp => hp) (S := fun v h' => ∃ w, v = .tup [w, .bool (rbO s)] ∧ OwnL T.av 3 w (rbL s) h') ?_ ?_).monoN ?_
    · rw [lend_cons, lend_nil', lend1_cold [] (x := (.str s)) rfl]
      exact ACalls.wk (.cons (.refl _) .nil) (implRB_o s ls)
    · rintro v h' ⟨w, rfl, ho⟩
      have := ho.own T.own
      exact ⟨by simp [own, owns, this.1], this.2⟩
    rintro v h' ⟨gg, ⟨w, rfl, og⟩, dg, rfl⟩ ng
    refine gK.go ?_
    simp -implicitDefEqProofs
    first | refine dcallK (eqB_own og (.snap (rbL s)) (fun p hp => hp) (show (rbL s).length ≤ 1048576 by have := rbL_len s; omega)) ?_ | (refine (eqB_own og (.snap (rbL s)) (fun p hp => hp) (show (rbL s).length ≤ 1048576 by have := rbL_len s; omega)).mono ?_; rintro v h' ⟨rfl, rfl⟩; refine gK.go ?_)
    simp -implicitDefEqProofs
    skip
    refine (markB_keep og [] (fun p hp => hp) keepN (fun _ => by simp [dom]) 1 (by omega) (by have := (show (rbL s).length ≤ 1048576 by have := rbL_len s; omega); omega)).mono ?_
    rintro _ _ ⟨gm, rfl, om, rfl⟩
    refine gK.go ?_
    simp -implicitDefEqProofs
    have hq : ¬ (1 + 3 * ((rbL s).length : Int) < 0) := by omega
    first | refine dcallK (heldB_own om (fun p hp => hp) 1 (by omega) (by have := (show (rbL s).length ≤ 1048576 by have := rbL_len s; omega); simp; omega)) ?_ | (refine (heldB_own om (fun p hp => hp) 1 (by omega) (by have := (show (rbL s).length ≤ 1048576 by have := rbL_len s; omega); simp; omega)).mono ?_; rintro v h' ⟨rfl, rfl⟩; refine gK.go ?_)
    simp -implicitDefEqProofs [hq]
    refine (ACalls.gives [] (by simp) (S := fun v h' => ∃ w, v = .tup [w, .bool (rbO s)] ∧ OwnL T.av 3 w (rbL s) h') ?_ ?_).mono ?_
    · exact implRB_o s ls
    · rintro v h' ⟨w, rfl, ho⟩
      have := ho.own T.own
      exact ⟨by simp [own, owns, this.1], this.2⟩
    rintro _ _ ⟨g9, ⟨w9, rfl, o9⟩, d9, rfl⟩
    refine gK.go ?_
    simp -implicitDefEqProofs [hq]
    first | refine dcallK (eqB_own o9 (.snap (rbL s)) (fun p hp => List.mem_append_left _ hp) (show (rbL s).length ≤ 1048576 by have := rbL_len s; omega)) ?_ | (refine (eqB_own o9 (.snap (rbL s)) (fun p hp => List.mem_append_left _ hp) (show (rbL s).length ≤ 1048576 by have := rbL_len s; omega)).mono ?_; rintro v h' ⟨rfl, rfl⟩; refine gK.go ?_)
    simp -implicitDefEqProofs [hq]
    first | refine dcallK (heldB_own om (fun p hp => List.mem_append_right _ hp) 1 (by omega) (by have := (show (rbL s).length ≤ 1048576 by have := rbL_len s; omega); simp; omega)) ?_ | (refine (heldB_own om (fun p hp => List.mem_append_right _ hp) 1 (by omega) (by have := (show (rbL s).length ≤ 1048576 by have := rbL_len s; omega); simp; omega)).mono ?_; rintro v h' ⟨rfl, rfl⟩; refine gK.go ?_)
    simp -implicitDefEqProofs [hq]
    exact Post.none ⟨rfl, rfl⟩
  · have hAs : (1048576 : Int) < s.length := by omega
    simp -implicitDefEqProofs [hx2_s, hAs]
    exact .base ⟨rfl, rfl⟩
end Go.AG.B
namespace Go.Proofs.YtiahlbbljmngnaaDoor
open Go.ChangeShapes Go.WideShapes Go.ChangeAt Go.RowKit Go.AG Go.AG.B
theorem own : ownKnob Tryd.prog.godebug = none := by kernel_rfl
theorem laidOut : laidOutB Tryd.prog = true := by kernel_rfl
theorem row_err (u : TypeId) (h : Tryd.prog.typeName? 3 u = some "*errors.errorString") : u = 132 :=
  typeName_ptr_named (nm := "errors.errorString") (by rw [show "*" ++ "errors.errorString" = "*errors.errorString" by decide]; kernel_rfl) (by kernel_rfl) (by decide) u (by rw [show "*" ++ "errors.errorString" = "*errors.errorString" by decide]; exact h)
theorem fix_of {W : World} (hs : W.ShapedOpen Tryd.prog) (h : laidMetH Tryd.prog Rows.fnExactReadBarsRow.laid W) : Fix W [] := by
  rw [MakeChecks.laidMetH_plain _ _ _ (by kernel_rfl)] at h
  have h2 : laidMet Tryd.prog (("internal/strconv.uint64pow10", Lib.tabData .u64 Lib.pow10Tab) :: Rows.fnExactReadBarsRow.laid.drop 3) W := h.tail.tail
  have ht := Lib.tabIs_of_head (g := 5) (t := 136) (e := 103) (n := 20) (by kernel_rfl) (by kernel_rfl) Tryd.underlying136 Tryd.underlying103 (by kernel_rfl) (by kernel_rfl) h2
  have sent : ∀ {n : String} {g : Nat} {text : List UInt8} {r : List (String × DataW Unit)}, laidMet Tryd.prog ((n, .iface "*errors.errorString" (.ptr (.agg [.lit (.string text)]))) :: r) W → Tryd.prog.globalNamed n = some g → (Tryd.prog.globals[g]?).map (·.type) = some 67 → ∃ v, W.cell? ⟨g, 0, none⟩ = some v ∧ okS false v := fun hl hg ht => by
    obtain ⟨a, s, hv, _⟩ := laid_sentinel hl hg ht Tryd.underlying67 row_err Tryd.underlying132 Tryd.underlying134 rfl rfl Tryd.underlying9 (by kernel_rfl) (by kernel_rfl)
    exact ⟨_, by simpa using World.var?_cell hg hv 0, by simp [okS]⟩
  refine ⟨?_, fun p hp => ?_⟩
  rotate_left
  · have e1 := sent (show laidMet Tryd.prog (("strconv.ErrSyntax", .iface "*errors.errorString" (.ptr (.agg [.lit (.string [105, 110, 118, 97, 108, 105, 100, 32, 115, 121, 110, 116, 97, 120])]))) :: Rows.fnExactReadBarsRow.laid.drop 6) W from h.tail.tail.tail.tail.tail) (g := 1) (by kernel_rfl) (by kernel_rfl)
    have e2 := sent (show laidMet Tryd.prog (("strconv.ErrRange", .iface "*errors.errorString" (.ptr (.agg [.lit (.string [118, 97, 108, 117, 101, 32, 111, 117, 116, 32, 111, 102, 32, 114, 97, 110, 103, 101])]))) :: Rows.fnExactReadBarsRow.laid.drop 5) W from h.tail.tail.tail.tail) (g := 2) (by kernel_rfl) (by kernel_rfl)
    obtain ⟨m, hm⟩ := Tryd.layCut.s1_3 W hs
    refine ⟨by simp, ?_⟩
    have hc : p = (0, true) ∨ p = (1, false) ∨ p = (2, false) := by simpa [laidS] using hp
    rcases hc with rfl | rfl | rfl
    · exact ⟨_, hm, by simp [okS]⟩
    · exact e1
    · exact e2
  intro p hp
  obtain rfl := List.mem_singleton.1 hp
  refine ⟨by simp, ?_⟩
  unfold Lib.TabIs World.var? at ht
  rw [show Tryd.prog.globalNamed "internal/strconv.uint64pow10" = some 5 by kernel_rfl] at ht
  simp only [Option.bind_some] at ht
  split at ht
  · rename_i cs el fz e
    exact ⟨el, fz, by rw [e]; rw [Option.some.inj ht]⟩
  · cases ht
set_option maxRecDepth 100000 in
theorem fnExactReadBars_lifted (os : Os) (started : os.Started) (H : Type) (enc : TypeId × Value → H) :
    ReturnsInHanded {} Tryd.checked os 3 .any (fun w args => (Rows.fnExactReadBarsSpec.pre enc Tryd.prog Tryd.f3 [] false w args ∧ laidMetH Tryd.prog Rows.fnExactReadBarsRow.laid w) ∧ sizedMet enc Tryd.prog Tryd.f3 (OpenSpec.ofChange Rows.fnExactReadBarsSpec) false w args)
      (Rows.fnExactReadBarsSpec.post enc Tryd.prog Tryd.f3 false true false false) := by
  refine returnsInHanded_shaped_and (C := Tryd.checked) (X := fun w _ => laidMetH Tryd.prog Rows.fnExactReadBarsRow.laid w) (fun _ _ _ hh h => h.of_heap hh) own started (by kernel_rfl) Tryd.func3
    (ChangeSpec.witness_shaped (enc := enc) (C := Tryd.checked) (os := os) (X := fun w _ => laidMetH Tryd.prog Rows.fnExactReadBarsRow.laid w) false (World.laidAll Tryd.prog os Rows.fnExactReadBarsRow.laid) #[.string ⟨#[]⟩] 8 (World.laidAll_os _ _ _) (World.shaped_of_ZipB (by kernel_rfl) (by kernel_rfl)) (by kernel_rfl) (by kernel_rfl) (by kernel_rfl) (by rw [MakeChecks.laidMetH_plain _ _ _ (by kernel_rfl)]; exact laidMet_laidAll _ (by kernel_rfl) (by kernel_rfl))) ?_
  intro W base args ds gs before hval0 hW hL hS
  have hval : ∀ (j : Nat) t v, Tryd.f3.params[j]? = some t → args[j]? = some v → Value.okWide Tryd.prog W .any base t v := hval0
  refine law_post (tys := [.str]) (tb := 4) laidOut rfl (by kernel_rfl) (by kernel_rfl) (by kernel_rfl) (by kernel_rfl) hval hW ?_ ?_ (fix_of hS hL)
  · intro ds h
    match ds, h with
    | [a0], _ => rfl
  · rintro xs ⟨x0, r0, rfl, h0, hr⟩
    have hr0 : r0 = [] := hr
    subst hr0
    obtain ⟨p0, rfl, q0⟩ := Str_of_shape h0
    exact rb_law p0 q0
theorem fnExactReadBars_row : Rows.FnExactReadBarsSaid :=
  OpenClaim.holds_of_wide 3 Tryd.f3 rfl rfl rfl rfl rfl rfl rfl ⟨rfl, rfl, rfl, rfl, rfl⟩ rfl rfl rfl rfl rfl (by kernel_rfl) Tryd.func3 (by kernel_rfl)
    (of_decide_eq_true (by kernel_rfl)) (by unfold Func.isWrapper; first | (rw [if_pos (by decide +kernel)]; kernel_rfl) | (rw [if_neg (by decide +kernel)]; exact ⟨rfl, rfl⟩))
    (fun os started H enc _ => fnExactReadBars_lifted os started H enc)
theorem fnExactReadBars_holds : Rows.FnExactReadBarsCardSaid :=
  Claim7.holds_tied_plain_at .later [] [.data, .data, .data, .data, .sentinel, .sentinel, .pinned] true (true, "0c684e6581d654650bf3a975225cbe9b43cbe917b594a060106fcf06850daef5") true
    fnExactReadBars_row (fun _ h => by cases h) (by kernel_rfl) (fun _ h => by cases h) fnExactReadBars_row_tie rfl ⟨rfl, rfl⟩ (by kernel_rfl) rfl
    (fun f fn hf hfn => by
      obtain rfl : f = 3 := Option.some.inj ((show Tryd.prog.funcNamed "loop.example/g01005/laws.FnExactReadBars" = some 3 by kernel_rfl).symm.trans hf) |>.symm
      obtain rfl : fn = Tryd.f3 := (Option.some.inj (Tryd.func3.symm.trans hfn)).symm
      exact ⟨by kernel_rfl, fun j t ht => by
        have hm : t ∈ Tryd.f3.params.toList := by simpa using Array.mem_of_getElem? ht
        have hall : (Tryd.f3.params.toList.all fun u => !Tryd.prog.wantsStandIn u) = true := by kernel_rfl
        exact (show Tryd.prog.wantsStandIn t = false by simpa using List.all_eq_true.1 hall t hm)⟩)
    (by kernel_rfl)
end Go.Proofs.YtiahlbbljmngnaaDoor
