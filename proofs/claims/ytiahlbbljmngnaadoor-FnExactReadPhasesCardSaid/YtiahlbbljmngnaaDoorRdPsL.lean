/- The law FnExactReadPhases is true for every input: the program's ReadPhases returns what the reference's returns. The listed package-level variables (tables and errors of the library) read as the program's text lays them. -/
import Derived.Test.YtiahlbbljmngnaaDoorRdPs
import Derived.Test.YtiahlbbljmngnaaDoorAGHand
import Derived.Test.YtiahlbbljmngnaaDoorCards
import Derived.Test.YtiahlbbljmngnaaDoorTie
import Derived.ProofKit
import Derived.LaidMore
import Derived.OpenShut
import Derived.Stop.Joined
import Derived.Stop.LaidErr
namespace Go.AG.P
open Go.Proofs Go.Proofs.YtiahlbbljmngnaaDoor
set_option linter.unusedSimpArgs false
set_option linter.unusedVariables false
set_option maxRecDepth 4000
theorem rpX_len (s : Txt) : (rpX s).ts.length ≤ 24 := by
  unfold rpX
  split
  · rename_i h; exact h.2.1.2.2.2.2.2
  · simp
noncomputable def orcRpL : List (Nat × (List AV → Option (Prop × AV))) := (53, o_eqTurn) :: []
theorem orcRpL_p : Pure Tryd.prog (lk orcRpL) := (lk_pure o_eqTurn_k lk_pure0)
@[simp] theorem orcRpL_l (b : Bool) (g : FuncId) (l : List AV) : lk orcRpL b g l = if g = 53 then o_eqTurn l else none := nr rfl
abbrev k4_o0 : List AJ := [.o ⟨(some 2), none, false, .mv (.c (.bool false)), (some [0])⟩]
abbrev k4_o1 : List AJ := [.o ⟨(some 11), none, false, .mv (.t 0), none⟩, .o ⟨(some 12), none, false, .slen (.t 11), none⟩, .o ⟨(some 13), none, false, .bin .gtr (.t 12) (.c (.int .i64 1048576)), (some [0, 13])⟩]
abbrev k4_o2 : List AJ := [.o ⟨(some 2), none, false, .mv (.c (.bool true)), (some [2])⟩]
def k4_3 : ACode := .seq (.region k4_o2) .ret
def k4_4 : ACode := .cond (.t 13) k4_3 .skip
def k4_5 : ACode := .seq (.region k4_o1) k4_4
abbrev k4_o3 : List AJ := [.o ⟨(some 15), none, false, .mv (.t 0), none⟩, .o ⟨(some 16), none, false, .call 10 [(.t 15)], none⟩, .o ⟨(some 14), none, false, .mv (.t 16), none⟩, .o ⟨(some 17), none, false, .extract (.t 14) 0, none⟩, .o ⟨(some 18), none, false, .extract (.t 14) 1, none⟩, .v 3 3 (.agg [(.int .i64 0), (.int .i64 0), .nilsl]) [] (.t 17) none, .o ⟨(some 4), none, false, .mv (.t 18), (some [0, 3, 4])⟩]
abbrev k4_o4 : List AJ := [.o ⟨(some 20), none, false, .mv (.t 0), none⟩, .o ⟨(some 21), none, false, .call 11 [(.t 20)], none⟩, .o ⟨(some 19), none, false, .mv (.t 21), none⟩, .o ⟨(some 22), none, false, .extract (.t 19) 0, none⟩, .o ⟨(some 23), none, false, .extract (.t 19) 1, none⟩, .v 5 3 (.agg [(.int .i64 0), (.int .i64 0), .nilsl]) [] (.t 22) none, .o ⟨(some 6), none, false, .mv (.t 23), (some [0, 3, 4, 5, 6])⟩]
abbrev k4_o5 : List AJ := [.o ⟨(some 24), none, false, .load 3 true (.t 5), none⟩, .o ⟨(some 25), none, false, .load 3 true (.t 3), none⟩, .o ⟨(some 26), none, false, .call 12 [(.t 24), (.t 25)], none⟩, .o ⟨(some 27), none, false, .un .not (.t 26), none⟩, .o ⟨(some 28), none, false, .mv (.t 27), none⟩, .o ⟨(some 29), (some (28, false)), false, .mv (.t 6), none⟩, .o ⟨(some 30), (some (28, false)), false, .mv (.t 4), none⟩, .o ⟨(some 31), (some (28, false)), false, .beq true (.t 29) (.t 30), none⟩, .o ⟨(some 32), none, false, .pick (.t 28) (.c (.bool true)) (.t 31), (some [0, 3, 4, 5, 32])⟩]
abbrev k4_o6 : List AJ := [.o ⟨(some 2), none, false, .mv (.c (.bool false)), (some [2])⟩]
def k4_10 : ACode := .seq (.region k4_o6) .ret
def k4_11 : ACode := .cond (.t 32) k4_10 .skip
def k4_12 : ACode := .seq (.region k4_o5) k4_11
abbrev k4_o7 : List AJ := [.o ⟨(some 7), none, false, .mv (.c (.int .i64 1)), (some [0, 3, 4, 5, 7])⟩]
abbrev k4_o8 : List AJ := [.o ⟨(some 33), none, false, .load 3 true (.t 5), none⟩, .o ⟨(some 34), none, false, .mv (.t 7), none⟩, .o ⟨(some 35), none, false, .call 13 [(.t 33), (.t 34)], none⟩, .o ⟨(some 7), none, false, .mv (.t 35), (some [0, 3, 4, 5, 7])⟩]
abbrev k4_o9 : List AJ := [.o ⟨(some 8), none, false, .mv (.c (.int .i64 1)), (some [0, 3, 4, 5, 7, 8])⟩]
abbrev k4_o10 : List AJ := [.o ⟨(some 36), none, false, .load 3 true (.t 5), none⟩, .o ⟨(some 37), none, false, .mv (.t 8), none⟩, .o ⟨(some 38), none, false, .call 14 [(.t 36), (.t 37)], none⟩, .o ⟨(some 8), none, false, .mv (.t 38), (some [0, 3, 4, 5, 7, 8])⟩]
abbrev k4_o11 : List AJ := [.o ⟨(some 39), none, false, .mv (.t 8), none⟩, .o ⟨(some 40), none, false, .bin .lss (.t 39) (.c (.int .i64 0)), (some [0, 3, 4, 5, 7, 8, 40])⟩]
abbrev k4_o12 : List AJ := [.o ⟨(some 2), none, false, .mv (.c (.bool false)), (some [2])⟩]
def k4_19 : ACode := .seq (.region k4_o12) .ret
def k4_20 : ACode := .cond (.t 40) k4_19 .skip
def k4_21 : ACode := .seq (.region k4_o11) k4_20
abbrev k4_o13 : List AJ := [.o ⟨(some 41), none, false, .mv (.t 8), none⟩, .o ⟨(some 42), none, false, .mv (.t 7), none⟩, .o ⟨(some 43), none, false, .bin .neq (.t 41) (.t 42), (some [0, 3, 4, 5, 7, 43])⟩]
abbrev k4_o14 : List AJ := [.o ⟨(some 2), none, false, .mv (.c (.bool false)), (some [2])⟩]
def k4_24 : ACode := .seq (.region k4_o14) .ret
def k4_25 : ACode := .cond (.t 43) k4_24 .skip
def k4_26 : ACode := .seq (.region k4_o13) k4_25
abbrev k4_o15 : List AJ := [.o ⟨(some 45), none, false, .mv (.t 0), none⟩, .o ⟨(some 46), none, false, .call 11 [(.t 45)], none⟩, .o ⟨(some 44), none, false, .mv (.t 46), none⟩, .o ⟨(some 47), none, false, .extract (.t 44) 0, none⟩, .o ⟨(some 48), none, false, .extract (.t 44) 1, none⟩, .v 9 3 (.agg [(.int .i64 0), (.int .i64 0), .nilsl]) [] (.t 47) none, .o ⟨(some 10), none, false, .mv (.t 48), (some [3, 4, 5, 7, 9, 10])⟩]
abbrev k4_o16 : List AJ := [.o ⟨(some 49), none, false, .load 3 true (.t 9), none⟩, .o ⟨(some 50), none, false, .load 3 true (.t 3), none⟩, .o ⟨(some 51), none, false, .call 12 [(.t 49), (.t 50)], none⟩, .o ⟨(some 52), none, false, .un .not (.t 51), none⟩, .o ⟨(some 53), none, false, .mv (.t 52), none⟩, .o ⟨(some 54), (some (53, false)), false, .mv (.t 10), none⟩, .o ⟨(some 55), (some (53, false)), false, .mv (.t 4), none⟩, .o ⟨(some 56), (some (53, false)), false, .beq true (.t 54) (.t 55), none⟩, .o ⟨(some 57), none, false, .pick (.t 53) (.c (.bool true)) (.t 56), (some [5, 7, 57])⟩]
abbrev k4_o17 : List AJ := [.o ⟨(some 2), none, false, .mv (.c (.bool false)), (some [2])⟩]
def k4_30 : ACode := .seq (.region k4_o17) .ret
def k4_31 : ACode := .cond (.t 57) k4_30 .skip
def k4_32 : ACode := .seq (.region k4_o16) k4_31
abbrev k4_o18 : List AJ := [.o ⟨(some 8), none, false, .mv (.c (.int .i64 1)), (some [5, 7, 8])⟩]
abbrev k4_o19 : List AJ := [.o ⟨(some 58), none, false, .load 3 true (.t 5), none⟩, .o ⟨(some 59), none, false, .mv (.t 8), none⟩, .o ⟨(some 60), none, false, .call 14 [(.t 58), (.t 59)], none⟩, .o ⟨(some 8), none, false, .mv (.t 60), (some [7, 8])⟩]
abbrev k4_o20 : List AJ := [.o ⟨(some 61), none, false, .mv (.t 8), none⟩, .o ⟨(some 62), none, false, .bin .lss (.t 61) (.c (.int .i64 0)), (some [7, 8, 62])⟩]
abbrev k4_o21 : List AJ := [.o ⟨(some 2), none, false, .mv (.c (.bool false)), (some [2])⟩]
def k4_37 : ACode := .seq (.region k4_o21) .ret
def k4_38 : ACode := .cond (.t 62) k4_37 .skip
def k4_39 : ACode := .seq (.region k4_o20) k4_38
abbrev k4_o22 : List AJ := [.o ⟨(some 63), none, false, .mv (.t 8), none⟩, .o ⟨(some 64), none, false, .mv (.t 7), none⟩, .o ⟨(some 65), none, false, .bin .neq (.t 63) (.t 64), (some [65])⟩]
abbrev k4_o23 : List AJ := [.o ⟨(some 2), none, false, .mv (.c (.bool false)), (some [2])⟩]
def k4_42 : ACode := .seq (.region k4_o23) .ret
def k4_43 : ACode := .cond (.t 65) k4_42 .skip
def k4_44 : ACode := .seq (.region k4_o22) k4_43
abbrev k4_o24 : List AJ := [.o ⟨(some 2), none, false, .mv (.c (.bool true)), (some [2])⟩]
def k4_46 : ACode := .seq (.region k4_o24) .ret
def k4_47 : ACode := .seq k4_44 k4_46
def k4_48 : ACode := .seq k4_39 k4_47
def k4_49 : ACode := .seq (.region k4_o19) k4_48
def k4_50 : ACode := .seq (.region k4_o18) k4_49
def k4_51 : ACode := .seq k4_32 k4_50
def k4_52 : ACode := .seq (.region k4_o15) k4_51
def k4_53 : ACode := .seq k4_26 k4_52
def k4_54 : ACode := .seq k4_21 k4_53
def k4_55 : ACode := .seq (.region k4_o10) k4_54
def k4_56 : ACode := .seq (.region k4_o9) k4_55
def k4_57 : ACode := .seq (.region k4_o8) k4_56
def k4_58 : ACode := .seq (.region k4_o7) k4_57
def k4_59 : ACode := .seq k4_12 k4_58
def k4_60 : ACode := .seq (.region k4_o4) k4_59
def k4_61 : ACode := .seq (.region k4_o3) k4_60
def k4_62 : ACode := .seq k4_5 k4_61
def k4_63 : ACode := .seq (.region k4_o0) k4_62
@[simp, simp ↓] theorem k4_3r : sR k4_3 k4_o2 .ret := yR rfl
@[simp, simp ↓] theorem k4_4r : rC k4_4 (.t 13) k4_3 .skip := zC rfl
@[simp, simp ↓] theorem k4_5r : sR k4_5 k4_o1 k4_4 := yR rfl
@[simp, simp ↓] theorem k4_10r : sR k4_10 k4_o6 .ret := yR rfl
@[simp, simp ↓] theorem k4_11r : rC k4_11 (.t 32) k4_10 .skip := zC rfl
@[simp, simp ↓] theorem k4_12r : sR k4_12 k4_o5 k4_11 := yR rfl
@[simp, simp ↓] theorem k4_19r : sR k4_19 k4_o12 .ret := yR rfl
@[simp, simp ↓] theorem k4_20r : rC k4_20 (.t 40) k4_19 .skip := zC rfl
@[simp, simp ↓] theorem k4_21r : sR k4_21 k4_o11 k4_20 := yR rfl
@[simp, simp ↓] theorem k4_24r : sR k4_24 k4_o14 .ret := yR rfl
@[simp, simp ↓] theorem k4_25r : rC k4_25 (.t 43) k4_24 .skip := zC rfl
@[simp, simp ↓] theorem k4_26r : sR k4_26 k4_o13 k4_25 := yR rfl
@[simp, simp ↓] theorem k4_30r : sR k4_30 k4_o17 .ret := yR rfl
@[simp, simp ↓] theorem k4_31r : rC k4_31 (.t 57) k4_30 .skip := zC rfl
@[simp, simp ↓] theorem k4_32r : sR k4_32 k4_o16 k4_31 := yR rfl
@[simp, simp ↓] theorem k4_37r : sR k4_37 k4_o21 .ret := yR rfl
@[simp, simp ↓] theorem k4_38r : rC k4_38 (.t 62) k4_37 .skip := zC rfl
@[simp, simp ↓] theorem k4_39r : sR k4_39 k4_o20 k4_38 := yR rfl
@[simp, simp ↓] theorem k4_42r : sR k4_42 k4_o23 .ret := yR rfl
@[simp, simp ↓] theorem k4_43r : rC k4_43 (.t 65) k4_42 .skip := zC rfl
@[simp, simp ↓] theorem k4_44r : sR k4_44 k4_o22 k4_43 := yR rfl
@[simp, simp ↓] theorem k4_46r : sR k4_46 k4_o24 .ret := yR rfl
@[simp, simp ↓] theorem k4_47r : rS k4_47 k4_44 k4_46 := zS rfl
@[simp, simp ↓] theorem k4_48r : rS k4_48 k4_39 k4_47 := zS rfl
@[simp, simp ↓] theorem k4_49r : sR k4_49 k4_o19 k4_48 := yR rfl
@[simp, simp ↓] theorem k4_50r : sR k4_50 k4_o18 k4_49 := yR rfl
@[simp, simp ↓] theorem k4_51r : rS k4_51 k4_32 k4_50 := zS rfl
@[simp, simp ↓] theorem k4_52r : sR k4_52 k4_o15 k4_51 := yR rfl
@[simp, simp ↓] theorem k4_53r : rS k4_53 k4_26 k4_52 := zS rfl
@[simp, simp ↓] theorem k4_54r : rS k4_54 k4_21 k4_53 := zS rfl
@[simp, simp ↓] theorem k4_55r : sR k4_55 k4_o10 k4_54 := yR rfl
@[simp, simp ↓] theorem k4_56r : sR k4_56 k4_o9 k4_55 := yR rfl
@[simp, simp ↓] theorem k4_57r : sR k4_57 k4_o8 k4_56 := yR rfl
@[simp, simp ↓] theorem k4_58r : sR k4_58 k4_o7 k4_57 := yR rfl
@[simp, simp ↓] theorem k4_59r : rS k4_59 k4_12 k4_58 := zS rfl
@[simp, simp ↓] theorem k4_60r : sR k4_60 k4_o4 k4_59 := yR rfl
@[simp, simp ↓] theorem k4_61r : sR k4_61 k4_o3 k4_60 := yR rfl
@[simp, simp ↓] theorem k4_62r : rS k4_62 k4_5 k4_61 := zS rfl
@[simp, simp ↓] theorem k4_63r : sR k4_63 k4_o0 k4_62 := yR rfl
noncomputable abbrev k4_C : Orc → Cx := mkC Tryd.prog [3, 5, 9] 4 66 [.tmp 2]
theorem k4_of : OfP Tryd.prog Tryd.f4 4 66 k4_C k4_63 := @ofP _ _ _ _ _ _ _ _ Tryd.func4 (by decide +kernel) rfl (by kernel_rfl) rfl (by kernel_rfl)
theorem k4_of0 : OfP0 Tryd.prog Tryd.f4 4 66 k4_C k4_63 := @ofP0 _ _ _ _ _ _ _ _ Tryd.func4 (by decide +kernel) rfl (by kernel_rfl) rfl (by kernel_rfl)
theorem rp_law (s : List UInt8) (hs : wfS s) : ACalls Tryd.prog 4 [(.str s)] [] (fun v h' => v = .bool true ∧ h' = []) := by
  refine k4_of rfl orcRpL_p fun I => ?_
  have hx2_s := hs
  refine Run2.of I 1000 ?_
  by_cases ls : s.length ≤ 1048576
  · have hAs : ¬ (1048576 : Int) < s.length := by omega
    have hct := rpX_len s
    simp -implicitDefEqProofs [hx2_s, hAs]
    first | refine dcallK (specRP_c s _ ls) ?_ | (refine (specRP_c s _ ls).mono ?_; rintro v h' ⟨rfl, rfl⟩; refine gK.go ?_)
    simp -implicitDefEqProofs
    refine (ACalls.gives [] (fun p hp => hp) (S := fun v h' => ∃ w, v = .tup [w, .bool (rpO s)] ∧ OwnPh w (rpX s) h') ?_ ?_).monoN ?_
    · rw [lend_cons, lend_nil', lend1_cold [] (x := (.str s)) rfl]
      exact ACalls.wk (.cons (.refl _) .nil) (implRP_o s ls)
    · rintro v h' ⟨w, rfl, ho⟩
      have := ho.own
      exact ⟨by simp [own, owns, this.1], this.2⟩
    rintro v h' ⟨gg, ⟨w, rfl, og⟩, dg, rfl⟩ ng
    obtain ⟨uw, rfl, ouw⟩ := id og
    have cw := ouw.cell
    refine gK.go ?_
    simp -implicitDefEqProofs [cw]
    first | refine dcallK (eqPh_own og (rpX s).is (fun p hp => hp) (show (rpX s).ts.length ≤ 1048576 by have := rpX_len s; omega)) ?_ | (refine (eqPh_own og (rpX s).is (fun p hp => hp) (show (rpX s).ts.length ≤ 1048576 by have := rpX_len s; omega)).mono ?_; rintro v h' ⟨rfl, rfl⟩; refine gK.go ?_)
    simp -implicitDefEqProofs [cw]
    skip
    refine (markPh_keep og [] (fun p hp => hp) keepN (fun _ => by simp [dom]) 1 (by omega) (by have := (show (rpX s).ts.length ≤ 1048576 by have := rpX_len s; omega); omega)).mono ?_
    rintro _ _ ⟨gm, rfl, om, rfl⟩
    refine gK.go ?_
    simp -implicitDefEqProofs [cw]
    have hq : ¬ (1 + 3 * ((rpX s).ts.length : Int) < 0) := by omega
    first | refine dcallK (heldPh_own om (fun p hp => hp) 1 (by omega) (by have := (show (rpX s).ts.length ≤ 1048576 by have := rpX_len s; omega); simp; omega)) ?_ | (refine (heldPh_own om (fun p hp => hp) 1 (by omega) (by have := (show (rpX s).ts.length ≤ 1048576 by have := rpX_len s; omega); simp; omega)).mono ?_; rintro v h' ⟨rfl, rfl⟩; refine gK.go ?_)
    simp -implicitDefEqProofs [cw, hq]
    refine (ACalls.gives [] (by simp) (S := fun v h' => ∃ w, v = .tup [w, .bool (rpO s)] ∧ OwnPh w (rpX s) h') ?_ ?_).mono ?_
    · exact implRP_o s ls
    · rintro v h' ⟨w, rfl, ho⟩
      have := ho.own
      exact ⟨by simp [own, owns, this.1], this.2⟩
    rintro _ _ ⟨g9, ⟨w9, rfl, o9⟩, d9, rfl⟩
    obtain ⟨uz, rfl, ouz⟩ := id o9
    have cz := ouz.cell
    refine gK.go ?_
    simp -implicitDefEqProofs [cw, hq, cz]
    first | refine dcallK (eqPh_own o9 (rpX s).is (fun p hp => List.mem_append_left _ hp) (show (rpX s).ts.length ≤ 1048576 by have := rpX_len s; omega)) ?_ | (refine (eqPh_own o9 (rpX s).is (fun p hp => List.mem_append_left _ hp) (show (rpX s).ts.length ≤ 1048576 by have := rpX_len s; omega)).mono ?_; rintro v h' ⟨rfl, rfl⟩; refine gK.go ?_)
    simp -implicitDefEqProofs [cw, hq, cz]
    first | refine dcallK (heldPh_own om (fun p hp => List.mem_append_right _ hp) 1 (by omega) (by have := (show (rpX s).ts.length ≤ 1048576 by have := rpX_len s; omega); simp; omega)) ?_ | (refine (heldPh_own om (fun p hp => List.mem_append_right _ hp) 1 (by omega) (by have := (show (rpX s).ts.length ≤ 1048576 by have := rpX_len s; omega); simp; omega)).mono ?_; rintro v h' ⟨rfl, rfl⟩; refine gK.go ?_)
    simp -implicitDefEqProofs [cw, hq, cz]
    exact Post.none ⟨rfl, rfl⟩
  · have hAs : (1048576 : Int) < s.length := by omega
    simp -implicitDefEqProofs [hx2_s, hAs]
    exact .base ⟨rfl, rfl⟩
end Go.AG.P
namespace Go.Proofs.YtiahlbbljmngnaaDoor
open Go.ChangeShapes Go.WideShapes Go.ChangeAt Go.RowKit Go.AG Go.AG.P
theorem own : ownKnob Tryd.prog.godebug = none := by kernel_rfl
theorem laidOut : laidOutB Tryd.prog = true := by kernel_rfl
theorem row_err (u : TypeId) (h : Tryd.prog.typeName? 3 u = some "*errors.errorString") : u = 132 :=
  typeName_ptr_named (nm := "errors.errorString") (by rw [show "*" ++ "errors.errorString" = "*errors.errorString" by decide]; kernel_rfl) (by kernel_rfl) (by decide) u (by rw [show "*" ++ "errors.errorString" = "*errors.errorString" by decide]; exact h)
theorem fix_of {W : World} (hs : W.ShapedOpen Tryd.prog) (h : laidMetH Tryd.prog Rows.fnExactReadPhasesRow.laid W) : Fix W [] := by
  rw [MakeChecks.laidMetH_plain _ _ _ (by kernel_rfl)] at h
  have h2 : laidMet Tryd.prog (("internal/strconv.uint64pow10", Lib.tabData .u64 Lib.pow10Tab) :: Rows.fnExactReadPhasesRow.laid.drop 3) W := h.tail.tail
  have ht := Lib.tabIs_of_head (g := 5) (t := 136) (e := 103) (n := 20) (by kernel_rfl) (by kernel_rfl) Tryd.underlying136 Tryd.underlying103 (by kernel_rfl) (by kernel_rfl) h2
  have sent : ∀ {n : String} {g : Nat} {text : List UInt8} {r : List (String × DataW Unit)}, laidMet Tryd.prog ((n, .iface "*errors.errorString" (.ptr (.agg [.lit (.string text)]))) :: r) W → Tryd.prog.globalNamed n = some g → (Tryd.prog.globals[g]?).map (·.type) = some 67 → ∃ v, W.cell? ⟨g, 0, none⟩ = some v ∧ okS false v := fun hl hg ht => by
    obtain ⟨a, s, hv, _⟩ := laid_sentinel hl hg ht Tryd.underlying67 row_err Tryd.underlying132 Tryd.underlying134 rfl rfl Tryd.underlying9 (by kernel_rfl) (by kernel_rfl)
    exact ⟨_, by simpa using World.var?_cell hg hv 0, by simp [okS]⟩
  refine ⟨?_, fun p hp => ?_⟩
  rotate_left
  · have e1 := sent (show laidMet Tryd.prog (("strconv.ErrSyntax", .iface "*errors.errorString" (.ptr (.agg [.lit (.string [105, 110, 118, 97, 108, 105, 100, 32, 115, 121, 110, 116, 97, 120])]))) :: Rows.fnExactReadPhasesRow.laid.drop 6) W from h.tail.tail.tail.tail.tail) (g := 1) (by kernel_rfl) (by kernel_rfl)
    have e2 := sent (show laidMet Tryd.prog (("strconv.ErrRange", .iface "*errors.errorString" (.ptr (.agg [.lit (.string [118, 97, 108, 117, 101, 32, 111, 117, 116, 32, 111, 102, 32, 114, 97, 110, 103, 101])]))) :: Rows.fnExactReadPhasesRow.laid.drop 5) W from h.tail.tail.tail.tail) (g := 2) (by kernel_rfl) (by kernel_rfl)
    obtain ⟨m, hm⟩ := Tryd.layCut.s1_3 W hs
    refine ⟨by simp, ?_⟩
    have hc : p = (0, true) ∨ p = (1, false) ∨ p = (2, false) := by simpa [laidS] using hp
    rcases hc with rfl | rfl | rfl
    · exact ⟨_, hm, by simp [okS]⟩
    · exact e1
    · exact e2
  intro p hp
  obtain rfl := List.mem_singleton.1 hp
  refine ⟨by simp, ?_⟩
  unfold Lib.TabIs World.var? at ht
  rw [show Tryd.prog.globalNamed "internal/strconv.uint64pow10" = some 5 by kernel_rfl] at ht
  simp only [Option.bind_some] at ht
  split at ht
  · rename_i cs el fz e
    exact ⟨el, fz, by rw [e]; rw [Option.some.inj ht]⟩
  · cases ht
set_option maxRecDepth 100000 in
theorem fnExactReadPhases_lifted (os : Os) (started : os.Started) (H : Type) (enc : TypeId × Value → H) :
    ReturnsInHanded {} Tryd.checked os 4 .any (fun w args => (Rows.fnExactReadPhasesSpec.pre enc Tryd.prog Tryd.f4 [] false w args ∧ laidMetH Tryd.prog Rows.fnExactReadPhasesRow.laid w) ∧ sizedMet enc Tryd.prog Tryd.f4 (OpenSpec.ofChange Rows.fnExactReadPhasesSpec) false w args)
      (Rows.fnExactReadPhasesSpec.post enc Tryd.prog Tryd.f4 false true false false) := by
  refine returnsInHanded_shaped_and (C := Tryd.checked) (X := fun w _ => laidMetH Tryd.prog Rows.fnExactReadPhasesRow.laid w) (fun _ _ _ hh h => h.of_heap hh) own started (by kernel_rfl) Tryd.func4
    (ChangeSpec.witness_shaped (enc := enc) (C := Tryd.checked) (os := os) (X := fun w _ => laidMetH Tryd.prog Rows.fnExactReadPhasesRow.laid w) false (World.laidAll Tryd.prog os Rows.fnExactReadPhasesRow.laid) #[.string ⟨#[]⟩] 8 (World.laidAll_os _ _ _) (World.shaped_of_ZipB (by kernel_rfl) (by kernel_rfl)) (by kernel_rfl) (by kernel_rfl) (by kernel_rfl) (by rw [MakeChecks.laidMetH_plain _ _ _ (by kernel_rfl)]; exact laidMet_laidAll _ (by kernel_rfl) (by kernel_rfl))) ?_
  intro W base args ds gs before hval0 hW hL hS
  have hval : ∀ (j : Nat) t v, Tryd.f4.params[j]? = some t → args[j]? = some v → Value.okWide Tryd.prog W .any base t v := hval0
  refine law_post (tys := [.str]) (tb := 4) laidOut rfl (by kernel_rfl) (by kernel_rfl) (by kernel_rfl) (by kernel_rfl) hval hW ?_ ?_ (fix_of hS hL)
  · intro ds h
    match ds, h with
    | [a0], _ => rfl
  · rintro xs ⟨x0, r0, rfl, h0, hr⟩
    have hr0 : r0 = [] := hr
    subst hr0
    obtain ⟨p0, rfl, q0⟩ := Str_of_shape h0
    exact rp_law p0 q0
theorem fnExactReadPhases_row : Rows.FnExactReadPhasesSaid :=
  OpenClaim.holds_of_wide 4 Tryd.f4 rfl rfl rfl rfl rfl rfl rfl ⟨rfl, rfl, rfl, rfl, rfl⟩ rfl rfl rfl rfl rfl (by kernel_rfl) Tryd.func4 (by kernel_rfl)
    (of_decide_eq_true (by kernel_rfl)) (by unfold Func.isWrapper; first | (rw [if_pos (by decide +kernel)]; kernel_rfl) | (rw [if_neg (by decide +kernel)]; exact ⟨rfl, rfl⟩))
    (fun os started H enc _ => fnExactReadPhases_lifted os started H enc)
theorem fnExactReadPhases_holds : Rows.FnExactReadPhasesCardSaid :=
  Claim7.holds_tied_plain_at .later [] [.data, .data, .data, .data, .sentinel, .sentinel, .pinned] true (true, "0c684e6581d654650bf3a975225cbe9b43cbe917b594a060106fcf06850daef5") true
    fnExactReadPhases_row (fun _ h => by cases h) (by kernel_rfl) (fun _ h => by cases h) fnExactReadPhases_row_tie rfl ⟨rfl, rfl⟩ (by kernel_rfl) rfl
    (fun f fn hf hfn => by
      obtain rfl : f = 4 := Option.some.inj ((show Tryd.prog.funcNamed "loop.example/g01005/laws.FnExactReadPhases" = some 4 by kernel_rfl).symm.trans hf) |>.symm
      obtain rfl : fn = Tryd.f4 := (Option.some.inj (Tryd.func4.symm.trans hfn)).symm
      exact ⟨by kernel_rfl, fun j t ht => by
        have hm : t ∈ Tryd.f4.params.toList := by simpa using Array.mem_of_getElem? ht
        have hall : (Tryd.f4.params.toList.all fun u => !Tryd.prog.wantsStandIn u) = true := by kernel_rfl
        exact (show Tryd.prog.wantsStandIn t = false by simpa using List.all_eq_true.1 hall t hm)⟩)
    (by kernel_rfl)
end Go.Proofs.YtiahlbbljmngnaaDoor
