/- The law FnExactComingOrder is true for every input: the program's ComingOrder returns what the reference's returns. -/
import Derived.Test.YtamjnegnoijjlaaSoH
import Derived.Test.YtamjnegnoijjlaaFilL
namespace Go.AG
open Go.Proofs Go.Proofs.Ytamjnegnoijjlaa
set_option linter.unusedSimpArgs false
set_option linter.unusedVariables false
set_option maxRecDepth 4000
abbrev k10_o0 : List AJ := [.o ⟨(some 1), none, false, .box false 2 (.t 0), none⟩, .o ⟨(some 2), none, false, .mv (.c (.bool false)), (some [1])⟩]
abbrev k10_o1 : List AJ := [.o ⟨(some 3), none, false, .mv (.c (.int .i64 1048576)), (some [1, 3])⟩]
abbrev k10_o2 : List AJ := [.o ⟨(some 14), none, false, .load 2 true (.t 1), none⟩, .o ⟨(some 15), none, false, .mv (.t 3), none⟩, .o ⟨(some 16), none, false, .call 13 [(.t 14), (.t 15)], none⟩, .o ⟨(some 3), none, false, .mv (.t 16), (some [1, 3])⟩]
abbrev k10_o3 : List AJ := [.o ⟨(some 17), none, false, .mv (.t 3), none⟩, .o ⟨(some 18), none, false, .bin .lss (.t 17) (.c (.int .i64 0)), (some [1, 18])⟩]
abbrev k10_o4 : List AJ := [.o ⟨(some 2), none, false, .mv (.c (.bool true)), (some [2])⟩]
def k10_5 : ACode := .seq (.region k10_o4) .ret
def k10_6 : ACode := .cond (.t 18) k10_5 .skip
def k10_7 : ACode := .seq (.region k10_o3) k10_6
abbrev k10_o5 : List AJ := [.o ⟨(some 20), none, false, .load 2 true (.t 1), none⟩, .o ⟨(some 21), none, false, .call 15 [(.t 20)], none⟩, .o ⟨(some 22), none, false, .call 41 [(.t 21)], none⟩, .o ⟨(some 19), none, false, .mv (.t 22), none⟩, .o ⟨(some 23), none, false, .extract (.t 19) 0, none⟩, .o ⟨(some 24), none, false, .extract (.t 19) 1, none⟩, .o ⟨(some 4), none, false, .mv (.t 23), none⟩, .o ⟨(some 5), none, false, .mv (.t 24), (some [1, 4, 5])⟩]
abbrev k10_o6 : List AJ := [.o ⟨(some 25), none, false, .load 2 true (.t 1), none⟩, .o ⟨(some 26), none, false, .call 15 [(.t 25)], none⟩, .v 6 2 (.agg [.nilsl, .nilsl]) [] (.t 26) (some [1, 4, 5, 6])]
abbrev k10_o7 : List AJ := [.o ⟨(some 28), none, false, .load 2 true (.t 6), none⟩, .o ⟨(some 29), none, false, .call 42 [(.t 28)], none⟩, .o ⟨(some 27), none, false, .mv (.t 29), none⟩, .o ⟨(some 30), none, false, .extract (.t 27) 0, none⟩, .o ⟨(some 31), none, false, .extract (.t 27) 1, none⟩, .o ⟨(some 7), none, false, .mv (.t 30), none⟩, .o ⟨(some 8), none, false, .mv (.t 31), (some [1, 4, 5, 6, 7, 8])⟩]
abbrev k10_o8 : List AJ := [.o ⟨(some 32), none, false, .mv (.t 7), none⟩, .o ⟨(some 33), none, false, .mv (.t 4), none⟩, .o ⟨(some 34), none, false, .call 20 [(.t 32), (.t 33)], none⟩, .o ⟨(some 35), none, false, .un .not (.t 34), none⟩, .o ⟨(some 36), none, false, .mv (.t 35), none⟩, .o ⟨(some 37), (some (36, false)), false, .mv (.t 8), none⟩, .o ⟨(some 38), (some (36, false)), false, .mv (.t 5), none⟩, .o ⟨(some 39), (some (36, false)), false, .bin .neq (.t 37) (.t 38), none⟩, .o ⟨(some 40), none, false, .pick (.t 36) (.c (.bool true)) (.t 39), (some [1, 4, 5, 6, 7, 8, 40])⟩]
abbrev k10_o9 : List AJ := [.o ⟨(some 2), none, false, .mv (.c (.bool false)), (some [2])⟩]
def k10_13 : ACode := .seq (.region k10_o9) .ret
def k10_14 : ACode := .cond (.t 40) k10_13 .skip
def k10_15 : ACode := .seq (.region k10_o8) k10_14
abbrev k10_o10 : List AI := [⟨(some 41), none, false, .load 2 true (.t 6), none⟩, ⟨(some 42), none, false, .load 2 true (.t 1), none⟩, ⟨(some 43), none, false, .call 15 [(.t 42)], none⟩, ⟨(some 44), none, false, .call 17 [(.t 41), (.t 43)], none⟩, ⟨(some 45), none, false, .un .not (.t 44), (some [1, 4, 5, 6, 7, 8, 45])⟩]
abbrev k10_o11 : List AJ := [.o ⟨(some 2), none, false, .mv (.c (.bool false)), (some [2])⟩]
def k10_18 : ACode := .seq (.region k10_o11) .ret
def k10_19 : ACode := .cond (.t 45) k10_18 .skip
def k10_20 : ACode := .seq (.draw k10_o10 [] rfl) k10_19
abbrev k10_o12 : List AJ := [.o ⟨(some 9), none, false, .mv (.c (.int .i64 1)), (some [1, 4, 5, 6, 7, 8, 9])⟩]
abbrev k10_o13 : List AJ := [.o ⟨(some 46), none, false, .load 2 true (.t 6), none⟩, .o ⟨(some 47), none, false, .mv (.t 9), none⟩, .o ⟨(some 48), none, false, .call 21 [(.t 46), (.t 47)], none⟩, .o ⟨(some 9), none, false, .mv (.t 48), (some [1, 4, 5, 7, 8, 9])⟩]
abbrev k10_o14 : List AJ := [.o ⟨(some 49), none, false, .mv (.t 9), none⟩, .o ⟨(some 50), none, false, .bin .lss (.t 49) (.c (.int .i64 0)), none⟩, .o ⟨(some 51), none, false, .mv (.t 50), none⟩, .o ⟨(some 52), (some (51, false)), false, .mv (.t 7), none⟩, .o ⟨(some 53), (some (51, false)), false, .mv (.t 4), none⟩, .o ⟨(some 54), (some (51, false)), false, .call 20 [(.t 52), (.t 53)], none⟩, .o ⟨(some 55), (some (51, false)), false, .un .not (.t 54), none⟩, .o ⟨(some 56), none, false, .pick (.t 51) (.c (.bool true)) (.t 55), none⟩, .o ⟨(some 57), none, false, .mv (.t 56), none⟩, .o ⟨(some 58), (some (57, false)), false, .mv (.t 8), (some [1, 4, 5, 7, 57, 58])⟩, .o ⟨(some 59), (some (57, false)), false, .mv (.t 5), none⟩, .o ⟨(some 60), (some (57, false)), false, .bin .neq (.t 58) (.t 59), none⟩, .o ⟨(some 61), none, false, .pick (.t 57) (.c (.bool true)) (.t 60), (some [1, 4, 5, 7, 61])⟩]
abbrev k10_o15 : List AJ := [.o ⟨(some 2), none, false, .mv (.c (.bool false)), (some [2])⟩]
def k10_25 : ACode := .seq (.region k10_o15) .ret
def k10_26 : ACode := .cond (.t 61) k10_25 .skip
def k10_27 : ACode := .seq (.region k10_o14) k10_26
abbrev k10_o16 : List AJ := [.o ⟨(some 10), none, false, .mv (.c (.int .i64 1)), (some [1, 4, 5, 7, 10])⟩]
abbrev k10_o17 : List AJ := [.o ⟨(some 62), none, false, .mv (.t 7), none⟩, .o ⟨(some 63), none, false, .mv (.t 10), none⟩, .o ⟨(some 64), none, false, .call 22 [(.t 62), (.t 63)], none⟩, .o ⟨(some 10), none, false, .mv (.t 64), (some [1, 4, 5, 7, 10])⟩]
abbrev k10_o18 : List AJ := [.o ⟨(some 11), none, false, .mv (.c (.int .i64 1)), (some [1, 4, 5, 7, 10, 11])⟩]
abbrev k10_o19 : List AJ := [.o ⟨(some 65), none, false, .mv (.t 7), none⟩, .o ⟨(some 66), none, false, .mv (.t 11), none⟩, .o ⟨(some 67), none, false, .call 23 [(.t 65), (.t 66)], none⟩, .o ⟨(some 11), none, false, .mv (.t 67), (some [1, 4, 5, 7, 10, 11])⟩]
abbrev k10_o20 : List AJ := [.o ⟨(some 68), none, false, .mv (.t 11), none⟩, .o ⟨(some 69), none, false, .bin .lss (.t 68) (.c (.int .i64 0)), (some [1, 4, 5, 7, 10, 11, 69])⟩]
abbrev k10_o21 : List AJ := [.o ⟨(some 2), none, false, .mv (.c (.bool false)), (some [2])⟩]
def k10_34 : ACode := .seq (.region k10_o21) .ret
def k10_35 : ACode := .cond (.t 69) k10_34 .skip
def k10_36 : ACode := .seq (.region k10_o20) k10_35
abbrev k10_o22 : List AJ := [.o ⟨(some 70), none, false, .mv (.t 11), none⟩, .o ⟨(some 71), none, false, .mv (.t 10), none⟩, .o ⟨(some 72), none, false, .bin .neq (.t 70) (.t 71), (some [1, 4, 5, 7, 10, 72])⟩]
abbrev k10_o23 : List AJ := [.o ⟨(some 2), none, false, .mv (.c (.bool false)), (some [2])⟩]
def k10_39 : ACode := .seq (.region k10_o23) .ret
def k10_40 : ACode := .cond (.t 72) k10_39 .skip
def k10_41 : ACode := .seq (.region k10_o22) k10_40
abbrev k10_o24 : List AJ := [.o ⟨(some 74), none, false, .load 2 true (.t 1), none⟩, .o ⟨(some 75), none, false, .call 15 [(.t 74)], none⟩, .o ⟨(some 76), none, false, .call 42 [(.t 75)], none⟩, .o ⟨(some 73), none, false, .mv (.t 76), none⟩, .o ⟨(some 77), none, false, .extract (.t 73) 0, none⟩, .o ⟨(some 78), none, false, .extract (.t 73) 1, none⟩, .o ⟨(some 12), none, false, .mv (.t 77), none⟩, .o ⟨(some 13), none, false, .mv (.t 78), (some [4, 5, 7, 10, 12, 13])⟩]
abbrev k10_o25 : List AJ := [.o ⟨(some 79), none, false, .mv (.t 12), none⟩, .o ⟨(some 80), none, false, .mv (.t 4), none⟩, .o ⟨(some 81), none, false, .call 20 [(.t 79), (.t 80)], none⟩, .o ⟨(some 82), none, false, .un .not (.t 81), none⟩, .o ⟨(some 83), none, false, .mv (.t 82), none⟩, .o ⟨(some 84), (some (83, false)), false, .mv (.t 13), none⟩, .o ⟨(some 85), (some (83, false)), false, .mv (.t 5), none⟩, .o ⟨(some 86), (some (83, false)), false, .bin .neq (.t 84) (.t 85), none⟩, .o ⟨(some 87), none, false, .pick (.t 83) (.c (.bool true)) (.t 86), (some [7, 10, 87])⟩]
abbrev k10_o26 : List AJ := [.o ⟨(some 2), none, false, .mv (.c (.bool false)), (some [2])⟩]
def k10_45 : ACode := .seq (.region k10_o26) .ret
def k10_46 : ACode := .cond (.t 87) k10_45 .skip
def k10_47 : ACode := .seq (.region k10_o25) k10_46
abbrev k10_o27 : List AJ := [.o ⟨(some 11), none, false, .mv (.c (.int .i64 1)), (some [7, 10, 11])⟩]
abbrev k10_o28 : List AJ := [.o ⟨(some 88), none, false, .mv (.t 7), none⟩, .o ⟨(some 89), none, false, .mv (.t 11), none⟩, .o ⟨(some 90), none, false, .call 23 [(.t 88), (.t 89)], none⟩, .o ⟨(some 11), none, false, .mv (.t 90), (some [10, 11])⟩]
abbrev k10_o29 : List AJ := [.o ⟨(some 91), none, false, .mv (.t 11), none⟩, .o ⟨(some 92), none, false, .bin .lss (.t 91) (.c (.int .i64 0)), (some [10, 11, 92])⟩]
abbrev k10_o30 : List AJ := [.o ⟨(some 2), none, false, .mv (.c (.bool false)), (some [2])⟩]
def k10_52 : ACode := .seq (.region k10_o30) .ret
def k10_53 : ACode := .cond (.t 92) k10_52 .skip
def k10_54 : ACode := .seq (.region k10_o29) k10_53
abbrev k10_o31 : List AJ := [.o ⟨(some 93), none, false, .mv (.t 11), none⟩, .o ⟨(some 94), none, false, .mv (.t 10), none⟩, .o ⟨(some 95), none, false, .bin .neq (.t 93) (.t 94), (some [95])⟩]
abbrev k10_o32 : List AJ := [.o ⟨(some 2), none, false, .mv (.c (.bool false)), (some [2])⟩]
def k10_57 : ACode := .seq (.region k10_o32) .ret
def k10_58 : ACode := .cond (.t 95) k10_57 .skip
def k10_59 : ACode := .seq (.region k10_o31) k10_58
abbrev k10_o33 : List AJ := [.o ⟨(some 2), none, false, .mv (.c (.bool true)), (some [2])⟩]
def k10_61 : ACode := .seq (.region k10_o33) .ret
def k10_62 : ACode := .seq k10_59 k10_61
def k10_63 : ACode := .seq k10_54 k10_62
def k10_64 : ACode := .seq (.region k10_o28) k10_63
def k10_65 : ACode := .seq (.region k10_o27) k10_64
def k10_66 : ACode := .seq k10_47 k10_65
def k10_67 : ACode := .seq (.region k10_o24) k10_66
def k10_68 : ACode := .seq k10_41 k10_67
def k10_69 : ACode := .seq k10_36 k10_68
def k10_70 : ACode := .seq (.region k10_o19) k10_69
def k10_71 : ACode := .seq (.region k10_o18) k10_70
def k10_72 : ACode := .seq (.region k10_o17) k10_71
def k10_73 : ACode := .seq (.region k10_o16) k10_72
def k10_74 : ACode := .seq k10_27 k10_73
def k10_75 : ACode := .seq (.region k10_o13) k10_74
def k10_76 : ACode := .seq (.region k10_o12) k10_75
def k10_77 : ACode := .seq k10_20 k10_76
def k10_78 : ACode := .seq k10_15 k10_77
def k10_79 : ACode := .seq (.region k10_o7) k10_78
def k10_80 : ACode := .seq (.region k10_o6) k10_79
def k10_81 : ACode := .seq (.region k10_o5) k10_80
def k10_82 : ACode := .seq k10_7 k10_81
def k10_83 : ACode := .seq (.region k10_o2) k10_82
def k10_84 : ACode := .seq (.region k10_o1) k10_83
def k10_85 : ACode := .seq (.region k10_o0) k10_84
@[simp, simp ↓] theorem k10_5r : sR k10_5 k10_o4 .ret := yR rfl
@[simp, simp ↓] theorem k10_6r : rC k10_6 (.t 18) k10_5 .skip := zC rfl
@[simp, simp ↓] theorem k10_7r : sR k10_7 k10_o3 k10_6 := yR rfl
@[simp, simp ↓] theorem k10_13r : sR k10_13 k10_o9 .ret := yR rfl
@[simp, simp ↓] theorem k10_14r : rC k10_14 (.t 40) k10_13 .skip := zC rfl
@[simp, simp ↓] theorem k10_15r : sR k10_15 k10_o8 k10_14 := yR rfl
@[simp, simp ↓] theorem k10_18r : sR k10_18 k10_o11 .ret := yR rfl
@[simp, simp ↓] theorem k10_19r : rC k10_19 (.t 45) k10_18 .skip := zC rfl
@[simp, simp ↓] theorem k10_20r : sD k10_20 k10_o10 [] k10_19 := yD rfl
@[simp, simp ↓] theorem k10_25r : sR k10_25 k10_o15 .ret := yR rfl
@[simp, simp ↓] theorem k10_26r : rC k10_26 (.t 61) k10_25 .skip := zC rfl
@[simp, simp ↓] theorem k10_27r : sR k10_27 k10_o14 k10_26 := yR rfl
@[simp, simp ↓] theorem k10_34r : sR k10_34 k10_o21 .ret := yR rfl
@[simp, simp ↓] theorem k10_35r : rC k10_35 (.t 69) k10_34 .skip := zC rfl
@[simp, simp ↓] theorem k10_36r : sR k10_36 k10_o20 k10_35 := yR rfl
@[simp, simp ↓] theorem k10_39r : sR k10_39 k10_o23 .ret := yR rfl
@[simp, simp ↓] theorem k10_40r : rC k10_40 (.t 72) k10_39 .skip := zC rfl
@[simp, simp ↓] theorem k10_41r : sR k10_41 k10_o22 k10_40 := yR rfl
@[simp, simp ↓] theorem k10_45r : sR k10_45 k10_o26 .ret := yR rfl
@[simp, simp ↓] theorem k10_46r : rC k10_46 (.t 87) k10_45 .skip := zC rfl
@[simp, simp ↓] theorem k10_47r : sR k10_47 k10_o25 k10_46 := yR rfl
@[simp, simp ↓] theorem k10_52r : sR k10_52 k10_o30 .ret := yR rfl
@[simp, simp ↓] theorem k10_53r : rC k10_53 (.t 92) k10_52 .skip := zC rfl
@[simp, simp ↓] theorem k10_54r : sR k10_54 k10_o29 k10_53 := yR rfl
@[simp, simp ↓] theorem k10_57r : sR k10_57 k10_o32 .ret := yR rfl
@[simp, simp ↓] theorem k10_58r : rC k10_58 (.t 95) k10_57 .skip := zC rfl
@[simp, simp ↓] theorem k10_59r : sR k10_59 k10_o31 k10_58 := yR rfl
@[simp, simp ↓] theorem k10_61r : sR k10_61 k10_o33 .ret := yR rfl
@[simp, simp ↓] theorem k10_62r : rS k10_62 k10_59 k10_61 := zS rfl
@[simp, simp ↓] theorem k10_63r : rS k10_63 k10_54 k10_62 := zS rfl
@[simp, simp ↓] theorem k10_64r : sR k10_64 k10_o28 k10_63 := yR rfl
@[simp, simp ↓] theorem k10_65r : sR k10_65 k10_o27 k10_64 := yR rfl
@[simp, simp ↓] theorem k10_66r : rS k10_66 k10_47 k10_65 := zS rfl
@[simp, simp ↓] theorem k10_67r : sR k10_67 k10_o24 k10_66 := yR rfl
@[simp, simp ↓] theorem k10_68r : rS k10_68 k10_41 k10_67 := zS rfl
@[simp, simp ↓] theorem k10_69r : rS k10_69 k10_36 k10_68 := zS rfl
@[simp, simp ↓] theorem k10_70r : sR k10_70 k10_o19 k10_69 := yR rfl
@[simp, simp ↓] theorem k10_71r : sR k10_71 k10_o18 k10_70 := yR rfl
@[simp, simp ↓] theorem k10_72r : sR k10_72 k10_o17 k10_71 := yR rfl
@[simp, simp ↓] theorem k10_73r : sR k10_73 k10_o16 k10_72 := yR rfl
@[simp, simp ↓] theorem k10_74r : rS k10_74 k10_27 k10_73 := zS rfl
@[simp, simp ↓] theorem k10_75r : sR k10_75 k10_o13 k10_74 := yR rfl
@[simp, simp ↓] theorem k10_76r : sR k10_76 k10_o12 k10_75 := yR rfl
@[simp, simp ↓] theorem k10_77r : rS k10_77 k10_20 k10_76 := zS rfl
@[simp, simp ↓] theorem k10_78r : rS k10_78 k10_15 k10_77 := zS rfl
@[simp, simp ↓] theorem k10_79r : sR k10_79 k10_o7 k10_78 := yR rfl
@[simp, simp ↓] theorem k10_80r : sR k10_80 k10_o6 k10_79 := yR rfl
@[simp, simp ↓] theorem k10_81r : sR k10_81 k10_o5 k10_80 := yR rfl
@[simp, simp ↓] theorem k10_82r : rS k10_82 k10_7 k10_81 := zS rfl
@[simp, simp ↓] theorem k10_83r : sR k10_83 k10_o2 k10_82 := yR rfl
@[simp, simp ↓] theorem k10_84r : sR k10_84 k10_o1 k10_83 := yR rfl
@[simp, simp ↓] theorem k10_85r : sR k10_85 k10_o0 k10_84 := yR rfl
noncomputable abbrev k10_C : Orc → Cx := mkC Try.prog [6] 10 96 [.tmp 2]
theorem k10_of : OfP Try.prog Try.f10 10 96 k10_C k10_85 := @ofP _ _ _ _ _ _ _ _ Try.func10 (by decide +kernel) rfl (by kernel_rfl) rfl (by kernel_rfl)
theorem k10_of0 : OfP0 Try.prog Try.f10 10 96 k10_C k10_85 := @ofP0 _ _ _ _ _ _ _ _ Try.func10 (by decide +kernel) rfl (by kernel_rfl) rfl (by kernel_rfl)
theorem co_law (x : Fil) (hx : x.wf) : ACalls Try.prog 10 [x.av] [] (fun v h' => v = .bool true ∧ h' = []) := by
  refine k10_of rfl orcM_p fun I => ?_
  have hx2_x := hx
  refine Run2.of I 1000 ?_
  by_cases kx : (x.tot : Int) ≤ (1048576 : Int)
  · have hAx : ¬ (1048576 : Int) < x.tot := by omega
    have hBx : ¬ (1048576 : Int) - x.tot < 0 := by omega
    have hCx : (0 : Int) ≤ (1048576 : Int) - x.tot := by omega
    have lx : x.tot ≤ 1048576 := by omega
    have hDx : (1048576 : Int) - x.tot ≤ 1048576 := by omega
    have hct := x.orL_len
    have hxc := x.cnt_le
    simp -implicitDefEqProofs [hx2_x, hAx, hBx, hCx, hDx, kx]
    first | refine dcallK (toFil_c x _ lx) ?_ | (refine (toFil_c x _ lx).mono ?_; rintro v h' ⟨rfl, rfl⟩; refine gK.go ?_)
    simp -implicitDefEqProofs
    first | refine dcallK (specCO_c x _ lx) ?_ | (refine (specCO_c x _ lx).mono ?_; rintro v h' ⟨rfl, rfl⟩; refine gK.go ?_)
    simp -implicitDefEqProofs
    refine (toFil_o x _ lx).monoN ?_
    rintro v0 h' ⟨g0, o0, d0, rfl⟩ n0
    obtain ⟨pu0, pw0, pa0, pb0, rfl, pou0, pow0, phd0, phe0⟩ := id o0
    have c0 := pou0.cell
    have c0_1 := pow0.cell
    refine gK.go ?_
    simp -implicitDefEqProofs [c0, c0_1]
    simp only [List.append_nil] at n0
    have L0 := o0.lentMid (A := []) (B := []) (by simpa only [List.nil_append, List.append_nil, List.append_assoc] using n0)
    simp only [List.nil_append, List.append_nil, List.append_assoc] at L0
    refine (ACalls.gives g0 (fun p hp => hp) (S := fun v h' => ∃ w, v = .tup [w, .int .i64 x.orC] ∧ OwnL iv 1 w x.orL h') ?_ ?_).monoN ?_
    · rw [lend_cons, lend_nil']
      exact ACalls.wk (.cons L0.wk .nil) (implCO_o x lx)
    · rintro v h' ⟨w, rfl, ho⟩
      have := ho.own own_iv1
      exact ⟨by simp [own, owns, this.1], this.2⟩
    rintro v h' ⟨gg, ⟨w, rfl, og⟩, dg, rfl⟩ ng
    refine gK.go ?_
    simp -implicitDefEqProofs [c0, c0_1]
    first | refine dcallK (eqI_own og (.snap x.orL) (fun p hp => List.mem_append_left _ hp) (show x.orL.length ≤ 1048576 by have := x.lens lx; omega)) ?_ | (refine (eqI_own og (.snap x.orL) (fun p hp => List.mem_append_left _ hp) (show x.orL.length ≤ 1048576 by have := x.lens lx; omega)).mono ?_; rintro v h' ⟨rfl, rfl⟩; refine gK.go ?_)
    simp -implicitDefEqProofs [c0, c0_1]
    first | refine dcallK (toFil_c x _ lx) ?_ | (refine (toFil_c x _ lx).mono ?_; rintro v h' ⟨rfl, rfl⟩; refine gK.go ?_)
    simp -implicitDefEqProofs [c0, c0_1]
    first | refine dcallK (eqFil_own o0 x.is (fun p hp => List.mem_append_right _ (hp)) lx) ?_ | (refine (eqFil_own o0 x.is (fun p hp => List.mem_append_right _ (hp)) lx).mono ?_; rintro v h' ⟨rfl, rfl⟩; refine gK.go ?_)
    simp -implicitDefEqProofs [c0, c0_1]
    refine (markFil_drop o0 gg (fun p hp => List.mem_append_right _ (hp)) ?_ ?_ (1) (by omega) (by omega)).monoN ?_
    · simpa only [List.append_assoc] using keepL (a := gg) (b := g0) (by simpa only [List.append_assoc] using ng)
    · exact fun nd => nodupL (a := gg) (b := g0) (by simpa only [List.append_assoc] using nd)
    rintro _ _ ⟨e1, e2⟩ nk0
    rw [e1, e2]; rw [e2] at nk0
    refine gK.go ?_
    have hk : ¬ (1 + ((x).cnt : Int)) < 0 := by omega
    simp -implicitDefEqProofs [c0, c0_1, hk]
    first | refine dcallK (eqI_own og (.snap x.orL) (fun p hp => hp) (show x.orL.length ≤ 1048576 by have := x.lens lx; omega)) ?_ | (refine (eqI_own og (.snap x.orL) (fun p hp => hp) (show x.orL.length ≤ 1048576 by have := x.lens lx; omega)).mono ?_; rintro v h' ⟨rfl, rfl⟩; refine gK.go ?_)
    simp -implicitDefEqProofs [c0, c0_1]
    skip
    refine (markI_keep og [] (fun p hp => hp) keepN (fun _ => by simp [dom]) 1 (by omega) (by have := (show x.orL.length ≤ 1048576 by have := x.lens lx; omega); omega)).mono ?_
    rintro _ _ ⟨gm, rfl, om, rfl⟩
    refine gK.go ?_
    simp -implicitDefEqProofs [c0, c0_1]
    have hq : ¬ (1 + (x.orL.length : Int) < 0) := by omega
    first | refine dcallK (heldI_own om (fun p hp => hp) 1 (by omega) (by have := (show x.orL.length ≤ 1048576 by have := x.lens lx; omega); simp; omega)) ?_ | (refine (heldI_own om (fun p hp => hp) 1 (by omega) (by have := (show x.orL.length ≤ 1048576 by have := x.lens lx; omega); simp; omega)).mono ?_; rintro v h' ⟨rfl, rfl⟩; refine gK.go ?_)
    simp -implicitDefEqProofs [c0, c0_1, hq]
    first | refine dcallK (toFil_c x _ lx) ?_ | (refine (toFil_c x _ lx).mono ?_; rintro v h' ⟨rfl, rfl⟩; refine gK.go ?_)
    simp -implicitDefEqProofs [c0, c0_1]
    refine (ACalls.gives [] (by simp) (S := fun v h' => ∃ w, v = .tup [w, .int .i64 x.orC] ∧ OwnL iv 1 w x.orL h') ?_ ?_).mono ?_
    · exact implCO_o x lx
    · rintro v h' ⟨w, rfl, ho⟩
      have := ho.own own_iv1
      exact ⟨by simp [own, owns, this.1], this.2⟩
    rintro _ _ ⟨g9, ⟨w9, rfl, o9⟩, d9, rfl⟩
    refine gK.go ?_
    simp -implicitDefEqProofs [c0, c0_1, hq]
    first | refine dcallK (eqI_own o9 (.snap x.orL) (fun p hp => List.mem_append_left _ hp) (show x.orL.length ≤ 1048576 by have := x.lens lx; omega)) ?_ | (refine (eqI_own o9 (.snap x.orL) (fun p hp => List.mem_append_left _ hp) (show x.orL.length ≤ 1048576 by have := x.lens lx; omega)).mono ?_; rintro v h' ⟨rfl, rfl⟩; refine gK.go ?_)
    simp -implicitDefEqProofs [c0, c0_1, hq]
    first | refine dcallK (heldI_own om (fun p hp => List.mem_append_right _ hp) 1 (by omega) (by have := (show x.orL.length ≤ 1048576 by have := x.lens lx; omega); simp; omega)) ?_ | (refine (heldI_own om (fun p hp => List.mem_append_right _ hp) 1 (by omega) (by have := (show x.orL.length ≤ 1048576 by have := x.lens lx; omega); simp; omega)).mono ?_; rintro v h' ⟨rfl, rfl⟩; refine gK.go ?_)
    simp -implicitDefEqProofs [c0, c0_1, hq]
    exact Post.none ⟨rfl, rfl⟩
  · have hAx : (1048576 : Int) < x.tot := by omega
    simp -implicitDefEqProofs [hx2_x, hAx]
    exact .base ⟨rfl, rfl⟩
end Go.AG
namespace Go.Proofs.Ytamjnegnoijjlaa
open Go.ChangeShapes Go.WideShapes Go.ChangeAt Go.RowKit Go.AG
theorem own : ownKnob Try.prog.godebug = none := by kernel_rfl
theorem laidOut : laidOutB Try.prog = true := by kernel_rfl
set_option maxRecDepth 100000 in
theorem fnExactComingOrder_lifted (os : Os) (started : os.Started) (H : Type) (enc : TypeId × Value → H) :
    ReturnsInHanded {} Try.checked os 10 .any (Rows.fnExactComingOrderSpec.pre6 enc Try.prog Try.f10 Rows.fnExactComingOrderRow.domain false) (Rows.fnExactComingOrderSpec.post enc Try.prog Try.f10 false true false false) := by
  refine returnsInHanded_of_change (C := Try.checked) own started (by kernel_rfl) Try.func10
    (ChangeSpec.witness6 (enc := enc) (C := Try.checked) false ⟨#[], #[.agg #[.slice none 0 0, .slice none 0 0]], []⟩ 8 (by kernel_rfl) (by kernel_rfl) (by kernel_rfl) (by kernel_rfl)) ?_
  intro W base args ds gs before hval0 hW _ _
  have hval : ∀ (j : Nat) t v, Try.f10.params[j]? = some t → args[j]? = some v → Value.okWide Try.prog W .any base t v := hval0
  refine law_post (tys := [tyF]) (tb := 4) laidOut rfl (by kernel_rfl) (by kernel_rfl) (by kernel_rfl) (by kernel_rfl) hval hW ?_ ?_
  · intro ds h
    match ds, h with
    | [a0], _ => rfl
  · rintro xs ⟨x0, r0, rfl, h0, hr⟩
    have hr0 : r0 = [] := hr
    subst hr0
    obtain ⟨p0, rfl, q0⟩ := Fil_of_shape h0
    exact co_law p0 q0
theorem fnExactComingOrder_holds : Rows.FnExactComingOrderSaid :=
  OpenClaim.holds_of_wide 10 Try.f10 rfl rfl rfl rfl rfl rfl rfl ⟨rfl, rfl, rfl, rfl, rfl⟩ rfl rfl rfl rfl rfl (by kernel_rfl) Try.func10 (by kernel_rfl)
    (of_decide_eq_true (by kernel_rfl)) (by unfold Func.isWrapper; first | (rw [if_pos (by decide +kernel)]; kernel_rfl) | (rw [if_neg (by decide +kernel)]; exact ⟨rfl, rfl⟩))
    (fun os started H enc _ => fnExactComingOrder_lifted os started H enc)
end Go.Proofs.Ytamjnegnoijjlaa
