/- The law FnExactRaiseTime is true for every input: the program's RaiseTime returns what the reference's returns. -/
import Derived.Test.YtamjnegnoijjlaaGreatFxS
import Derived.Test.YtamjnegnoijjlaaGreatFilL
namespace Go.AG
open Go.Proofs Go.Proofs.YtamjnegnoijjlaaGreat
set_option linter.unusedSimpArgs false
set_option linter.unusedVariables false
set_option maxRecDepth 4000
abbrev k3_o0 : List AJ := [.o ⟨(some 3), none, false, .box false 2 (.t 0), none⟩, .o ⟨(some 6), none, false, .mv (.c (.bool false)), (some [1, 2, 3])⟩]
abbrev k3_o1 : List AJ := [.o ⟨(some 7), none, false, .mv (.c (.int .i64 1048576)), (some [1, 2, 3, 7])⟩]
abbrev k3_o2 : List AJ := [.o ⟨(some 18), none, false, .load 2 true (.t 3), none⟩, .o ⟨(some 19), none, false, .mv (.t 7), none⟩, .o ⟨(some 20), none, false, .call 7 [(.t 18), (.t 19)], none⟩, .o ⟨(some 7), none, false, .mv (.t 20), (some [1, 2, 3, 7])⟩]
abbrev k3_o3 : List AJ := [.o ⟨(some 21), none, false, .mv (.t 7), none⟩, .o ⟨(some 22), none, false, .bin .lss (.t 21) (.c (.int .i64 0)), (some [1, 2, 3, 22])⟩]
abbrev k3_o4 : List AJ := [.o ⟨(some 6), none, false, .mv (.c (.bool true)), (some [6])⟩]
def k3_5 : ACode := .seq (.region k3_o4) .ret
def k3_6 : ACode := .cond (.t 22) k3_5 .skip
def k3_7 : ACode := .seq (.region k3_o3) k3_6
abbrev k3_o5 : List AJ := [.o ⟨(some 24), none, false, .load 2 true (.t 3), none⟩, .o ⟨(some 25), none, false, .call 9 [(.t 24)], none⟩, .o ⟨(some 26), none, false, .mv (.t 1), none⟩, .o ⟨(some 27), none, false, .mv (.t 2), none⟩, .o ⟨(some 28), none, false, .call 8 [(.t 25), (.t 26), (.t 27)], none⟩, .o ⟨(some 23), none, false, .mv (.t 28), none⟩, .o ⟨(some 29), none, false, .extract (.t 23) 0, none⟩, .o ⟨(some 30), none, false, .extract (.t 23) 1, none⟩, .v 8 2 (.agg [.nilsl, .nilsl]) [] (.t 29) none, .o ⟨(some 9), none, false, .mv (.t 30), (some [1, 2, 3, 8, 9])⟩]
abbrev k3_o6 : List AJ := [.o ⟨(some 31), none, false, .load 2 true (.t 3), none⟩, .o ⟨(some 32), none, false, .call 9 [(.t 31)], none⟩, .v 10 2 (.agg [.nilsl, .nilsl]) [] (.t 32) (some [1, 2, 3, 8, 9, 10])]
abbrev k3_o7 : List AJ := [.o ⟨(some 34), none, false, .load 2 true (.t 10), none⟩, .o ⟨(some 35), none, false, .mv (.t 1), none⟩, .o ⟨(some 36), none, false, .mv (.t 2), none⟩, .o ⟨(some 37), none, false, .call 10 [(.t 34), (.t 35), (.t 36)], none⟩, .o ⟨(some 33), none, false, .mv (.t 37), none⟩, .o ⟨(some 38), none, false, .extract (.t 33) 0, none⟩, .o ⟨(some 39), none, false, .extract (.t 33) 1, none⟩, .v 11 2 (.agg [.nilsl, .nilsl]) [] (.t 38) none, .o ⟨(some 12), none, false, .mv (.t 39), (some [1, 2, 3, 8, 9, 10, 11, 12])⟩]
abbrev k3_o8 : List AJ := [.o ⟨(some 40), none, false, .load 2 true (.t 11), none⟩, .o ⟨(some 41), none, false, .load 2 true (.t 8), none⟩, .o ⟨(some 42), none, false, .call 11 [(.t 40), (.t 41)], none⟩, .o ⟨(some 43), none, false, .un .not (.t 42), none⟩, .o ⟨(some 44), none, false, .mv (.t 43), none⟩, .o ⟨(some 45), (some (44, false)), false, .mv (.t 12), none⟩, .o ⟨(some 46), (some (44, false)), false, .mv (.t 9), none⟩, .o ⟨(some 47), (some (44, false)), false, .bin .neq (.t 45) (.t 46), none⟩, .o ⟨(some 48), none, false, .pick (.t 44) (.c (.bool true)) (.t 47), (some [1, 2, 3, 8, 9, 10, 11, 12, 48])⟩]
abbrev k3_o9 : List AJ := [.o ⟨(some 6), none, false, .mv (.c (.bool false)), (some [6])⟩]
def k3_13 : ACode := .seq (.region k3_o9) .ret
def k3_14 : ACode := .cond (.t 48) k3_13 .skip
def k3_15 : ACode := .seq (.region k3_o8) k3_14
abbrev k3_o10 : List AI := [⟨(some 49), none, false, .load 2 true (.t 10), none⟩, ⟨(some 50), none, false, .load 2 true (.t 3), none⟩, ⟨(some 51), none, false, .call 9 [(.t 50)], none⟩, ⟨(some 52), none, false, .call 11 [(.t 49), (.t 51)], none⟩, ⟨(some 53), none, false, .un .not (.t 52), (some [1, 2, 3, 8, 9, 10, 11, 12, 53])⟩]
abbrev k3_o11 : List AJ := [.o ⟨(some 6), none, false, .mv (.c (.bool false)), (some [6])⟩]
def k3_18 : ACode := .seq (.region k3_o11) .ret
def k3_19 : ACode := .cond (.t 53) k3_18 .skip
def k3_20 : ACode := .seq (.draw k3_o10 [] rfl) k3_19
abbrev k3_o12 : List AJ := [.o ⟨(some 13), none, false, .mv (.c (.int .i64 1)), (some [1, 2, 3, 8, 9, 10, 11, 12, 13])⟩]
abbrev k3_o13 : List AJ := [.o ⟨(some 54), none, false, .load 2 true (.t 10), none⟩, .o ⟨(some 55), none, false, .mv (.t 13), none⟩, .o ⟨(some 56), none, false, .call 12 [(.t 54), (.t 55)], none⟩, .o ⟨(some 13), none, false, .mv (.t 56), (some [1, 2, 3, 8, 9, 11, 12, 13])⟩]
abbrev k3_o14 : List AJ := [.o ⟨(some 57), none, false, .mv (.t 13), none⟩, .o ⟨(some 58), none, false, .bin .lss (.t 57) (.c (.int .i64 0)), none⟩, .o ⟨(some 59), none, false, .mv (.t 58), none⟩, .o ⟨(some 60), (some (59, false)), false, .load 2 true (.t 11), none⟩, .o ⟨(some 61), (some (59, false)), false, .load 2 true (.t 8), none⟩, .o ⟨(some 62), (some (59, false)), false, .call 11 [(.t 60), (.t 61)], none⟩, .o ⟨(some 63), (some (59, false)), false, .un .not (.t 62), none⟩, .o ⟨(some 64), none, false, .pick (.t 59) (.c (.bool true)) (.t 63), none⟩, .o ⟨(some 65), none, false, .mv (.t 64), none⟩, .o ⟨(some 66), (some (65, false)), false, .mv (.t 12), (some [1, 2, 3, 8, 9, 11, 65, 66])⟩, .o ⟨(some 67), (some (65, false)), false, .mv (.t 9), none⟩, .o ⟨(some 68), (some (65, false)), false, .bin .neq (.t 66) (.t 67), none⟩, .o ⟨(some 69), none, false, .pick (.t 65) (.c (.bool true)) (.t 68), (some [1, 2, 3, 8, 9, 11, 69])⟩]
abbrev k3_o15 : List AJ := [.o ⟨(some 6), none, false, .mv (.c (.bool false)), (some [6])⟩]
def k3_25 : ACode := .seq (.region k3_o15) .ret
def k3_26 : ACode := .cond (.t 69) k3_25 .skip
def k3_27 : ACode := .seq (.region k3_o14) k3_26
abbrev k3_o16 : List AJ := [.o ⟨(some 14), none, false, .mv (.c (.int .i64 1)), (some [1, 2, 3, 8, 9, 11, 14])⟩]
abbrev k3_o17 : List AJ := [.o ⟨(some 70), none, false, .load 2 true (.t 11), none⟩, .o ⟨(some 71), none, false, .mv (.t 14), none⟩, .o ⟨(some 72), none, false, .call 12 [(.t 70), (.t 71)], none⟩, .o ⟨(some 14), none, false, .mv (.t 72), (some [1, 2, 3, 8, 9, 11, 14])⟩]
abbrev k3_o18 : List AJ := [.o ⟨(some 15), none, false, .mv (.c (.int .i64 1)), (some [1, 2, 3, 8, 9, 11, 14, 15])⟩]
abbrev k3_o19 : List AJ := [.o ⟨(some 73), none, false, .load 2 true (.t 11), none⟩, .o ⟨(some 74), none, false, .mv (.t 15), none⟩, .o ⟨(some 75), none, false, .call 13 [(.t 73), (.t 74)], none⟩, .o ⟨(some 15), none, false, .mv (.t 75), (some [1, 2, 3, 8, 9, 11, 14, 15])⟩]
abbrev k3_o20 : List AJ := [.o ⟨(some 76), none, false, .mv (.t 15), none⟩, .o ⟨(some 77), none, false, .bin .lss (.t 76) (.c (.int .i64 0)), (some [1, 2, 3, 8, 9, 11, 14, 15, 77])⟩]
abbrev k3_o21 : List AJ := [.o ⟨(some 6), none, false, .mv (.c (.bool false)), (some [6])⟩]
def k3_34 : ACode := .seq (.region k3_o21) .ret
def k3_35 : ACode := .cond (.t 77) k3_34 .skip
def k3_36 : ACode := .seq (.region k3_o20) k3_35
abbrev k3_o22 : List AJ := [.o ⟨(some 78), none, false, .mv (.t 15), none⟩, .o ⟨(some 79), none, false, .mv (.t 14), none⟩, .o ⟨(some 80), none, false, .bin .neq (.t 78) (.t 79), (some [1, 2, 3, 8, 9, 11, 14, 80])⟩]
abbrev k3_o23 : List AJ := [.o ⟨(some 6), none, false, .mv (.c (.bool false)), (some [6])⟩]
def k3_39 : ACode := .seq (.region k3_o23) .ret
def k3_40 : ACode := .cond (.t 80) k3_39 .skip
def k3_41 : ACode := .seq (.region k3_o22) k3_40
abbrev k3_o24 : List AJ := [.o ⟨(some 82), none, false, .load 2 true (.t 3), none⟩, .o ⟨(some 83), none, false, .call 9 [(.t 82)], none⟩, .o ⟨(some 84), none, false, .mv (.t 1), none⟩, .o ⟨(some 85), none, false, .mv (.t 2), none⟩, .o ⟨(some 86), none, false, .call 10 [(.t 83), (.t 84), (.t 85)], none⟩, .o ⟨(some 81), none, false, .mv (.t 86), none⟩, .o ⟨(some 87), none, false, .extract (.t 81) 0, none⟩, .o ⟨(some 88), none, false, .extract (.t 81) 1, none⟩, .v 16 2 (.agg [.nilsl, .nilsl]) [] (.t 87) none, .o ⟨(some 17), none, false, .mv (.t 88), (some [8, 9, 11, 14, 16, 17])⟩]
abbrev k3_o25 : List AJ := [.o ⟨(some 89), none, false, .load 2 true (.t 16), none⟩, .o ⟨(some 90), none, false, .load 2 true (.t 8), none⟩, .o ⟨(some 91), none, false, .call 11 [(.t 89), (.t 90)], none⟩, .o ⟨(some 92), none, false, .un .not (.t 91), none⟩, .o ⟨(some 93), none, false, .mv (.t 92), none⟩, .o ⟨(some 94), (some (93, false)), false, .mv (.t 17), none⟩, .o ⟨(some 95), (some (93, false)), false, .mv (.t 9), none⟩, .o ⟨(some 96), (some (93, false)), false, .bin .neq (.t 94) (.t 95), none⟩, .o ⟨(some 97), none, false, .pick (.t 93) (.c (.bool true)) (.t 96), (some [11, 14, 97])⟩]
abbrev k3_o26 : List AJ := [.o ⟨(some 6), none, false, .mv (.c (.bool false)), (some [6])⟩]
def k3_45 : ACode := .seq (.region k3_o26) .ret
def k3_46 : ACode := .cond (.t 97) k3_45 .skip
def k3_47 : ACode := .seq (.region k3_o25) k3_46
abbrev k3_o27 : List AJ := [.o ⟨(some 15), none, false, .mv (.c (.int .i64 1)), (some [11, 14, 15])⟩]
abbrev k3_o28 : List AJ := [.o ⟨(some 98), none, false, .load 2 true (.t 11), none⟩, .o ⟨(some 99), none, false, .mv (.t 15), none⟩, .o ⟨(some 100), none, false, .call 13 [(.t 98), (.t 99)], none⟩, .o ⟨(some 15), none, false, .mv (.t 100), (some [14, 15])⟩]
abbrev k3_o29 : List AJ := [.o ⟨(some 101), none, false, .mv (.t 15), none⟩, .o ⟨(some 102), none, false, .bin .lss (.t 101) (.c (.int .i64 0)), (some [14, 15, 102])⟩]
abbrev k3_o30 : List AJ := [.o ⟨(some 6), none, false, .mv (.c (.bool false)), (some [6])⟩]
def k3_52 : ACode := .seq (.region k3_o30) .ret
def k3_53 : ACode := .cond (.t 102) k3_52 .skip
def k3_54 : ACode := .seq (.region k3_o29) k3_53
abbrev k3_o31 : List AJ := [.o ⟨(some 103), none, false, .mv (.t 15), none⟩, .o ⟨(some 104), none, false, .mv (.t 14), none⟩, .o ⟨(some 105), none, false, .bin .neq (.t 103) (.t 104), (some [105])⟩]
abbrev k3_o32 : List AJ := [.o ⟨(some 6), none, false, .mv (.c (.bool false)), (some [6])⟩]
def k3_57 : ACode := .seq (.region k3_o32) .ret
def k3_58 : ACode := .cond (.t 105) k3_57 .skip
def k3_59 : ACode := .seq (.region k3_o31) k3_58
abbrev k3_o33 : List AJ := [.o ⟨(some 6), none, false, .mv (.c (.bool true)), (some [6])⟩]
def k3_61 : ACode := .seq (.region k3_o33) .ret
def k3_62 : ACode := .seq k3_59 k3_61
def k3_63 : ACode := .seq k3_54 k3_62
def k3_64 : ACode := .seq (.region k3_o28) k3_63
def k3_65 : ACode := .seq (.region k3_o27) k3_64
def k3_66 : ACode := .seq k3_47 k3_65
def k3_67 : ACode := .seq (.region k3_o24) k3_66
def k3_68 : ACode := .seq k3_41 k3_67
def k3_69 : ACode := .seq k3_36 k3_68
def k3_70 : ACode := .seq (.region k3_o19) k3_69
def k3_71 : ACode := .seq (.region k3_o18) k3_70
def k3_72 : ACode := .seq (.region k3_o17) k3_71
def k3_73 : ACode := .seq (.region k3_o16) k3_72
def k3_74 : ACode := .seq k3_27 k3_73
def k3_75 : ACode := .seq (.region k3_o13) k3_74
def k3_76 : ACode := .seq (.region k3_o12) k3_75
def k3_77 : ACode := .seq k3_20 k3_76
def k3_78 : ACode := .seq k3_15 k3_77
def k3_79 : ACode := .seq (.region k3_o7) k3_78
def k3_80 : ACode := .seq (.region k3_o6) k3_79
def k3_81 : ACode := .seq (.region k3_o5) k3_80
def k3_82 : ACode := .seq k3_7 k3_81
def k3_83 : ACode := .seq (.region k3_o2) k3_82
def k3_84 : ACode := .seq (.region k3_o1) k3_83
def k3_85 : ACode := .seq (.region k3_o0) k3_84
@[simp, simp ↓] theorem k3_5r : sR k3_5 k3_o4 .ret := yR rfl
@[simp, simp ↓] theorem k3_6r : rC k3_6 (.t 22) k3_5 .skip := zC rfl
@[simp, simp ↓] theorem k3_7r : sR k3_7 k3_o3 k3_6 := yR rfl
@[simp, simp ↓] theorem k3_13r : sR k3_13 k3_o9 .ret := yR rfl
@[simp, simp ↓] theorem k3_14r : rC k3_14 (.t 48) k3_13 .skip := zC rfl
@[simp, simp ↓] theorem k3_15r : sR k3_15 k3_o8 k3_14 := yR rfl
@[simp, simp ↓] theorem k3_18r : sR k3_18 k3_o11 .ret := yR rfl
@[simp, simp ↓] theorem k3_19r : rC k3_19 (.t 53) k3_18 .skip := zC rfl
@[simp, simp ↓] theorem k3_20r : sD k3_20 k3_o10 [] k3_19 := yD rfl
@[simp, simp ↓] theorem k3_25r : sR k3_25 k3_o15 .ret := yR rfl
@[simp, simp ↓] theorem k3_26r : rC k3_26 (.t 69) k3_25 .skip := zC rfl
@[simp, simp ↓] theorem k3_27r : sR k3_27 k3_o14 k3_26 := yR rfl
@[simp, simp ↓] theorem k3_34r : sR k3_34 k3_o21 .ret := yR rfl
@[simp, simp ↓] theorem k3_35r : rC k3_35 (.t 77) k3_34 .skip := zC rfl
@[simp, simp ↓] theorem k3_36r : sR k3_36 k3_o20 k3_35 := yR rfl
@[simp, simp ↓] theorem k3_39r : sR k3_39 k3_o23 .ret := yR rfl
@[simp, simp ↓] theorem k3_40r : rC k3_40 (.t 80) k3_39 .skip := zC rfl
@[simp, simp ↓] theorem k3_41r : sR k3_41 k3_o22 k3_40 := yR rfl
@[simp, simp ↓] theorem k3_45r : sR k3_45 k3_o26 .ret := yR rfl
@[simp, simp ↓] theorem k3_46r : rC k3_46 (.t 97) k3_45 .skip := zC rfl
@[simp, simp ↓] theorem k3_47r : sR k3_47 k3_o25 k3_46 := yR rfl
@[simp, simp ↓] theorem k3_52r : sR k3_52 k3_o30 .ret := yR rfl
@[simp, simp ↓] theorem k3_53r : rC k3_53 (.t 102) k3_52 .skip := zC rfl
@[simp, simp ↓] theorem k3_54r : sR k3_54 k3_o29 k3_53 := yR rfl
@[simp, simp ↓] theorem k3_57r : sR k3_57 k3_o32 .ret := yR rfl
@[simp, simp ↓] theorem k3_58r : rC k3_58 (.t 105) k3_57 .skip := zC rfl
@[simp, simp ↓] theorem k3_59r : sR k3_59 k3_o31 k3_58 := yR rfl
@[simp, simp ↓] theorem k3_61r : sR k3_61 k3_o33 .ret := yR rfl
@[simp, simp ↓] theorem k3_62r : rS k3_62 k3_59 k3_61 := zS rfl
@[simp, simp ↓] theorem k3_63r : rS k3_63 k3_54 k3_62 := zS rfl
@[simp, simp ↓] theorem k3_64r : sR k3_64 k3_o28 k3_63 := yR rfl
@[simp, simp ↓] theorem k3_65r : sR k3_65 k3_o27 k3_64 := yR rfl
@[simp, simp ↓] theorem k3_66r : rS k3_66 k3_47 k3_65 := zS rfl
@[simp, simp ↓] theorem k3_67r : sR k3_67 k3_o24 k3_66 := yR rfl
@[simp, simp ↓] theorem k3_68r : rS k3_68 k3_41 k3_67 := zS rfl
@[simp, simp ↓] theorem k3_69r : rS k3_69 k3_36 k3_68 := zS rfl
@[simp, simp ↓] theorem k3_70r : sR k3_70 k3_o19 k3_69 := yR rfl
@[simp, simp ↓] theorem k3_71r : sR k3_71 k3_o18 k3_70 := yR rfl
@[simp, simp ↓] theorem k3_72r : sR k3_72 k3_o17 k3_71 := yR rfl
@[simp, simp ↓] theorem k3_73r : sR k3_73 k3_o16 k3_72 := yR rfl
@[simp, simp ↓] theorem k3_74r : rS k3_74 k3_27 k3_73 := zS rfl
@[simp, simp ↓] theorem k3_75r : sR k3_75 k3_o13 k3_74 := yR rfl
@[simp, simp ↓] theorem k3_76r : sR k3_76 k3_o12 k3_75 := yR rfl
@[simp, simp ↓] theorem k3_77r : rS k3_77 k3_20 k3_76 := zS rfl
@[simp, simp ↓] theorem k3_78r : rS k3_78 k3_15 k3_77 := zS rfl
@[simp, simp ↓] theorem k3_79r : sR k3_79 k3_o7 k3_78 := yR rfl
@[simp, simp ↓] theorem k3_80r : sR k3_80 k3_o6 k3_79 := yR rfl
@[simp, simp ↓] theorem k3_81r : sR k3_81 k3_o5 k3_80 := yR rfl
@[simp, simp ↓] theorem k3_82r : rS k3_82 k3_7 k3_81 := zS rfl
@[simp, simp ↓] theorem k3_83r : sR k3_83 k3_o2 k3_82 := yR rfl
@[simp, simp ↓] theorem k3_84r : sR k3_84 k3_o1 k3_83 := yR rfl
@[simp, simp ↓] theorem k3_85r : sR k3_85 k3_o0 k3_84 := yR rfl
noncomputable abbrev k3_C : Orc → Cx := mkC Tryz.prog [8, 10, 11, 16] 3 106 [.tmp 6]
theorem k3_of : OfP Tryz.prog Tryz.f3 3 106 k3_C k3_85 := @ofP _ _ _ _ _ _ _ _ Tryz.func3 (by decide +kernel) rfl (by kernel_rfl) rfl (by kernel_rfl)
theorem k3_of0 : OfP0 Tryz.prog Tryz.f3 3 106 k3_C k3_85 := @ofP0 _ _ _ _ _ _ _ _ Tryz.func3 (by decide +kernel) rfl (by kernel_rfl) rfl (by kernel_rfl)
theorem rz_law (x : Fil) (hx : x.wf) (k : Int) (hk : in64 k) (t : Int) (ht : in64 t) : ACalls Tryz.prog 3 [x.av, (.int .i64 k), (.int .i64 t)] [] (fun v h' => v = .bool true ∧ h' = []) := by
  refine k3_of rfl orcM_p fun I => ?_
  have hx2_x := hx
  refine Run2.of I 1000 ?_
  by_cases kx : (x.tot : Int) ≤ (1048576 : Int)
  · have hAx : ¬ (1048576 : Int) < x.tot := by omega
    have hBx : ¬ (1048576 : Int) - x.tot < 0 := by omega
    have hCx : (0 : Int) ≤ (1048576 : Int) - x.tot := by omega
    have lx : x.tot ≤ 1048576 := by omega
    have hDx : (1048576 : Int) - x.tot ≤ 1048576 := by omega
    have hct := x.rzF_tot k t
    have hcs := (x.rzF k t).cnt_le
    have hxc := x.cnt_le
    simp -implicitDefEqProofs [hx2_x, hAx, hBx, hCx, hDx, kx]
    first | refine dcallK (toFil_c x _ lx) ?_ | (refine (toFil_c x _ lx).mono ?_; rintro v h' ⟨rfl, rfl⟩; refine gK.go ?_)
    simp -implicitDefEqProofs
    first | refine dcallK (specRz_c x k t _ lx) ?_ | (refine (specRz_c x k t _ lx).mono ?_; rintro v h' ⟨rfl, rfl⟩; refine gK.go ?_)
    simp -implicitDefEqProofs
    refine (toFil_o x _ lx).monoN ?_
    rintro v0 h' ⟨g0, o0, d0, rfl⟩ n0
    obtain ⟨pu0, pw0, pa0, pb0, rfl, pou0, pow0, phd0, phe0⟩ := id o0
    have c0 := pou0.cell
    have c0_1 := pow0.cell
    refine gK.go ?_
    simp -implicitDefEqProofs [c0, c0_1]
    simp only [List.append_nil] at n0
    have L0 := o0.lentMid (A := []) (B := []) (by simpa only [List.nil_append, List.append_nil, List.append_assoc] using n0)
    simp only [List.nil_append, List.append_nil, List.append_assoc] at L0
    refine (ACalls.gives g0 (fun p hp => hp) (S := fun v h' => ∃ w, v = .tup [w, .int .i64 (x.rzCode k t)] ∧ OwnFil w (x.rzF k t) h') ?_ ?_).monoN ?_
    · rw [lend_cons, lend_cons, lend_cons, lend_nil', lend1_cold g0 (x := (.int .i64 k)) rfl, lend1_cold g0 (x := (.int .i64 t)) rfl]
      exact ACalls.wk (.cons L0.wk (.cons (.refl _) (.cons (.refl _) .nil))) (implRz_o x k t lx)
    · rintro v h' ⟨w, rfl, ho⟩
      have := ho.own
      exact ⟨by simp [own, owns, this.1], this.2⟩
    rintro v h' ⟨gg, ⟨w, rfl, og⟩, dg, rfl⟩ ng
    obtain ⟨qu, qw, qa, qb, rfl, qou, qow, qhd, qhe⟩ := id og
    have cw := qou.cell
    have cw_1 := qow.cell
    refine gK.go ?_
    simp -implicitDefEqProofs [c0, c0_1, cw, cw_1]
    first | refine dcallK (eqFil_own og ((x.rzF k t).is) (fun p hp => List.mem_append_left _ hp) (show (x.rzF k t).tot ≤ 1048576 by omega)) ?_ | (refine (eqFil_own og ((x.rzF k t).is) (fun p hp => List.mem_append_left _ hp) (show (x.rzF k t).tot ≤ 1048576 by omega)).mono ?_; rintro v h' ⟨rfl, rfl⟩; refine gK.go ?_)
    simp -implicitDefEqProofs [c0, c0_1, cw, cw_1]
    first | refine dcallK (toFil_c x _ lx) ?_ | (refine (toFil_c x _ lx).mono ?_; rintro v h' ⟨rfl, rfl⟩; refine gK.go ?_)
    simp -implicitDefEqProofs [c0, c0_1, cw, cw_1]
    first | refine dcallK (eqFil_own o0 x.is (fun p hp => List.mem_append_right _ (hp)) lx) ?_ | (refine (eqFil_own o0 x.is (fun p hp => List.mem_append_right _ (hp)) lx).mono ?_; rintro v h' ⟨rfl, rfl⟩; refine gK.go ?_)
    simp -implicitDefEqProofs [c0, c0_1, cw, cw_1]
    refine (markFil_drop o0 gg (fun p hp => List.mem_append_right _ (hp)) ?_ ?_ (1) (by omega) (by omega)).monoN ?_
    · simpa only [List.append_assoc] using keepL (a := gg) (b := g0) (by simpa only [List.append_assoc] using ng)
    · exact fun nd => nodupL (a := gg) (b := g0) (by simpa only [List.append_assoc] using nd)
    rintro _ _ ⟨e1, e2⟩ nk0
    rw [e1, e2]; rw [e2] at nk0
    refine gK.go ?_
    have hk : ¬ (1 + ((x).cnt : Int)) < 0 := by omega
    simp -implicitDefEqProofs [c0, c0_1, cw, cw_1, hk]
    first | refine dcallK (eqFil_own og ((x.rzF k t).is) (fun p hp => hp) (show (x.rzF k t).tot ≤ 1048576 by omega)) ?_ | (refine (eqFil_own og ((x.rzF k t).is) (fun p hp => hp) (show (x.rzF k t).tot ≤ 1048576 by omega)).mono ?_; rintro v h' ⟨rfl, rfl⟩; refine gK.go ?_)
    simp -implicitDefEqProofs [c0, c0_1, cw, cw_1]
    skip
    refine (markFil_keep og [] (fun p hp => hp) keepN (fun _ => by simp [dom]) 1 (by omega) (by have := (show (x.rzF k t).tot ≤ 1048576 by omega); omega)).mono ?_
    rintro _ _ ⟨gm, rfl, om, rfl⟩
    refine gK.go ?_
    simp -implicitDefEqProofs [c0, c0_1, cw, cw_1]
    have hq : ¬ (1 + (((x.rzF k t)).cnt : Int) < 0) := by omega
    first | refine dcallK (heldFil_own om (fun p hp => hp) 1 (by omega) (by have := (show (x.rzF k t).tot ≤ 1048576 by omega); simp; omega)) ?_ | (refine (heldFil_own om (fun p hp => hp) 1 (by omega) (by have := (show (x.rzF k t).tot ≤ 1048576 by omega); simp; omega)).mono ?_; rintro v h' ⟨rfl, rfl⟩; refine gK.go ?_)
    simp -implicitDefEqProofs [c0, c0_1, cw, cw_1, hq]
    first | refine dcallK (toFil_c x _ lx) ?_ | (refine (toFil_c x _ lx).mono ?_; rintro v h' ⟨rfl, rfl⟩; refine gK.go ?_)
    simp -implicitDefEqProofs [c0, c0_1, cw, cw_1]
    refine (ACalls.gives [] (by simp) (S := fun v h' => ∃ w, v = .tup [w, .int .i64 (x.rzCode k t)] ∧ OwnFil w (x.rzF k t) h') ?_ ?_).mono ?_
    · exact implRz_o x k t lx
    · rintro v h' ⟨w, rfl, ho⟩
      have := ho.own
      exact ⟨by simp [own, owns, this.1], this.2⟩
    rintro _ _ ⟨g9, ⟨w9, rfl, o9⟩, d9, rfl⟩
    obtain ⟨ru, rw, ra, rb, rfl, rou, row, rhd, rhe⟩ := id o9
    have cz := rou.cell
    have cz_1 := row.cell
    refine gK.go ?_
    simp -implicitDefEqProofs [c0, c0_1, cw, cw_1, hq, cz, cz_1]
    first | refine dcallK (eqFil_own o9 ((x.rzF k t).is) (fun p hp => List.mem_append_left _ hp) (show (x.rzF k t).tot ≤ 1048576 by omega)) ?_ | (refine (eqFil_own o9 ((x.rzF k t).is) (fun p hp => List.mem_append_left _ hp) (show (x.rzF k t).tot ≤ 1048576 by omega)).mono ?_; rintro v h' ⟨rfl, rfl⟩; refine gK.go ?_)
    simp -implicitDefEqProofs [c0, c0_1, cw, cw_1, hq, cz, cz_1]
    first | refine dcallK (heldFil_own om (fun p hp => List.mem_append_right _ hp) 1 (by omega) (by have := (show (x.rzF k t).tot ≤ 1048576 by omega); simp; omega)) ?_ | (refine (heldFil_own om (fun p hp => List.mem_append_right _ hp) 1 (by omega) (by have := (show (x.rzF k t).tot ≤ 1048576 by omega); simp; omega)).mono ?_; rintro v h' ⟨rfl, rfl⟩; refine gK.go ?_)
    simp -implicitDefEqProofs [c0, c0_1, cw, cw_1, hq, cz, cz_1]
    exact Post.none ⟨rfl, rfl⟩
  · have hAx : (1048576 : Int) < x.tot := by omega
    simp -implicitDefEqProofs [hx2_x, hAx]
    exact .base ⟨rfl, rfl⟩
end Go.AG
namespace Go.Proofs.YtamjnegnoijjlaaGreat
open Go.ChangeShapes Go.WideShapes Go.ChangeAt Go.RowKit Go.AG
theorem own : ownKnob Tryz.prog.godebug = none := by kernel_rfl
theorem laidOut : laidOutB Tryz.prog = true := by kernel_rfl
set_option maxRecDepth 100000 in
theorem fnExactRaiseTime_lifted (os : Os) (started : os.Started) (H : Type) (enc : TypeId × Value → H) :
    ReturnsInHanded {} Tryz.checked os 3 .any (Rows.fnExactRaiseTimeSpec.pre6 enc Tryz.prog Tryz.f3 Rows.fnExactRaiseTimeRow.domain false) (Rows.fnExactRaiseTimeSpec.post enc Tryz.prog Tryz.f3 false true false false) := by
  refine returnsInHanded_of_change (C := Tryz.checked) own started (by kernel_rfl) Tryz.func3
    (ChangeSpec.witness6 (enc := enc) (C := Tryz.checked) false ⟨#[], #[.agg #[.slice none 0 0, .slice none 0 0], .int .i64 0, .int .i64 0], []⟩ 8 (by kernel_rfl) (by kernel_rfl) (by kernel_rfl) (by kernel_rfl)) ?_
  intro W base args ds gs before hval0 hW _ _
  have hval : ∀ (j : Nat) t v, Tryz.f3.params[j]? = some t → args[j]? = some v → Value.okWide Tryz.prog W .any base t v := hval0
  refine law_post (tys := [tyF, (.int .i64), (.int .i64)]) (tb := 4) laidOut rfl (by kernel_rfl) (by kernel_rfl) (by kernel_rfl) (by kernel_rfl) hval hW ?_ ?_
  · intro ds h
    match ds, h with
    | [a0, a1, a2], _ => rfl
  · rintro xs ⟨x0, r0, rfl, h0, x1, r1, rfl, h1, x2, r2, rfl, h2, hr⟩
    have hr0 : r2 = [] := hr
    subst hr0
    obtain ⟨p0, rfl, q0⟩ := Fil_of_shape h0
    obtain ⟨p1, rfl, q1⟩ := Int_of_shape h1
    obtain ⟨p2, rfl, q2⟩ := Int_of_shape h2
    exact rz_law p0 q0 p1 q1 p2 q2
theorem fnExactRaiseTime_holds : Rows.FnExactRaiseTimeSaid :=
  OpenClaim.holds_of_wide 3 Tryz.f3 rfl rfl rfl rfl rfl rfl rfl ⟨rfl, rfl, rfl, rfl, rfl⟩ rfl rfl rfl rfl rfl (by kernel_rfl) Tryz.func3 (by kernel_rfl)
    (of_decide_eq_true (by kernel_rfl)) (by unfold Func.isWrapper; first | (rw [if_pos (by decide +kernel)]; kernel_rfl) | (rw [if_neg (by decide +kernel)]; exact ⟨rfl, rfl⟩))
    (fun os started H enc _ => fnExactRaiseTime_lifted os started H enc)
end Go.Proofs.YtamjnegnoijjlaaGreat
