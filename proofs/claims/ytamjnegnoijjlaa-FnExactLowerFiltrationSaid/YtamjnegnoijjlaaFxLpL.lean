/- The law FnExactLowerFiltration is true for every input: the program's LowerFiltration returns what the reference's returns. -/
import Derived.Test.YtamjnegnoijjlaaFxLp
import Derived.Test.YtamjnegnoijjlaaFilL
namespace Go.AG
open Go.Proofs Go.Proofs.Ytamjnegnoijjlaa
set_option linter.unusedSimpArgs false
set_option linter.unusedVariables false
set_option maxRecDepth 4000
abbrev k8_o0 : List AJ := [.o ⟨(some 2), none, false, .box false 1 (.t 0), none⟩, .o ⟨(some 4), none, false, .mv (.c (.bool false)), (some [1, 2])⟩]
abbrev k8_o1 : List AJ := [.o ⟨(some 17), none, false, .mv (.t 1), none⟩, .o ⟨(some 18), none, false, .len (.t 17), none⟩, .o ⟨(some 19), none, false, .bin .gtr (.t 18) (.c (.int .i64 1048576)), (some [1, 2, 19])⟩]
abbrev k8_o2 : List AJ := [.o ⟨(some 4), none, false, .mv (.c (.bool true)), (some [4])⟩]
def k8_3 : ACode := .seq (.region k8_o2) .ret
def k8_4 : ACode := .cond (.t 19) k8_3 .skip
def k8_5 : ACode := .seq (.region k8_o1) k8_4
abbrev k8_o3 : List AJ := [.o ⟨(some 5), none, false, .mv (.c (.int .i64 1048576)), (some [1, 2, 5])⟩]
abbrev k8_o4 : List AJ := [.o ⟨(some 20), none, false, .load 1 true (.t 2), none⟩, .o ⟨(some 21), none, false, .mv (.t 5), none⟩, .o ⟨(some 22), none, false, .call 32 [(.t 20), (.t 21)], none⟩, .o ⟨(some 5), none, false, .mv (.t 22), (some [1, 2, 5])⟩]
abbrev k8_o5 : List AJ := [.o ⟨(some 23), none, false, .mv (.t 5), none⟩, .o ⟨(some 24), none, false, .bin .lss (.t 23) (.c (.int .i64 0)), (some [1, 2, 24])⟩]
abbrev k8_o6 : List AJ := [.o ⟨(some 4), none, false, .mv (.c (.bool true)), (some [4])⟩]
def k8_10 : ACode := .seq (.region k8_o6) .ret
def k8_11 : ACode := .cond (.t 24) k8_10 .skip
def k8_12 : ACode := .seq (.region k8_o5) k8_11
abbrev k8_o7 : List AJ := [.o ⟨(some 26), none, false, .load 1 true (.t 2), none⟩, .o ⟨(some 27), none, false, .call 34 [(.t 26)], none⟩, .o ⟨(some 28), none, false, .mv (.t 1), none⟩, .o ⟨(some 29), none, false, .call 37 [(.t 28)], none⟩, .o ⟨(some 30), none, false, .call 36 [(.t 27), (.t 29)], none⟩, .o ⟨(some 25), none, false, .mv (.t 30), none⟩, .o ⟨(some 31), none, false, .extract (.t 25) 0, none⟩, .o ⟨(some 32), none, false, .extract (.t 25) 1, none⟩, .v 6 2 (.agg [.nilsl, .nilsl]) [] (.t 31) none, .o ⟨(some 7), none, false, .mv (.t 32), (some [1, 2, 6, 7])⟩]
abbrev k8_o8 : List AJ := [.o ⟨(some 33), none, false, .load 1 true (.t 2), none⟩, .o ⟨(some 34), none, false, .call 34 [(.t 33)], none⟩, .v 8 1 (.agg [.nilsl]) [] (.t 34) (some [1, 2, 6, 7, 8])]
abbrev k8_o9 : List AJ := [.o ⟨(some 35), none, false, .mv (.t 1), none⟩, .o ⟨(some 36), none, false, .call 37 [(.t 35)], none⟩, .o ⟨(some 9), none, false, .mv (.t 36), (some [1, 2, 6, 7, 8, 9])⟩]
abbrev k8_o10 : List AJ := [.o ⟨(some 38), none, false, .load 1 true (.t 8), none⟩, .o ⟨(some 39), none, false, .mv (.t 9), none⟩, .o ⟨(some 40), none, false, .call 38 [(.t 38), (.t 39)], none⟩, .o ⟨(some 37), none, false, .mv (.t 40), none⟩, .o ⟨(some 41), none, false, .extract (.t 37) 0, none⟩, .o ⟨(some 42), none, false, .extract (.t 37) 1, none⟩, .v 10 2 (.agg [.nilsl, .nilsl]) [] (.t 41) none, .o ⟨(some 11), none, false, .mv (.t 42), (some [1, 2, 6, 7, 8, 9, 10, 11])⟩]
abbrev k8_o11 : List AJ := [.o ⟨(some 43), none, false, .load 2 true (.t 10), none⟩, .o ⟨(some 44), none, false, .load 2 true (.t 6), none⟩, .o ⟨(some 45), none, false, .call 17 [(.t 43), (.t 44)], none⟩, .o ⟨(some 46), none, false, .un .not (.t 45), none⟩, .o ⟨(some 47), none, false, .mv (.t 46), none⟩, .o ⟨(some 48), (some (47, false)), false, .mv (.t 11), none⟩, .o ⟨(some 49), (some (47, false)), false, .mv (.t 7), none⟩, .o ⟨(some 50), (some (47, false)), false, .bin .neq (.t 48) (.t 49), none⟩, .o ⟨(some 51), none, false, .pick (.t 47) (.c (.bool true)) (.t 50), (some [1, 2, 6, 7, 8, 9, 10, 11, 51])⟩]
abbrev k8_o12 : List AJ := [.o ⟨(some 4), none, false, .mv (.c (.bool false)), (some [4])⟩]
def k8_19 : ACode := .seq (.region k8_o12) .ret
def k8_20 : ACode := .cond (.t 51) k8_19 .skip
def k8_21 : ACode := .seq (.region k8_o11) k8_20
abbrev k8_o13 : List AI := [⟨(some 52), none, false, .load 1 true (.t 8), none⟩, ⟨(some 53), none, false, .load 1 true (.t 2), none⟩, ⟨(some 54), none, false, .call 34 [(.t 53)], none⟩, ⟨(some 55), none, false, .call 26 [(.t 52), (.t 54)], none⟩, ⟨(some 56), none, false, .un .not (.t 55), (some [1, 2, 6, 7, 8, 9, 10, 11, 56])⟩]
abbrev k8_o14 : List AJ := [.o ⟨(some 4), none, false, .mv (.c (.bool false)), (some [4])⟩]
def k8_24 : ACode := .seq (.region k8_o14) .ret
def k8_25 : ACode := .cond (.t 56) k8_24 .skip
def k8_26 : ACode := .seq (.draw k8_o13 [] rfl) k8_25
abbrev k8_o15 : List AJ := [.o ⟨(some 57), none, false, .mv (.t 9), none⟩, .o ⟨(some 58), none, false, .mv (.t 1), none⟩, .o ⟨(some 59), none, false, .call 37 [(.t 58)], none⟩, .o ⟨(some 60), none, false, .call 20 [(.t 57), (.t 59)], none⟩, .o ⟨(some 61), none, false, .un .not (.t 60), (some [1, 2, 6, 7, 8, 9, 10, 11, 61])⟩]
abbrev k8_o16 : List AJ := [.o ⟨(some 4), none, false, .mv (.c (.bool false)), (some [4])⟩]
def k8_29 : ACode := .seq (.region k8_o16) .ret
def k8_30 : ACode := .cond (.t 61) k8_29 .skip
def k8_31 : ACode := .seq (.region k8_o15) k8_30
abbrev k8_o17 : List AJ := [.o ⟨(some 12), none, false, .mv (.c (.int .i64 1)), (some [1, 2, 6, 7, 8, 9, 10, 11, 12])⟩]
abbrev k8_o18 : List AJ := [.o ⟨(some 62), none, false, .load 1 true (.t 8), none⟩, .o ⟨(some 63), none, false, .mv (.t 12), none⟩, .o ⟨(some 64), none, false, .call 27 [(.t 62), (.t 63)], none⟩, .o ⟨(some 12), none, false, .mv (.t 64), (some [1, 2, 6, 7, 9, 10, 11, 12])⟩]
abbrev k8_o19 : List AJ := [.o ⟨(some 65), none, false, .mv (.t 9), none⟩, .o ⟨(some 66), none, false, .mv (.t 12), none⟩, .o ⟨(some 67), none, false, .call 22 [(.t 65), (.t 66)], none⟩, .o ⟨(some 12), none, false, .mv (.t 67), (some [1, 2, 6, 7, 10, 11, 12])⟩]
abbrev k8_o20 : List AJ := [.o ⟨(some 68), none, false, .mv (.t 12), none⟩, .o ⟨(some 69), none, false, .bin .lss (.t 68) (.c (.int .i64 0)), none⟩, .o ⟨(some 70), none, false, .mv (.t 69), none⟩, .o ⟨(some 71), (some (70, false)), false, .load 2 true (.t 10), none⟩, .o ⟨(some 72), (some (70, false)), false, .load 2 true (.t 6), none⟩, .o ⟨(some 73), (some (70, false)), false, .call 17 [(.t 71), (.t 72)], none⟩, .o ⟨(some 74), (some (70, false)), false, .un .not (.t 73), none⟩, .o ⟨(some 75), none, false, .pick (.t 70) (.c (.bool true)) (.t 74), none⟩, .o ⟨(some 76), none, false, .mv (.t 75), none⟩, .o ⟨(some 77), (some (76, false)), false, .mv (.t 11), (some [1, 2, 6, 7, 10, 76, 77])⟩, .o ⟨(some 78), (some (76, false)), false, .mv (.t 7), none⟩, .o ⟨(some 79), (some (76, false)), false, .bin .neq (.t 77) (.t 78), none⟩, .o ⟨(some 80), none, false, .pick (.t 76) (.c (.bool true)) (.t 79), (some [1, 2, 6, 7, 10, 80])⟩]
abbrev k8_o21 : List AJ := [.o ⟨(some 4), none, false, .mv (.c (.bool false)), (some [4])⟩]
def k8_37 : ACode := .seq (.region k8_o21) .ret
def k8_38 : ACode := .cond (.t 80) k8_37 .skip
def k8_39 : ACode := .seq (.region k8_o20) k8_38
abbrev k8_o22 : List AJ := [.o ⟨(some 13), none, false, .mv (.c (.int .i64 1)), (some [1, 2, 6, 7, 10, 13])⟩]
abbrev k8_o23 : List AJ := [.o ⟨(some 81), none, false, .load 2 true (.t 10), none⟩, .o ⟨(some 82), none, false, .mv (.t 13), none⟩, .o ⟨(some 83), none, false, .call 21 [(.t 81), (.t 82)], none⟩, .o ⟨(some 13), none, false, .mv (.t 83), (some [1, 2, 6, 7, 10, 13])⟩]
abbrev k8_o24 : List AJ := [.o ⟨(some 14), none, false, .mv (.c (.int .i64 1)), (some [1, 2, 6, 7, 10, 13, 14])⟩]
abbrev k8_o25 : List AJ := [.o ⟨(some 84), none, false, .load 2 true (.t 10), none⟩, .o ⟨(some 85), none, false, .mv (.t 14), none⟩, .o ⟨(some 86), none, false, .call 31 [(.t 84), (.t 85)], none⟩, .o ⟨(some 14), none, false, .mv (.t 86), (some [1, 2, 6, 7, 10, 13, 14])⟩]
abbrev k8_o26 : List AJ := [.o ⟨(some 87), none, false, .mv (.t 14), none⟩, .o ⟨(some 88), none, false, .bin .lss (.t 87) (.c (.int .i64 0)), (some [1, 2, 6, 7, 10, 13, 14, 88])⟩]
abbrev k8_o27 : List AJ := [.o ⟨(some 4), none, false, .mv (.c (.bool false)), (some [4])⟩]
def k8_46 : ACode := .seq (.region k8_o27) .ret
def k8_47 : ACode := .cond (.t 88) k8_46 .skip
def k8_48 : ACode := .seq (.region k8_o26) k8_47
abbrev k8_o28 : List AJ := [.o ⟨(some 89), none, false, .mv (.t 14), none⟩, .o ⟨(some 90), none, false, .mv (.t 13), none⟩, .o ⟨(some 91), none, false, .bin .neq (.t 89) (.t 90), (some [1, 2, 6, 7, 10, 13, 91])⟩]
abbrev k8_o29 : List AJ := [.o ⟨(some 4), none, false, .mv (.c (.bool false)), (some [4])⟩]
def k8_51 : ACode := .seq (.region k8_o29) .ret
def k8_52 : ACode := .cond (.t 91) k8_51 .skip
def k8_53 : ACode := .seq (.region k8_o28) k8_52
abbrev k8_o30 : List AJ := [.o ⟨(some 93), none, false, .load 1 true (.t 2), none⟩, .o ⟨(some 94), none, false, .call 34 [(.t 93)], none⟩, .o ⟨(some 95), none, false, .mv (.t 1), none⟩, .o ⟨(some 96), none, false, .call 37 [(.t 95)], none⟩, .o ⟨(some 97), none, false, .call 38 [(.t 94), (.t 96)], none⟩, .o ⟨(some 92), none, false, .mv (.t 97), none⟩, .o ⟨(some 98), none, false, .extract (.t 92) 0, none⟩, .o ⟨(some 99), none, false, .extract (.t 92) 1, none⟩, .v 15 2 (.agg [.nilsl, .nilsl]) [] (.t 98) none, .o ⟨(some 16), none, false, .mv (.t 99), (some [6, 7, 10, 13, 15, 16])⟩]
abbrev k8_o31 : List AJ := [.o ⟨(some 100), none, false, .load 2 true (.t 15), none⟩, .o ⟨(some 101), none, false, .load 2 true (.t 6), none⟩, .o ⟨(some 102), none, false, .call 17 [(.t 100), (.t 101)], none⟩, .o ⟨(some 103), none, false, .un .not (.t 102), none⟩, .o ⟨(some 104), none, false, .mv (.t 103), none⟩, .o ⟨(some 105), (some (104, false)), false, .mv (.t 16), none⟩, .o ⟨(some 106), (some (104, false)), false, .mv (.t 7), none⟩, .o ⟨(some 107), (some (104, false)), false, .bin .neq (.t 105) (.t 106), none⟩, .o ⟨(some 108), none, false, .pick (.t 104) (.c (.bool true)) (.t 107), (some [10, 13, 108])⟩]
abbrev k8_o32 : List AJ := [.o ⟨(some 4), none, false, .mv (.c (.bool false)), (some [4])⟩]
def k8_57 : ACode := .seq (.region k8_o32) .ret
def k8_58 : ACode := .cond (.t 108) k8_57 .skip
def k8_59 : ACode := .seq (.region k8_o31) k8_58
abbrev k8_o33 : List AJ := [.o ⟨(some 14), none, false, .mv (.c (.int .i64 1)), (some [10, 13, 14])⟩]
abbrev k8_o34 : List AJ := [.o ⟨(some 109), none, false, .load 2 true (.t 10), none⟩, .o ⟨(some 110), none, false, .mv (.t 14), none⟩, .o ⟨(some 111), none, false, .call 31 [(.t 109), (.t 110)], none⟩, .o ⟨(some 14), none, false, .mv (.t 111), (some [13, 14])⟩]
abbrev k8_o35 : List AJ := [.o ⟨(some 112), none, false, .mv (.t 14), none⟩, .o ⟨(some 113), none, false, .bin .lss (.t 112) (.c (.int .i64 0)), (some [13, 14, 113])⟩]
abbrev k8_o36 : List AJ := [.o ⟨(some 4), none, false, .mv (.c (.bool false)), (some [4])⟩]
def k8_64 : ACode := .seq (.region k8_o36) .ret
def k8_65 : ACode := .cond (.t 113) k8_64 .skip
def k8_66 : ACode := .seq (.region k8_o35) k8_65
abbrev k8_o37 : List AJ := [.o ⟨(some 114), none, false, .mv (.t 14), none⟩, .o ⟨(some 115), none, false, .mv (.t 13), none⟩, .o ⟨(some 116), none, false, .bin .neq (.t 114) (.t 115), (some [116])⟩]
abbrev k8_o38 : List AJ := [.o ⟨(some 4), none, false, .mv (.c (.bool false)), (some [4])⟩]
def k8_69 : ACode := .seq (.region k8_o38) .ret
def k8_70 : ACode := .cond (.t 116) k8_69 .skip
def k8_71 : ACode := .seq (.region k8_o37) k8_70
abbrev k8_o39 : List AJ := [.o ⟨(some 4), none, false, .mv (.c (.bool true)), (some [4])⟩]
def k8_73 : ACode := .seq (.region k8_o39) .ret
def k8_74 : ACode := .seq k8_71 k8_73
def k8_75 : ACode := .seq k8_66 k8_74
def k8_76 : ACode := .seq (.region k8_o34) k8_75
def k8_77 : ACode := .seq (.region k8_o33) k8_76
def k8_78 : ACode := .seq k8_59 k8_77
def k8_79 : ACode := .seq (.region k8_o30) k8_78
def k8_80 : ACode := .seq k8_53 k8_79
def k8_81 : ACode := .seq k8_48 k8_80
def k8_82 : ACode := .seq (.region k8_o25) k8_81
def k8_83 : ACode := .seq (.region k8_o24) k8_82
def k8_84 : ACode := .seq (.region k8_o23) k8_83
def k8_85 : ACode := .seq (.region k8_o22) k8_84
def k8_86 : ACode := .seq k8_39 k8_85
def k8_87 : ACode := .seq (.region k8_o19) k8_86
def k8_88 : ACode := .seq (.region k8_o18) k8_87
def k8_89 : ACode := .seq (.region k8_o17) k8_88
def k8_90 : ACode := .seq k8_31 k8_89
def k8_91 : ACode := .seq k8_26 k8_90
def k8_92 : ACode := .seq k8_21 k8_91
def k8_93 : ACode := .seq (.region k8_o10) k8_92
def k8_94 : ACode := .seq (.region k8_o9) k8_93
def k8_95 : ACode := .seq (.region k8_o8) k8_94
def k8_96 : ACode := .seq (.region k8_o7) k8_95
def k8_97 : ACode := .seq k8_12 k8_96
def k8_98 : ACode := .seq (.region k8_o4) k8_97
def k8_99 : ACode := .seq (.region k8_o3) k8_98
def k8_100 : ACode := .seq k8_5 k8_99
def k8_101 : ACode := .seq (.region k8_o0) k8_100
@[simp, simp ↓] theorem k8_3r : sR k8_3 k8_o2 .ret := yR rfl
@[simp, simp ↓] theorem k8_4r : rC k8_4 (.t 19) k8_3 .skip := zC rfl
@[simp, simp ↓] theorem k8_5r : sR k8_5 k8_o1 k8_4 := yR rfl
@[simp, simp ↓] theorem k8_10r : sR k8_10 k8_o6 .ret := yR rfl
@[simp, simp ↓] theorem k8_11r : rC k8_11 (.t 24) k8_10 .skip := zC rfl
@[simp, simp ↓] theorem k8_12r : sR k8_12 k8_o5 k8_11 := yR rfl
@[simp, simp ↓] theorem k8_19r : sR k8_19 k8_o12 .ret := yR rfl
@[simp, simp ↓] theorem k8_20r : rC k8_20 (.t 51) k8_19 .skip := zC rfl
@[simp, simp ↓] theorem k8_21r : sR k8_21 k8_o11 k8_20 := yR rfl
@[simp, simp ↓] theorem k8_24r : sR k8_24 k8_o14 .ret := yR rfl
@[simp, simp ↓] theorem k8_25r : rC k8_25 (.t 56) k8_24 .skip := zC rfl
@[simp, simp ↓] theorem k8_26r : sD k8_26 k8_o13 [] k8_25 := yD rfl
@[simp, simp ↓] theorem k8_29r : sR k8_29 k8_o16 .ret := yR rfl
@[simp, simp ↓] theorem k8_30r : rC k8_30 (.t 61) k8_29 .skip := zC rfl
@[simp, simp ↓] theorem k8_31r : sR k8_31 k8_o15 k8_30 := yR rfl
@[simp, simp ↓] theorem k8_37r : sR k8_37 k8_o21 .ret := yR rfl
@[simp, simp ↓] theorem k8_38r : rC k8_38 (.t 80) k8_37 .skip := zC rfl
@[simp, simp ↓] theorem k8_39r : sR k8_39 k8_o20 k8_38 := yR rfl
@[simp, simp ↓] theorem k8_46r : sR k8_46 k8_o27 .ret := yR rfl
@[simp, simp ↓] theorem k8_47r : rC k8_47 (.t 88) k8_46 .skip := zC rfl
@[simp, simp ↓] theorem k8_48r : sR k8_48 k8_o26 k8_47 := yR rfl
@[simp, simp ↓] theorem k8_51r : sR k8_51 k8_o29 .ret := yR rfl
@[simp, simp ↓] theorem k8_52r : rC k8_52 (.t 91) k8_51 .skip := zC rfl
@[simp, simp ↓] theorem k8_53r : sR k8_53 k8_o28 k8_52 := yR rfl
@[simp, simp ↓] theorem k8_57r : sR k8_57 k8_o32 .ret := yR rfl
@[simp, simp ↓] theorem k8_58r : rC k8_58 (.t 108) k8_57 .skip := zC rfl
@[simp, simp ↓] theorem k8_59r : sR k8_59 k8_o31 k8_58 := yR rfl
@[simp, simp ↓] theorem k8_64r : sR k8_64 k8_o36 .ret := yR rfl
@[simp, simp ↓] theorem k8_65r : rC k8_65 (.t 113) k8_64 .skip := zC rfl
@[simp, simp ↓] theorem k8_66r : sR k8_66 k8_o35 k8_65 := yR rfl
@[simp, simp ↓] theorem k8_69r : sR k8_69 k8_o38 .ret := yR rfl
@[simp, simp ↓] theorem k8_70r : rC k8_70 (.t 116) k8_69 .skip := zC rfl
@[simp, simp ↓] theorem k8_71r : sR k8_71 k8_o37 k8_70 := yR rfl
@[simp, simp ↓] theorem k8_73r : sR k8_73 k8_o39 .ret := yR rfl
@[simp, simp ↓] theorem k8_74r : rS k8_74 k8_71 k8_73 := zS rfl
@[simp, simp ↓] theorem k8_75r : rS k8_75 k8_66 k8_74 := zS rfl
@[simp, simp ↓] theorem k8_76r : sR k8_76 k8_o34 k8_75 := yR rfl
@[simp, simp ↓] theorem k8_77r : sR k8_77 k8_o33 k8_76 := yR rfl
@[simp, simp ↓] theorem k8_78r : rS k8_78 k8_59 k8_77 := zS rfl
@[simp, simp ↓] theorem k8_79r : sR k8_79 k8_o30 k8_78 := yR rfl
@[simp, simp ↓] theorem k8_80r : rS k8_80 k8_53 k8_79 := zS rfl
@[simp, simp ↓] theorem k8_81r : rS k8_81 k8_48 k8_80 := zS rfl
@[simp, simp ↓] theorem k8_82r : sR k8_82 k8_o25 k8_81 := yR rfl
@[simp, simp ↓] theorem k8_83r : sR k8_83 k8_o24 k8_82 := yR rfl
@[simp, simp ↓] theorem k8_84r : sR k8_84 k8_o23 k8_83 := yR rfl
@[simp, simp ↓] theorem k8_85r : sR k8_85 k8_o22 k8_84 := yR rfl
@[simp, simp ↓] theorem k8_86r : rS k8_86 k8_39 k8_85 := zS rfl
@[simp, simp ↓] theorem k8_87r : sR k8_87 k8_o19 k8_86 := yR rfl
@[simp, simp ↓] theorem k8_88r : sR k8_88 k8_o18 k8_87 := yR rfl
@[simp, simp ↓] theorem k8_89r : sR k8_89 k8_o17 k8_88 := yR rfl
@[simp, simp ↓] theorem k8_90r : rS k8_90 k8_31 k8_89 := zS rfl
@[simp, simp ↓] theorem k8_91r : rS k8_91 k8_26 k8_90 := zS rfl
@[simp, simp ↓] theorem k8_92r : rS k8_92 k8_21 k8_91 := zS rfl
@[simp, simp ↓] theorem k8_93r : sR k8_93 k8_o10 k8_92 := yR rfl
@[simp, simp ↓] theorem k8_94r : sR k8_94 k8_o9 k8_93 := yR rfl
@[simp, simp ↓] theorem k8_95r : sR k8_95 k8_o8 k8_94 := yR rfl
@[simp, simp ↓] theorem k8_96r : sR k8_96 k8_o7 k8_95 := yR rfl
@[simp, simp ↓] theorem k8_97r : rS k8_97 k8_12 k8_96 := zS rfl
@[simp, simp ↓] theorem k8_98r : sR k8_98 k8_o4 k8_97 := yR rfl
@[simp, simp ↓] theorem k8_99r : sR k8_99 k8_o3 k8_98 := yR rfl
@[simp, simp ↓] theorem k8_100r : rS k8_100 k8_5 k8_99 := zS rfl
@[simp, simp ↓] theorem k8_101r : sR k8_101 k8_o0 k8_100 := yR rfl
noncomputable abbrev k8_C : Orc → Cx := mkC Try.prog [6, 8, 10, 15] 8 117 [.tmp 4]
theorem k8_of : OfP Try.prog Try.f8 8 117 k8_C k8_101 := @ofP _ _ _ _ _ _ _ _ Try.func8 (by decide +kernel) rfl (by kernel_rfl) rfl (by kernel_rfl)
theorem k8_of0 : OfP0 Try.prog Try.f8 8 117 k8_C k8_101 := @ofP0 _ _ _ _ _ _ _ _ Try.func8 (by decide +kernel) rfl (by kernel_rfl) rfl (by kernel_rfl)
theorem lo_law (q : LS) (hq : wfSS q) (x : List Int) (hx : wfI x) : ACalls Try.prog 8 [(cx q), (.snap 1 (x.map iv))] [] (fun v h' => v = .bool true ∧ h' = []) := by
  refine k8_of rfl orcM_p fun I => ?_
  have hx2_q := hq
  have hx2_x := hx.2
  refine Run2.of I 1000 ?_
  by_cases lx : x.length ≤ 1048576
  · have hAx : ¬ (1048576 : Int) < x.length := by omega
    by_cases kq : ((ssTot q) : Int) ≤ (1048576 : Int)
    · have hAq : ¬ (1048576 : Int) < (ssTot q) := by omega
      have hBq : ¬ (1048576 : Int) - (ssTot q) < 0 := by omega
      have hCq : (0 : Int) ≤ (1048576 : Int) - (ssTot q) := by omega
      have lq : (ssTot q) ≤ 1048576 := by omega
      have hDq : (1048576 : Int) - (ssTot q) ≤ 1048576 := by omega
      have hct := loF_tot q x
      have hcs := (loF q x).cnt_le
      have hqc := sumL_le_tot q
      simp -implicitDefEqProofs [hx2_q, hx2_x, hAx, hAq, hBq, hCq, hDq, kq]
      first | refine dcallK (toCx_c q _ lq) ?_ | (refine (toCx_c q _ lq).mono ?_; rintro v h' ⟨rfl, rfl⟩; refine gK.go ?_)
      simp -implicitDefEqProofs
      first | refine dcallK (toInt64S_c x _ lx) ?_ | (refine (toInt64S_c x _ lx).mono ?_; rintro v h' ⟨rfl, rfl⟩; refine gK.go ?_)
      simp -implicitDefEqProofs
      first | refine dcallK (specLo_c q x _ lq lx) ?_ | (refine (specLo_c q x _ lq lx).mono ?_; rintro v h' ⟨rfl, rfl⟩; refine gK.go ?_)
      simp -implicitDefEqProofs
      refine (toCx_o q _ lq).monoN ?_
      rintro v0 h' ⟨g0, o0, d0, rfl⟩ n0
      obtain ⟨pu0, rfl, pou0⟩ := id o0
      have c0 := pou0.cell
      refine gK.go ?_
      simp -implicitDefEqProofs [c0]
      refine (toInt64S_o x _ lx).monoN ?_
      rintro v1 h' ⟨g1, o1, d1, rfl⟩ n1
      refine gK.go ?_
      simp -implicitDefEqProofs [c0]
      have L0 := o0.lentMid (A := g1) (B := []) (by simpa only [List.nil_append, List.append_nil, List.append_assoc] using n1)
      simp only [List.nil_append, List.append_nil, List.append_assoc] at L0
      have L1 := o1.lentIn cold_iv1 (L := (g1 ++ g0)) (fun p hp => List.mem_append_left _ hp) n1
      refine (ACalls.gives (g1 ++ g0) (fun p hp => hp) (S := fun v h' => ∃ w, v = .tup [w, .int .i64 (loCode q x)] ∧ OwnFil w (loF q x) h') ?_ ?_).monoN ?_
      · rw [lend_cons, lend_cons, lend_nil']
        exact ACalls.wk (.cons L0.wk (.cons L1.wk .nil)) (implLo_o q x lq lx)
      · rintro v h' ⟨w, rfl, ho⟩
        have := ho.own
        exact ⟨by simp [own, owns, this.1], this.2⟩
      rintro v h' ⟨gg, ⟨w, rfl, og⟩, dg, rfl⟩ ng
      obtain ⟨qu, qw, qa, qb, rfl, qou, qow, qhd, qhe⟩ := id og
      have cw := qou.cell
      have cw_1 := qow.cell
      refine gK.go ?_
      simp -implicitDefEqProofs [c0, cw, cw_1]
      first | refine dcallK (eqFil_own og ((loF q x).is) (fun p hp => List.mem_append_left _ hp) (show (loF q x).tot ≤ 1048576 by omega)) ?_ | (refine (eqFil_own og ((loF q x).is) (fun p hp => List.mem_append_left _ hp) (show (loF q x).tot ≤ 1048576 by omega)).mono ?_; rintro v h' ⟨rfl, rfl⟩; refine gK.go ?_)
      simp -implicitDefEqProofs [c0, cw, cw_1]
      first | refine dcallK (toCx_c q _ lq) ?_ | (refine (toCx_c q _ lq).mono ?_; rintro v h' ⟨rfl, rfl⟩; refine gK.go ?_)
      simp -implicitDefEqProofs [c0, cw, cw_1]
      first | refine dcallK (eqCx_own o0 (cx_is q) (fun p hp => List.mem_append_right _ (List.mem_append_right _ (hp))) lq) ?_ | (refine (eqCx_own o0 (cx_is q) (fun p hp => List.mem_append_right _ (List.mem_append_right _ (hp))) lq).mono ?_; rintro v h' ⟨rfl, rfl⟩; refine gK.go ?_)
      simp -implicitDefEqProofs [c0, cw, cw_1]
      first | refine dcallK (toInt64S_c x _ lx) ?_ | (refine (toInt64S_c x _ lx).mono ?_; rintro v h' ⟨rfl, rfl⟩; refine gK.go ?_)
      simp -implicitDefEqProofs [c0, cw, cw_1]
      first | refine dcallK (eqI_own o1 (.snap x) (fun p hp => List.mem_append_right _ (List.mem_append_left _ hp)) lx) ?_ | (refine (eqI_own o1 (.snap x) (fun p hp => List.mem_append_right _ (List.mem_append_left _ hp)) lx).mono ?_; rintro v h' ⟨rfl, rfl⟩; refine gK.go ?_)
      simp -implicitDefEqProofs [c0, cw, cw_1]
      refine (markCx_drop o0 (gg ++ g1) (fun p hp => List.mem_append_right _ (List.mem_append_right _ (hp))) ?_ ?_ (1) (by omega) (by omega)).monoN ?_
      · simpa only [List.append_assoc] using keepL (a := (gg ++ g1)) (b := g0) (by simpa only [List.append_assoc] using ng)
      · exact fun nd => nodupL (a := (gg ++ g1)) (b := g0) (by simpa only [List.append_assoc] using nd)
      rintro _ _ ⟨e1, e2⟩ nk0
      rw [e1, e2]; rw [e2] at nk0
      refine gK.go ?_
      simp -implicitDefEqProofs [c0, cw, cw_1]
      refine (markI_drop o1 gg (fun p hp => List.mem_append_right _ (hp)) ?_ ?_ (1 + (sumL q : Int)) (by omega) (by omega)).monoN ?_
      · simpa only [List.append_assoc] using keepL (a := gg) (b := g1) (by simpa only [List.append_assoc] using nk0)
      · exact fun nd => nodupL (a := gg) (b := g1) (by simpa only [List.append_assoc] using nd)
      rintro _ _ ⟨e1, e2⟩ nk1
      rw [e1, e2]; rw [e2] at nk1
      refine gK.go ?_
      have hk : ¬ (1 + (sumL q : Int) + (x.length : Int)) < 0 := by omega
      simp -implicitDefEqProofs [c0, cw, cw_1, hk]
      first | refine dcallK (eqFil_own og ((loF q x).is) (fun p hp => hp) (show (loF q x).tot ≤ 1048576 by omega)) ?_ | (refine (eqFil_own og ((loF q x).is) (fun p hp => hp) (show (loF q x).tot ≤ 1048576 by omega)).mono ?_; rintro v h' ⟨rfl, rfl⟩; refine gK.go ?_)
      simp -implicitDefEqProofs [c0, cw, cw_1]
      skip
      refine (markFil_keep og [] (fun p hp => hp) keepN (fun _ => by simp [dom]) 1 (by omega) (by have := (show (loF q x).tot ≤ 1048576 by omega); omega)).mono ?_
      rintro _ _ ⟨gm, rfl, om, rfl⟩
      refine gK.go ?_
      simp -implicitDefEqProofs [c0, cw, cw_1]
      have hq : ¬ (1 + (((loF q x)).cnt : Int) < 0) := by omega
      first | refine dcallK (heldFil_own om (fun p hp => hp) 1 (by omega) (by have := (show (loF q x).tot ≤ 1048576 by omega); simp; omega)) ?_ | (refine (heldFil_own om (fun p hp => hp) 1 (by omega) (by have := (show (loF q x).tot ≤ 1048576 by omega); simp; omega)).mono ?_; rintro v h' ⟨rfl, rfl⟩; refine gK.go ?_)
      simp -implicitDefEqProofs [c0, cw, cw_1, hq]
      first | refine dcallK (toCx_c q _ lq) ?_ | (refine (toCx_c q _ lq).mono ?_; rintro v h' ⟨rfl, rfl⟩; refine gK.go ?_)
      simp -implicitDefEqProofs [c0, cw, cw_1]
      first | refine dcallK (toInt64S_c x _ lx) ?_ | (refine (toInt64S_c x _ lx).mono ?_; rintro v h' ⟨rfl, rfl⟩; refine gK.go ?_)
      simp -implicitDefEqProofs [c0, cw, cw_1]
      refine (ACalls.gives [] (by simp) (S := fun v h' => ∃ w, v = .tup [w, .int .i64 (loCode q x)] ∧ OwnFil w (loF q x) h') ?_ ?_).mono ?_
      · exact implLo_o q x lq lx
      · rintro v h' ⟨w, rfl, ho⟩
        have := ho.own
        exact ⟨by simp [own, owns, this.1], this.2⟩
      rintro _ _ ⟨g9, ⟨w9, rfl, o9⟩, d9, rfl⟩
      obtain ⟨ru, rw, ra, rb, rfl, rou, row, rhd, rhe⟩ := id o9
      have cz := rou.cell
      have cz_1 := row.cell
      refine gK.go ?_
      simp -implicitDefEqProofs [c0, cw, cw_1, hq, cz, cz_1]
      first | refine dcallK (eqFil_own o9 ((loF q x).is) (fun p hp => List.mem_append_left _ hp) (show (loF q x).tot ≤ 1048576 by omega)) ?_ | (refine (eqFil_own o9 ((loF q x).is) (fun p hp => List.mem_append_left _ hp) (show (loF q x).tot ≤ 1048576 by omega)).mono ?_; rintro v h' ⟨rfl, rfl⟩; refine gK.go ?_)
      simp -implicitDefEqProofs [c0, cw, cw_1, hq, cz, cz_1]
      first | refine dcallK (heldFil_own om (fun p hp => List.mem_append_right _ hp) 1 (by omega) (by have := (show (loF q x).tot ≤ 1048576 by omega); simp; omega)) ?_ | (refine (heldFil_own om (fun p hp => List.mem_append_right _ hp) 1 (by omega) (by have := (show (loF q x).tot ≤ 1048576 by omega); simp; omega)).mono ?_; rintro v h' ⟨rfl, rfl⟩; refine gK.go ?_)
      simp -implicitDefEqProofs [c0, cw, cw_1, hq, cz, cz_1]
      exact Post.none ⟨rfl, rfl⟩
    · have hAq : (1048576 : Int) < (ssTot q) := by omega
      simp -implicitDefEqProofs [hx2_q, hx2_x, hAx, hAq]
      exact .base ⟨rfl, rfl⟩
  · have hAx : (1048576 : Int) < x.length := by omega
    simp -implicitDefEqProofs [hx2_q, hx2_x, hAx]
    exact .base ⟨rfl, rfl⟩
end Go.AG
namespace Go.Proofs.Ytamjnegnoijjlaa
open Go.ChangeShapes Go.WideShapes Go.ChangeAt Go.RowKit Go.AG
theorem own : ownKnob Try.prog.godebug = none := by kernel_rfl
theorem laidOut : laidOutB Try.prog = true := by kernel_rfl
set_option maxRecDepth 100000 in
theorem fnExactLowerFiltration_lifted (os : Os) (started : os.Started) (H : Type) (enc : TypeId × Value → H) :
    ReturnsInHanded {} Try.checked os 8 .any (Rows.fnExactLowerFiltrationSpec.pre6 enc Try.prog Try.f8 Rows.fnExactLowerFiltrationRow.domain false) (Rows.fnExactLowerFiltrationSpec.post enc Try.prog Try.f8 false true false false) := by
  refine returnsInHanded_of_change (C := Try.checked) own started (by kernel_rfl) Try.func8
    (ChangeSpec.witness6 (enc := enc) (C := Try.checked) false ⟨#[], #[.agg #[.slice none 0 0], .slice none 0 0], []⟩ 8 (by kernel_rfl) (by kernel_rfl) (by kernel_rfl) (by kernel_rfl)) ?_
  intro W base args ds gs before hval0 hW _ _
  have hval : ∀ (j : Nat) t v, Try.f8.params[j]? = some t → args[j]? = some v → Value.okWide Try.prog W .any base t v := hval0
  refine law_post (tys := [tyCx, (.slice (.int .i64))]) (tb := 4) laidOut rfl (by kernel_rfl) (by kernel_rfl) (by kernel_rfl) (by kernel_rfl) hval hW ?_ ?_
  · intro ds h
    match ds, h with
    | [a0, a1], _ => rfl
  · rintro xs ⟨x0, r0, rfl, h0, x1, r1, rfl, h1, hr⟩
    have hr0 : r1 = [] := hr
    subst hr0
    obtain ⟨p0, rfl, q0⟩ := Cx_of_shape h0
    obtain ⟨p1, rfl, q1⟩ := Ints_of_shape h1
    exact lo_law p0 q0 p1 q1
theorem fnExactLowerFiltration_holds : Rows.FnExactLowerFiltrationSaid :=
  OpenClaim.holds_of_wide 8 Try.f8 rfl rfl rfl rfl rfl rfl rfl ⟨rfl, rfl, rfl, rfl, rfl⟩ rfl rfl rfl rfl rfl (by kernel_rfl) Try.func8 (by kernel_rfl)
    (of_decide_eq_true (by kernel_rfl)) (by unfold Func.isWrapper; first | (rw [if_pos (by decide +kernel)]; kernel_rfl) | (rw [if_neg (by decide +kernel)]; exact ⟨rfl, rfl⟩))
    (fun os started H enc _ => fnExactLowerFiltration_lifted os started H enc)
end Go.Proofs.Ytamjnegnoijjlaa
