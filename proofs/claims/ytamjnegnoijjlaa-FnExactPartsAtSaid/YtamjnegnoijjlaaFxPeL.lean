/- The law FnExactPartsAt is true for every input: the program's PartsAt returns what the reference's returns. -/
import Derived.Test.YtamjnegnoijjlaaFxPe
import Derived.Test.YtamjnegnoijjlaaFilL
namespace Go.AG
open Go.Proofs Go.Proofs.Ytamjnegnoijjlaa
set_option linter.unusedSimpArgs false
set_option linter.unusedVariables false
set_option maxRecDepth 4000
abbrev k9_o0 : List AJ := [.o ⟨(some 2), none, false, .box false 2 (.t 0), none⟩, .o ⟨(some 4), none, false, .mv (.c (.bool false)), (some [1, 2])⟩]
abbrev k9_o1 : List AJ := [.o ⟨(some 5), none, false, .mv (.c (.int .i64 1048576)), (some [1, 2, 5])⟩]
abbrev k9_o2 : List AJ := [.o ⟨(some 16), none, false, .load 2 true (.t 2), none⟩, .o ⟨(some 17), none, false, .mv (.t 5), none⟩, .o ⟨(some 18), none, false, .call 13 [(.t 16), (.t 17)], none⟩, .o ⟨(some 5), none, false, .mv (.t 18), (some [1, 2, 5])⟩]
abbrev k9_o3 : List AJ := [.o ⟨(some 19), none, false, .mv (.t 5), none⟩, .o ⟨(some 20), none, false, .bin .lss (.t 19) (.c (.int .i64 0)), (some [1, 2, 20])⟩]
abbrev k9_o4 : List AJ := [.o ⟨(some 4), none, false, .mv (.c (.bool true)), (some [4])⟩]
def k9_5 : ACode := .seq (.region k9_o4) .ret
def k9_6 : ACode := .cond (.t 20) k9_5 .skip
def k9_7 : ACode := .seq (.region k9_o3) k9_6
abbrev k9_o5 : List AJ := [.o ⟨(some 22), none, false, .load 2 true (.t 2), none⟩, .o ⟨(some 23), none, false, .call 15 [(.t 22)], none⟩, .o ⟨(some 24), none, false, .mv (.t 1), none⟩, .o ⟨(some 25), none, false, .call 39 [(.t 23), (.t 24)], none⟩, .o ⟨(some 21), none, false, .mv (.t 25), none⟩, .o ⟨(some 26), none, false, .extract (.t 21) 0, none⟩, .o ⟨(some 27), none, false, .extract (.t 21) 1, none⟩, .o ⟨(some 6), none, false, .mv (.t 26), none⟩, .o ⟨(some 7), none, false, .mv (.t 27), (some [1, 2, 6, 7])⟩]
abbrev k9_o6 : List AJ := [.o ⟨(some 28), none, false, .load 2 true (.t 2), none⟩, .o ⟨(some 29), none, false, .call 15 [(.t 28)], none⟩, .v 8 2 (.agg [.nilsl, .nilsl]) [] (.t 29) (some [1, 2, 6, 7, 8])]
abbrev k9_o7 : List AJ := [.o ⟨(some 31), none, false, .load 2 true (.t 8), none⟩, .o ⟨(some 32), none, false, .mv (.t 1), none⟩, .o ⟨(some 33), none, false, .call 40 [(.t 31), (.t 32)], none⟩, .o ⟨(some 30), none, false, .mv (.t 33), none⟩, .o ⟨(some 34), none, false, .extract (.t 30) 0, none⟩, .o ⟨(some 35), none, false, .extract (.t 30) 1, none⟩, .o ⟨(some 9), none, false, .mv (.t 34), none⟩, .o ⟨(some 10), none, false, .mv (.t 35), (some [1, 2, 6, 7, 8, 9, 10])⟩]
abbrev k9_o8 : List AJ := [.o ⟨(some 36), none, false, .mv (.t 9), none⟩, .o ⟨(some 37), none, false, .mv (.t 6), none⟩, .o ⟨(some 38), none, false, .call 20 [(.t 36), (.t 37)], none⟩, .o ⟨(some 39), none, false, .un .not (.t 38), none⟩, .o ⟨(some 40), none, false, .mv (.t 39), none⟩, .o ⟨(some 41), (some (40, false)), false, .mv (.t 10), none⟩, .o ⟨(some 42), (some (40, false)), false, .mv (.t 7), none⟩, .o ⟨(some 43), (some (40, false)), false, .bin .neq (.t 41) (.t 42), none⟩, .o ⟨(some 44), none, false, .pick (.t 40) (.c (.bool true)) (.t 43), (some [1, 2, 6, 7, 8, 9, 10, 44])⟩]
abbrev k9_o9 : List AJ := [.o ⟨(some 4), none, false, .mv (.c (.bool false)), (some [4])⟩]
def k9_13 : ACode := .seq (.region k9_o9) .ret
def k9_14 : ACode := .cond (.t 44) k9_13 .skip
def k9_15 : ACode := .seq (.region k9_o8) k9_14
abbrev k9_o10 : List AI := [⟨(some 45), none, false, .load 2 true (.t 8), none⟩, ⟨(some 46), none, false, .load 2 true (.t 2), none⟩, ⟨(some 47), none, false, .call 15 [(.t 46)], none⟩, ⟨(some 48), none, false, .call 17 [(.t 45), (.t 47)], none⟩, ⟨(some 49), none, false, .un .not (.t 48), (some [1, 2, 6, 7, 8, 9, 10, 49])⟩]
abbrev k9_o11 : List AJ := [.o ⟨(some 4), none, false, .mv (.c (.bool false)), (some [4])⟩]
def k9_18 : ACode := .seq (.region k9_o11) .ret
def k9_19 : ACode := .cond (.t 49) k9_18 .skip
def k9_20 : ACode := .seq (.draw k9_o10 [] rfl) k9_19
abbrev k9_o12 : List AJ := [.o ⟨(some 11), none, false, .mv (.c (.int .i64 1)), (some [1, 2, 6, 7, 8, 9, 10, 11])⟩]
abbrev k9_o13 : List AJ := [.o ⟨(some 50), none, false, .load 2 true (.t 8), none⟩, .o ⟨(some 51), none, false, .mv (.t 11), none⟩, .o ⟨(some 52), none, false, .call 21 [(.t 50), (.t 51)], none⟩, .o ⟨(some 11), none, false, .mv (.t 52), (some [1, 2, 6, 7, 9, 10, 11])⟩]
abbrev k9_o14 : List AJ := [.o ⟨(some 53), none, false, .mv (.t 11), none⟩, .o ⟨(some 54), none, false, .bin .lss (.t 53) (.c (.int .i64 0)), none⟩, .o ⟨(some 55), none, false, .mv (.t 54), none⟩, .o ⟨(some 56), (some (55, false)), false, .mv (.t 9), none⟩, .o ⟨(some 57), (some (55, false)), false, .mv (.t 6), none⟩, .o ⟨(some 58), (some (55, false)), false, .call 20 [(.t 56), (.t 57)], none⟩, .o ⟨(some 59), (some (55, false)), false, .un .not (.t 58), none⟩, .o ⟨(some 60), none, false, .pick (.t 55) (.c (.bool true)) (.t 59), none⟩, .o ⟨(some 61), none, false, .mv (.t 60), none⟩, .o ⟨(some 62), (some (61, false)), false, .mv (.t 10), (some [1, 2, 6, 7, 9, 61, 62])⟩, .o ⟨(some 63), (some (61, false)), false, .mv (.t 7), none⟩, .o ⟨(some 64), (some (61, false)), false, .bin .neq (.t 62) (.t 63), none⟩, .o ⟨(some 65), none, false, .pick (.t 61) (.c (.bool true)) (.t 64), (some [1, 2, 6, 7, 9, 65])⟩]
abbrev k9_o15 : List AJ := [.o ⟨(some 4), none, false, .mv (.c (.bool false)), (some [4])⟩]
def k9_25 : ACode := .seq (.region k9_o15) .ret
def k9_26 : ACode := .cond (.t 65) k9_25 .skip
def k9_27 : ACode := .seq (.region k9_o14) k9_26
abbrev k9_o16 : List AJ := [.o ⟨(some 12), none, false, .mv (.c (.int .i64 1)), (some [1, 2, 6, 7, 9, 12])⟩]
abbrev k9_o17 : List AJ := [.o ⟨(some 66), none, false, .mv (.t 9), none⟩, .o ⟨(some 67), none, false, .mv (.t 12), none⟩, .o ⟨(some 68), none, false, .call 22 [(.t 66), (.t 67)], none⟩, .o ⟨(some 12), none, false, .mv (.t 68), (some [1, 2, 6, 7, 9, 12])⟩]
abbrev k9_o18 : List AJ := [.o ⟨(some 13), none, false, .mv (.c (.int .i64 1)), (some [1, 2, 6, 7, 9, 12, 13])⟩]
abbrev k9_o19 : List AJ := [.o ⟨(some 69), none, false, .mv (.t 9), none⟩, .o ⟨(some 70), none, false, .mv (.t 13), none⟩, .o ⟨(some 71), none, false, .call 23 [(.t 69), (.t 70)], none⟩, .o ⟨(some 13), none, false, .mv (.t 71), (some [1, 2, 6, 7, 9, 12, 13])⟩]
abbrev k9_o20 : List AJ := [.o ⟨(some 72), none, false, .mv (.t 13), none⟩, .o ⟨(some 73), none, false, .bin .lss (.t 72) (.c (.int .i64 0)), (some [1, 2, 6, 7, 9, 12, 13, 73])⟩]
abbrev k9_o21 : List AJ := [.o ⟨(some 4), none, false, .mv (.c (.bool false)), (some [4])⟩]
def k9_34 : ACode := .seq (.region k9_o21) .ret
def k9_35 : ACode := .cond (.t 73) k9_34 .skip
def k9_36 : ACode := .seq (.region k9_o20) k9_35
abbrev k9_o22 : List AJ := [.o ⟨(some 74), none, false, .mv (.t 13), none⟩, .o ⟨(some 75), none, false, .mv (.t 12), none⟩, .o ⟨(some 76), none, false, .bin .neq (.t 74) (.t 75), (some [1, 2, 6, 7, 9, 12, 76])⟩]
abbrev k9_o23 : List AJ := [.o ⟨(some 4), none, false, .mv (.c (.bool false)), (some [4])⟩]
def k9_39 : ACode := .seq (.region k9_o23) .ret
def k9_40 : ACode := .cond (.t 76) k9_39 .skip
def k9_41 : ACode := .seq (.region k9_o22) k9_40
abbrev k9_o24 : List AJ := [.o ⟨(some 78), none, false, .load 2 true (.t 2), none⟩, .o ⟨(some 79), none, false, .call 15 [(.t 78)], none⟩, .o ⟨(some 80), none, false, .mv (.t 1), none⟩, .o ⟨(some 81), none, false, .call 40 [(.t 79), (.t 80)], none⟩, .o ⟨(some 77), none, false, .mv (.t 81), none⟩, .o ⟨(some 82), none, false, .extract (.t 77) 0, none⟩, .o ⟨(some 83), none, false, .extract (.t 77) 1, none⟩, .o ⟨(some 14), none, false, .mv (.t 82), none⟩, .o ⟨(some 15), none, false, .mv (.t 83), (some [6, 7, 9, 12, 14, 15])⟩]
abbrev k9_o25 : List AJ := [.o ⟨(some 84), none, false, .mv (.t 14), none⟩, .o ⟨(some 85), none, false, .mv (.t 6), none⟩, .o ⟨(some 86), none, false, .call 20 [(.t 84), (.t 85)], none⟩, .o ⟨(some 87), none, false, .un .not (.t 86), none⟩, .o ⟨(some 88), none, false, .mv (.t 87), none⟩, .o ⟨(some 89), (some (88, false)), false, .mv (.t 15), none⟩, .o ⟨(some 90), (some (88, false)), false, .mv (.t 7), none⟩, .o ⟨(some 91), (some (88, false)), false, .bin .neq (.t 89) (.t 90), none⟩, .o ⟨(some 92), none, false, .pick (.t 88) (.c (.bool true)) (.t 91), (some [9, 12, 92])⟩]
abbrev k9_o26 : List AJ := [.o ⟨(some 4), none, false, .mv (.c (.bool false)), (some [4])⟩]
def k9_45 : ACode := .seq (.region k9_o26) .ret
def k9_46 : ACode := .cond (.t 92) k9_45 .skip
def k9_47 : ACode := .seq (.region k9_o25) k9_46
abbrev k9_o27 : List AJ := [.o ⟨(some 13), none, false, .mv (.c (.int .i64 1)), (some [9, 12, 13])⟩]
abbrev k9_o28 : List AJ := [.o ⟨(some 93), none, false, .mv (.t 9), none⟩, .o ⟨(some 94), none, false, .mv (.t 13), none⟩, .o ⟨(some 95), none, false, .call 23 [(.t 93), (.t 94)], none⟩, .o ⟨(some 13), none, false, .mv (.t 95), (some [12, 13])⟩]
abbrev k9_o29 : List AJ := [.o ⟨(some 96), none, false, .mv (.t 13), none⟩, .o ⟨(some 97), none, false, .bin .lss (.t 96) (.c (.int .i64 0)), (some [12, 13, 97])⟩]
abbrev k9_o30 : List AJ := [.o ⟨(some 4), none, false, .mv (.c (.bool false)), (some [4])⟩]
def k9_52 : ACode := .seq (.region k9_o30) .ret
def k9_53 : ACode := .cond (.t 97) k9_52 .skip
def k9_54 : ACode := .seq (.region k9_o29) k9_53
abbrev k9_o31 : List AJ := [.o ⟨(some 98), none, false, .mv (.t 13), none⟩, .o ⟨(some 99), none, false, .mv (.t 12), none⟩, .o ⟨(some 100), none, false, .bin .neq (.t 98) (.t 99), (some [100])⟩]
abbrev k9_o32 : List AJ := [.o ⟨(some 4), none, false, .mv (.c (.bool false)), (some [4])⟩]
def k9_57 : ACode := .seq (.region k9_o32) .ret
def k9_58 : ACode := .cond (.t 100) k9_57 .skip
def k9_59 : ACode := .seq (.region k9_o31) k9_58
abbrev k9_o33 : List AJ := [.o ⟨(some 4), none, false, .mv (.c (.bool true)), (some [4])⟩]
def k9_61 : ACode := .seq (.region k9_o33) .ret
def k9_62 : ACode := .seq k9_59 k9_61
def k9_63 : ACode := .seq k9_54 k9_62
def k9_64 : ACode := .seq (.region k9_o28) k9_63
def k9_65 : ACode := .seq (.region k9_o27) k9_64
def k9_66 : ACode := .seq k9_47 k9_65
def k9_67 : ACode := .seq (.region k9_o24) k9_66
def k9_68 : ACode := .seq k9_41 k9_67
def k9_69 : ACode := .seq k9_36 k9_68
def k9_70 : ACode := .seq (.region k9_o19) k9_69
def k9_71 : ACode := .seq (.region k9_o18) k9_70
def k9_72 : ACode := .seq (.region k9_o17) k9_71
def k9_73 : ACode := .seq (.region k9_o16) k9_72
def k9_74 : ACode := .seq k9_27 k9_73
def k9_75 : ACode := .seq (.region k9_o13) k9_74
def k9_76 : ACode := .seq (.region k9_o12) k9_75
def k9_77 : ACode := .seq k9_20 k9_76
def k9_78 : ACode := .seq k9_15 k9_77
def k9_79 : ACode := .seq (.region k9_o7) k9_78
def k9_80 : ACode := .seq (.region k9_o6) k9_79
def k9_81 : ACode := .seq (.region k9_o5) k9_80
def k9_82 : ACode := .seq k9_7 k9_81
def k9_83 : ACode := .seq (.region k9_o2) k9_82
def k9_84 : ACode := .seq (.region k9_o1) k9_83
def k9_85 : ACode := .seq (.region k9_o0) k9_84
@[simp, simp ↓] theorem k9_5r : sR k9_5 k9_o4 .ret := yR rfl
@[simp, simp ↓] theorem k9_6r : rC k9_6 (.t 20) k9_5 .skip := zC rfl
@[simp, simp ↓] theorem k9_7r : sR k9_7 k9_o3 k9_6 := yR rfl
@[simp, simp ↓] theorem k9_13r : sR k9_13 k9_o9 .ret := yR rfl
@[simp, simp ↓] theorem k9_14r : rC k9_14 (.t 44) k9_13 .skip := zC rfl
@[simp, simp ↓] theorem k9_15r : sR k9_15 k9_o8 k9_14 := yR rfl
@[simp, simp ↓] theorem k9_18r : sR k9_18 k9_o11 .ret := yR rfl
@[simp, simp ↓] theorem k9_19r : rC k9_19 (.t 49) k9_18 .skip := zC rfl
@[simp, simp ↓] theorem k9_20r : sD k9_20 k9_o10 [] k9_19 := yD rfl
@[simp, simp ↓] theorem k9_25r : sR k9_25 k9_o15 .ret := yR rfl
@[simp, simp ↓] theorem k9_26r : rC k9_26 (.t 65) k9_25 .skip := zC rfl
@[simp, simp ↓] theorem k9_27r : sR k9_27 k9_o14 k9_26 := yR rfl
@[simp, simp ↓] theorem k9_34r : sR k9_34 k9_o21 .ret := yR rfl
@[simp, simp ↓] theorem k9_35r : rC k9_35 (.t 73) k9_34 .skip := zC rfl
@[simp, simp ↓] theorem k9_36r : sR k9_36 k9_o20 k9_35 := yR rfl
@[simp, simp ↓] theorem k9_39r : sR k9_39 k9_o23 .ret := yR rfl
@[simp, simp ↓] theorem k9_40r : rC k9_40 (.t 76) k9_39 .skip := zC rfl
@[simp, simp ↓] theorem k9_41r : sR k9_41 k9_o22 k9_40 := yR rfl
@[simp, simp ↓] theorem k9_45r : sR k9_45 k9_o26 .ret := yR rfl
@[simp, simp ↓] theorem k9_46r : rC k9_46 (.t 92) k9_45 .skip := zC rfl
@[simp, simp ↓] theorem k9_47r : sR k9_47 k9_o25 k9_46 := yR rfl
@[simp, simp ↓] theorem k9_52r : sR k9_52 k9_o30 .ret := yR rfl
@[simp, simp ↓] theorem k9_53r : rC k9_53 (.t 97) k9_52 .skip := zC rfl
@[simp, simp ↓] theorem k9_54r : sR k9_54 k9_o29 k9_53 := yR rfl
@[simp, simp ↓] theorem k9_57r : sR k9_57 k9_o32 .ret := yR rfl
@[simp, simp ↓] theorem k9_58r : rC k9_58 (.t 100) k9_57 .skip := zC rfl
@[simp, simp ↓] theorem k9_59r : sR k9_59 k9_o31 k9_58 := yR rfl
@[simp, simp ↓] theorem k9_61r : sR k9_61 k9_o33 .ret := yR rfl
@[simp, simp ↓] theorem k9_62r : rS k9_62 k9_59 k9_61 := zS rfl
@[simp, simp ↓] theorem k9_63r : rS k9_63 k9_54 k9_62 := zS rfl
@[simp, simp ↓] theorem k9_64r : sR k9_64 k9_o28 k9_63 := yR rfl
@[simp, simp ↓] theorem k9_65r : sR k9_65 k9_o27 k9_64 := yR rfl
@[simp, simp ↓] theorem k9_66r : rS k9_66 k9_47 k9_65 := zS rfl
@[simp, simp ↓] theorem k9_67r : sR k9_67 k9_o24 k9_66 := yR rfl
@[simp, simp ↓] theorem k9_68r : rS k9_68 k9_41 k9_67 := zS rfl
@[simp, simp ↓] theorem k9_69r : rS k9_69 k9_36 k9_68 := zS rfl
@[simp, simp ↓] theorem k9_70r : sR k9_70 k9_o19 k9_69 := yR rfl
@[simp, simp ↓] theorem k9_71r : sR k9_71 k9_o18 k9_70 := yR rfl
@[simp, simp ↓] theorem k9_72r : sR k9_72 k9_o17 k9_71 := yR rfl
@[simp, simp ↓] theorem k9_73r : sR k9_73 k9_o16 k9_72 := yR rfl
@[simp, simp ↓] theorem k9_74r : rS k9_74 k9_27 k9_73 := zS rfl
@[simp, simp ↓] theorem k9_75r : sR k9_75 k9_o13 k9_74 := yR rfl
@[simp, simp ↓] theorem k9_76r : sR k9_76 k9_o12 k9_75 := yR rfl
@[simp, simp ↓] theorem k9_77r : rS k9_77 k9_20 k9_76 := zS rfl
@[simp, simp ↓] theorem k9_78r : rS k9_78 k9_15 k9_77 := zS rfl
@[simp, simp ↓] theorem k9_79r : sR k9_79 k9_o7 k9_78 := yR rfl
@[simp, simp ↓] theorem k9_80r : sR k9_80 k9_o6 k9_79 := yR rfl
@[simp, simp ↓] theorem k9_81r : sR k9_81 k9_o5 k9_80 := yR rfl
@[simp, simp ↓] theorem k9_82r : rS k9_82 k9_7 k9_81 := zS rfl
@[simp, simp ↓] theorem k9_83r : sR k9_83 k9_o2 k9_82 := yR rfl
@[simp, simp ↓] theorem k9_84r : sR k9_84 k9_o1 k9_83 := yR rfl
@[simp, simp ↓] theorem k9_85r : sR k9_85 k9_o0 k9_84 := yR rfl
noncomputable abbrev k9_C : Orc → Cx := mkC Try.prog [8] 9 101 [.tmp 4]
theorem k9_of : OfP Try.prog Try.f9 9 101 k9_C k9_85 := @ofP _ _ _ _ _ _ _ _ Try.func9 (by decide +kernel) rfl (by kernel_rfl) rfl (by kernel_rfl)
theorem k9_of0 : OfP0 Try.prog Try.f9 9 101 k9_C k9_85 := @ofP0 _ _ _ _ _ _ _ _ Try.func9 (by decide +kernel) rfl (by kernel_rfl) rfl (by kernel_rfl)
theorem pa_law (x : Fil) (hx : x.wf) (t : Int) (ht : in64 t) : ACalls Try.prog 9 [x.av, (.int .i64 t)] [] (fun v h' => v = .bool true ∧ h' = []) := by
  refine k9_of rfl orcM_p fun I => ?_
  have hx2_x := hx
  refine Run2.of I 1000 ?_
  by_cases kx : (x.tot : Int) ≤ (1048576 : Int)
  · have hAx : ¬ (1048576 : Int) < x.tot := by omega
    have hBx : ¬ (1048576 : Int) - x.tot < 0 := by omega
    have hCx : (0 : Int) ≤ (1048576 : Int) - x.tot := by omega
    have lx : x.tot ≤ 1048576 := by omega
    have hDx : (1048576 : Int) - x.tot ≤ 1048576 := by omega
    have hct := x.paL_len t
    have hxc := x.cnt_le
    simp -implicitDefEqProofs [hx2_x, hAx, hBx, hCx, hDx, kx]
    first | refine dcallK (toFil_c x _ lx) ?_ | (refine (toFil_c x _ lx).mono ?_; rintro v h' ⟨rfl, rfl⟩; refine gK.go ?_)
    simp -implicitDefEqProofs
    first | refine dcallK (specPA_c x t _ lx) ?_ | (refine (specPA_c x t _ lx).mono ?_; rintro v h' ⟨rfl, rfl⟩; refine gK.go ?_)
    simp -implicitDefEqProofs
    refine (toFil_o x _ lx).monoN ?_
    rintro v0 h' ⟨g0, o0, d0, rfl⟩ n0
    obtain ⟨pu0, pw0, pa0, pb0, rfl, pou0, pow0, phd0, phe0⟩ := id o0
    have c0 := pou0.cell
    have c0_1 := pow0.cell
    refine gK.go ?_
    simp -implicitDefEqProofs [c0, c0_1]
    simp only [List.append_nil] at n0
    have L0 := o0.lentMid (A := []) (B := []) (by simpa only [List.nil_append, List.append_nil, List.append_assoc] using n0)
    simp only [List.nil_append, List.append_nil, List.append_assoc] at L0
    refine (ACalls.gives g0 (fun p hp => hp) (S := fun v h' => ∃ w, v = .tup [w, .int .i64 (x.tCode t)] ∧ OwnL iv 1 w (x.paL t) h') ?_ ?_).monoN ?_
    · rw [lend_cons, lend_cons, lend_nil', lend1_cold g0 (x := (.int .i64 t)) rfl]
      exact ACalls.wk (.cons L0.wk (.cons (.refl _) .nil)) (implPA_o x t lx)
    · rintro v h' ⟨w, rfl, ho⟩
      have := ho.own own_iv1
      exact ⟨by simp [own, owns, this.1], this.2⟩
    rintro v h' ⟨gg, ⟨w, rfl, og⟩, dg, rfl⟩ ng
    refine gK.go ?_
    simp -implicitDefEqProofs [c0, c0_1]
    first | refine dcallK (eqI_own og (.snap (x.paL t)) (fun p hp => List.mem_append_left _ hp) (show (x.paL t).length ≤ 1048576 by have := (fit_of_tot (x.lens lx).1).1; omega)) ?_ | (refine (eqI_own og (.snap (x.paL t)) (fun p hp => List.mem_append_left _ hp) (show (x.paL t).length ≤ 1048576 by have := (fit_of_tot (x.lens lx).1).1; omega)).mono ?_; rintro v h' ⟨rfl, rfl⟩; refine gK.go ?_)
    simp -implicitDefEqProofs [c0, c0_1]
    first | refine dcallK (toFil_c x _ lx) ?_ | (refine (toFil_c x _ lx).mono ?_; rintro v h' ⟨rfl, rfl⟩; refine gK.go ?_)
    simp -implicitDefEqProofs [c0, c0_1]
    first | refine dcallK (eqFil_own o0 x.is (fun p hp => List.mem_append_right _ (hp)) lx) ?_ | (refine (eqFil_own o0 x.is (fun p hp => List.mem_append_right _ (hp)) lx).mono ?_; rintro v h' ⟨rfl, rfl⟩; refine gK.go ?_)
    simp -implicitDefEqProofs [c0, c0_1]
    refine (markFil_drop o0 gg (fun p hp => List.mem_append_right _ (hp)) ?_ ?_ (1) (by omega) (by omega)).monoN ?_
    · simpa only [List.append_assoc] using keepL (a := gg) (b := g0) (by simpa only [List.append_assoc] using ng)
    · exact fun nd => nodupL (a := gg) (b := g0) (by simpa only [List.append_assoc] using nd)
    rintro _ _ ⟨e1, e2⟩ nk0
    rw [e1, e2]; rw [e2] at nk0
    refine gK.go ?_
    have hk : ¬ (1 + ((x).cnt : Int)) < 0 := by omega
    simp -implicitDefEqProofs [c0, c0_1, hk]
    first | refine dcallK (eqI_own og (.snap (x.paL t)) (fun p hp => hp) (show (x.paL t).length ≤ 1048576 by have := (fit_of_tot (x.lens lx).1).1; omega)) ?_ | (refine (eqI_own og (.snap (x.paL t)) (fun p hp => hp) (show (x.paL t).length ≤ 1048576 by have := (fit_of_tot (x.lens lx).1).1; omega)).mono ?_; rintro v h' ⟨rfl, rfl⟩; refine gK.go ?_)
    simp -implicitDefEqProofs [c0, c0_1]
    skip
    refine (markI_keep og [] (fun p hp => hp) keepN (fun _ => by simp [dom]) 1 (by omega) (by have := (show (x.paL t).length ≤ 1048576 by have := (fit_of_tot (x.lens lx).1).1; omega); omega)).mono ?_
    rintro _ _ ⟨gm, rfl, om, rfl⟩
    refine gK.go ?_
    simp -implicitDefEqProofs [c0, c0_1]
    have hq : ¬ (1 + ((x.paL t).length : Int) < 0) := by omega
    first | refine dcallK (heldI_own om (fun p hp => hp) 1 (by omega) (by have := (show (x.paL t).length ≤ 1048576 by have := (fit_of_tot (x.lens lx).1).1; omega); simp; omega)) ?_ | (refine (heldI_own om (fun p hp => hp) 1 (by omega) (by have := (show (x.paL t).length ≤ 1048576 by have := (fit_of_tot (x.lens lx).1).1; omega); simp; omega)).mono ?_; rintro v h' ⟨rfl, rfl⟩; refine gK.go ?_)
    simp -implicitDefEqProofs [c0, c0_1, hq]
    first | refine dcallK (toFil_c x _ lx) ?_ | (refine (toFil_c x _ lx).mono ?_; rintro v h' ⟨rfl, rfl⟩; refine gK.go ?_)
    simp -implicitDefEqProofs [c0, c0_1]
    refine (ACalls.gives [] (by simp) (S := fun v h' => ∃ w, v = .tup [w, .int .i64 (x.tCode t)] ∧ OwnL iv 1 w (x.paL t) h') ?_ ?_).mono ?_
    · exact implPA_o x t lx
    · rintro v h' ⟨w, rfl, ho⟩
      have := ho.own own_iv1
      exact ⟨by simp [own, owns, this.1], this.2⟩
    rintro _ _ ⟨g9, ⟨w9, rfl, o9⟩, d9, rfl⟩
    refine gK.go ?_
    simp -implicitDefEqProofs [c0, c0_1, hq]
    first | refine dcallK (eqI_own o9 (.snap (x.paL t)) (fun p hp => List.mem_append_left _ hp) (show (x.paL t).length ≤ 1048576 by have := (fit_of_tot (x.lens lx).1).1; omega)) ?_ | (refine (eqI_own o9 (.snap (x.paL t)) (fun p hp => List.mem_append_left _ hp) (show (x.paL t).length ≤ 1048576 by have := (fit_of_tot (x.lens lx).1).1; omega)).mono ?_; rintro v h' ⟨rfl, rfl⟩; refine gK.go ?_)
    simp -implicitDefEqProofs [c0, c0_1, hq]
    first | refine dcallK (heldI_own om (fun p hp => List.mem_append_right _ hp) 1 (by omega) (by have := (show (x.paL t).length ≤ 1048576 by have := (fit_of_tot (x.lens lx).1).1; omega); simp; omega)) ?_ | (refine (heldI_own om (fun p hp => List.mem_append_right _ hp) 1 (by omega) (by have := (show (x.paL t).length ≤ 1048576 by have := (fit_of_tot (x.lens lx).1).1; omega); simp; omega)).mono ?_; rintro v h' ⟨rfl, rfl⟩; refine gK.go ?_)
    simp -implicitDefEqProofs [c0, c0_1, hq]
    exact Post.none ⟨rfl, rfl⟩
  · have hAx : (1048576 : Int) < x.tot := by omega
    simp -implicitDefEqProofs [hx2_x, hAx]
    exact .base ⟨rfl, rfl⟩
end Go.AG
namespace Go.Proofs.Ytamjnegnoijjlaa
open Go.ChangeShapes Go.WideShapes Go.ChangeAt Go.RowKit Go.AG
theorem own : ownKnob Try.prog.godebug = none := by kernel_rfl
theorem laidOut : laidOutB Try.prog = true := by kernel_rfl
set_option maxRecDepth 100000 in
theorem fnExactPartsAt_lifted (os : Os) (started : os.Started) (H : Type) (enc : TypeId × Value → H) :
    ReturnsInHanded {} Try.checked os 9 .any (Rows.fnExactPartsAtSpec.pre6 enc Try.prog Try.f9 Rows.fnExactPartsAtRow.domain false) (Rows.fnExactPartsAtSpec.post enc Try.prog Try.f9 false true false false) := by
  refine returnsInHanded_of_change (C := Try.checked) own started (by kernel_rfl) Try.func9
    (ChangeSpec.witness6 (enc := enc) (C := Try.checked) false ⟨#[], #[.agg #[.slice none 0 0, .slice none 0 0], .int .i64 0], []⟩ 8 (by kernel_rfl) (by kernel_rfl) (by kernel_rfl) (by kernel_rfl)) ?_
  intro W base args ds gs before hval0 hW _ _
  have hval : ∀ (j : Nat) t v, Try.f9.params[j]? = some t → args[j]? = some v → Value.okWide Try.prog W .any base t v := hval0
  refine law_post (tys := [tyF, (.int .i64)]) (tb := 4) laidOut rfl (by kernel_rfl) (by kernel_rfl) (by kernel_rfl) (by kernel_rfl) hval hW ?_ ?_
  · intro ds h
    match ds, h with
    | [a0, a1], _ => rfl
  · rintro xs ⟨x0, r0, rfl, h0, x1, r1, rfl, h1, hr⟩
    have hr0 : r1 = [] := hr
    subst hr0
    obtain ⟨p0, rfl, q0⟩ := Fil_of_shape h0
    obtain ⟨p1, rfl, q1⟩ := Int_of_shape h1
    exact pa_law p0 q0 p1 q1
theorem fnExactPartsAt_holds : Rows.FnExactPartsAtSaid :=
  OpenClaim.holds_of_wide 9 Try.f9 rfl rfl rfl rfl rfl rfl rfl ⟨rfl, rfl, rfl, rfl, rfl⟩ rfl rfl rfl rfl rfl (by kernel_rfl) Try.func9 (by kernel_rfl)
    (of_decide_eq_true (by kernel_rfl)) (by unfold Func.isWrapper; first | (rw [if_pos (by decide +kernel)]; kernel_rfl) | (rw [if_neg (by decide +kernel)]; exact ⟨rfl, rfl⟩))
    (fun os started H enc _ => fnExactPartsAt_lifted os started H enc)
end Go.Proofs.Ytamjnegnoijjlaa
