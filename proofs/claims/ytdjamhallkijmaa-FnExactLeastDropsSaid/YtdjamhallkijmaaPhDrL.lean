/- The law FnExactLeastDrops is true for every input: the program's LeastDrops returns what the reference's returns. -/
import Derived.Test.YtdjamhallkijmaaPhDi
import Derived.Test.YtdjamhallkijmaaPhDs
namespace Go.AG
open Go.Proofs Go.Proofs.Ytdjamhallkijmaa
set_option linter.unusedSimpArgs false
set_option linter.unusedVariables false
set_option maxRecDepth 4000
noncomputable def orcM : List (Nat × (List AV → Option (Prop × AV))) := (13, o_szPhases) :: []
theorem orcM_p : Pure Try.prog (lk orcM) := (lk_pure o_szPhases_k lk_pure0)
@[simp] theorem orcM_l (b : Bool) (g : FuncId) (l : List AV) : lk orcM b g l = if g = 13 then o_szPhases l else none := nr rfl
abbrev k4_o0 : List AJ := [.o ⟨(some 2), none, false, .box false 3 (.t 0), none⟩, .o ⟨(some 4), none, false, .mv (.c (.bool false)), (some [1, 2])⟩]
abbrev k4_o1 : List AJ := [.o ⟨(some 5), none, false, .mv (.c (.int .i64 1048576)), (some [1, 2, 5])⟩]
abbrev k4_o2 : List AJ := [.o ⟨(some 16), none, false, .load 3 true (.t 2), none⟩, .o ⟨(some 17), none, false, .mv (.t 5), none⟩, .o ⟨(some 18), none, false, .call 13 [(.t 16), (.t 17)], none⟩, .o ⟨(some 5), none, false, .mv (.t 18), (some [1, 2, 5])⟩]
abbrev k4_o3 : List AJ := [.o ⟨(some 19), none, false, .mv (.t 5), none⟩, .o ⟨(some 20), none, false, .bin .lss (.t 19) (.c (.int .i64 0)), (some [1, 2, 20])⟩]
abbrev k4_o4 : List AJ := [.o ⟨(some 4), none, false, .mv (.c (.bool true)), (some [4])⟩]
def k4_5 : ACode := .seq (.region k4_o4) .ret
def k4_6 : ACode := .cond (.t 20) k4_5 .skip
def k4_7 : ACode := .seq (.region k4_o3) k4_6
abbrev k4_o5 : List AJ := [.o ⟨(some 22), none, false, .load 3 true (.t 2), none⟩, .o ⟨(some 23), none, false, .call 15 [(.t 22)], none⟩, .o ⟨(some 24), none, false, .mv (.t 1), none⟩, .o ⟨(some 25), none, false, .call 14 [(.t 23), (.t 24)], none⟩, .o ⟨(some 21), none, false, .mv (.t 25), none⟩, .o ⟨(some 26), none, false, .extract (.t 21) 0, none⟩, .o ⟨(some 27), none, false, .extract (.t 21) 1, none⟩, .o ⟨(some 6), none, false, .mv (.t 26), none⟩, .o ⟨(some 7), none, false, .mv (.t 27), (some [1, 2, 6, 7])⟩]
abbrev k4_o6 : List AJ := [.o ⟨(some 28), none, false, .load 3 true (.t 2), none⟩, .o ⟨(some 29), none, false, .call 15 [(.t 28)], none⟩, .v 8 3 (.agg [(.int .i64 0), (.int .i64 0), .nilsl]) [] (.t 29) (some [1, 2, 6, 7, 8])]
abbrev k4_o7 : List AJ := [.o ⟨(some 31), none, false, .load 3 true (.t 8), none⟩, .o ⟨(some 32), none, false, .mv (.t 1), none⟩, .o ⟨(some 33), none, false, .call 9 [(.t 31), (.t 32)], none⟩, .o ⟨(some 30), none, false, .mv (.t 33), none⟩, .o ⟨(some 34), none, false, .extract (.t 30) 0, none⟩, .o ⟨(some 35), none, false, .extract (.t 30) 1, none⟩, .o ⟨(some 9), none, false, .mv (.t 34), none⟩, .o ⟨(some 10), none, false, .mv (.t 35), (some [1, 2, 6, 7, 8, 9, 10])⟩]
abbrev k4_o8 : List AJ := [.o ⟨(some 36), none, false, .mv (.t 9), none⟩, .o ⟨(some 37), none, false, .mv (.t 6), none⟩, .o ⟨(some 38), none, false, .call 16 [(.t 36), (.t 37)], none⟩, .o ⟨(some 39), none, false, .un .not (.t 38), none⟩, .o ⟨(some 40), none, false, .mv (.t 39), none⟩, .o ⟨(some 41), (some (40, false)), false, .mv (.t 10), none⟩, .o ⟨(some 42), (some (40, false)), false, .mv (.t 7), none⟩, .o ⟨(some 43), (some (40, false)), false, .bin .neq (.t 41) (.t 42), none⟩, .o ⟨(some 44), none, false, .pick (.t 40) (.c (.bool true)) (.t 43), (some [1, 2, 6, 7, 8, 9, 10, 44])⟩]
abbrev k4_o9 : List AJ := [.o ⟨(some 4), none, false, .mv (.c (.bool false)), (some [4])⟩]
def k4_13 : ACode := .seq (.region k4_o9) .ret
def k4_14 : ACode := .cond (.t 44) k4_13 .skip
def k4_15 : ACode := .seq (.region k4_o8) k4_14
abbrev k4_o10 : List AI := [⟨(some 45), none, false, .load 3 true (.t 8), none⟩, ⟨(some 46), none, false, .load 3 true (.t 2), none⟩, ⟨(some 47), none, false, .call 15 [(.t 46)], none⟩, ⟨(some 48), none, false, .call 17 [(.t 45), (.t 47)], none⟩, ⟨(some 49), none, false, .un .not (.t 48), (some [1, 2, 6, 7, 8, 9, 10, 49])⟩]
abbrev k4_o11 : List AJ := [.o ⟨(some 4), none, false, .mv (.c (.bool false)), (some [4])⟩]
def k4_18 : ACode := .seq (.region k4_o11) .ret
def k4_19 : ACode := .cond (.t 49) k4_18 .skip
def k4_20 : ACode := .seq (.draw k4_o10 [] rfl) k4_19
abbrev k4_o12 : List AJ := [.o ⟨(some 11), none, false, .mv (.c (.int .i64 1)), (some [1, 2, 6, 7, 8, 9, 10, 11])⟩]
abbrev k4_o13 : List AJ := [.o ⟨(some 50), none, false, .load 3 true (.t 8), none⟩, .o ⟨(some 51), none, false, .mv (.t 11), none⟩, .o ⟨(some 52), none, false, .call 18 [(.t 50), (.t 51)], none⟩, .o ⟨(some 11), none, false, .mv (.t 52), (some [1, 2, 6, 7, 9, 10, 11])⟩]
abbrev k4_o14 : List AJ := [.o ⟨(some 53), none, false, .mv (.t 11), none⟩, .o ⟨(some 54), none, false, .bin .lss (.t 53) (.c (.int .i64 0)), none⟩, .o ⟨(some 55), none, false, .mv (.t 54), none⟩, .o ⟨(some 56), (some (55, false)), false, .mv (.t 9), none⟩, .o ⟨(some 57), (some (55, false)), false, .mv (.t 6), none⟩, .o ⟨(some 58), (some (55, false)), false, .call 16 [(.t 56), (.t 57)], none⟩, .o ⟨(some 59), (some (55, false)), false, .un .not (.t 58), none⟩, .o ⟨(some 60), none, false, .pick (.t 55) (.c (.bool true)) (.t 59), none⟩, .o ⟨(some 61), none, false, .mv (.t 60), none⟩, .o ⟨(some 62), (some (61, false)), false, .mv (.t 10), (some [1, 2, 6, 7, 9, 61, 62])⟩, .o ⟨(some 63), (some (61, false)), false, .mv (.t 7), none⟩, .o ⟨(some 64), (some (61, false)), false, .bin .neq (.t 62) (.t 63), none⟩, .o ⟨(some 65), none, false, .pick (.t 61) (.c (.bool true)) (.t 64), (some [1, 2, 6, 7, 9, 65])⟩]
abbrev k4_o15 : List AJ := [.o ⟨(some 4), none, false, .mv (.c (.bool false)), (some [4])⟩]
def k4_25 : ACode := .seq (.region k4_o15) .ret
def k4_26 : ACode := .cond (.t 65) k4_25 .skip
def k4_27 : ACode := .seq (.region k4_o14) k4_26
abbrev k4_o16 : List AJ := [.o ⟨(some 12), none, false, .mv (.c (.int .i64 1)), (some [1, 2, 6, 7, 9, 12])⟩]
abbrev k4_o17 : List AJ := [.o ⟨(some 66), none, false, .mv (.t 9), none⟩, .o ⟨(some 67), none, false, .mv (.t 12), none⟩, .o ⟨(some 68), none, false, .call 19 [(.t 66), (.t 67)], none⟩, .o ⟨(some 12), none, false, .mv (.t 68), (some [1, 2, 6, 7, 9, 12])⟩]
abbrev k4_o18 : List AJ := [.o ⟨(some 13), none, false, .mv (.c (.int .i64 1)), (some [1, 2, 6, 7, 9, 12, 13])⟩]
abbrev k4_o19 : List AJ := [.o ⟨(some 69), none, false, .mv (.t 9), none⟩, .o ⟨(some 70), none, false, .mv (.t 13), none⟩, .o ⟨(some 71), none, false, .call 20 [(.t 69), (.t 70)], none⟩, .o ⟨(some 13), none, false, .mv (.t 71), (some [1, 2, 6, 7, 9, 12, 13])⟩]
abbrev k4_o20 : List AJ := [.o ⟨(some 72), none, false, .mv (.t 13), none⟩, .o ⟨(some 73), none, false, .bin .lss (.t 72) (.c (.int .i64 0)), (some [1, 2, 6, 7, 9, 12, 13, 73])⟩]
abbrev k4_o21 : List AJ := [.o ⟨(some 4), none, false, .mv (.c (.bool false)), (some [4])⟩]
def k4_34 : ACode := .seq (.region k4_o21) .ret
def k4_35 : ACode := .cond (.t 73) k4_34 .skip
def k4_36 : ACode := .seq (.region k4_o20) k4_35
abbrev k4_o22 : List AJ := [.o ⟨(some 74), none, false, .mv (.t 13), none⟩, .o ⟨(some 75), none, false, .mv (.t 12), none⟩, .o ⟨(some 76), none, false, .bin .neq (.t 74) (.t 75), (some [1, 2, 6, 7, 9, 12, 76])⟩]
abbrev k4_o23 : List AJ := [.o ⟨(some 4), none, false, .mv (.c (.bool false)), (some [4])⟩]
def k4_39 : ACode := .seq (.region k4_o23) .ret
def k4_40 : ACode := .cond (.t 76) k4_39 .skip
def k4_41 : ACode := .seq (.region k4_o22) k4_40
abbrev k4_o24 : List AJ := [.o ⟨(some 78), none, false, .load 3 true (.t 2), none⟩, .o ⟨(some 79), none, false, .call 15 [(.t 78)], none⟩, .o ⟨(some 80), none, false, .mv (.t 1), none⟩, .o ⟨(some 81), none, false, .call 9 [(.t 79), (.t 80)], none⟩, .o ⟨(some 77), none, false, .mv (.t 81), none⟩, .o ⟨(some 82), none, false, .extract (.t 77) 0, none⟩, .o ⟨(some 83), none, false, .extract (.t 77) 1, none⟩, .o ⟨(some 14), none, false, .mv (.t 82), none⟩, .o ⟨(some 15), none, false, .mv (.t 83), (some [6, 7, 9, 12, 14, 15])⟩]
abbrev k4_o25 : List AJ := [.o ⟨(some 84), none, false, .mv (.t 14), none⟩, .o ⟨(some 85), none, false, .mv (.t 6), none⟩, .o ⟨(some 86), none, false, .call 16 [(.t 84), (.t 85)], none⟩, .o ⟨(some 87), none, false, .un .not (.t 86), none⟩, .o ⟨(some 88), none, false, .mv (.t 87), none⟩, .o ⟨(some 89), (some (88, false)), false, .mv (.t 15), none⟩, .o ⟨(some 90), (some (88, false)), false, .mv (.t 7), none⟩, .o ⟨(some 91), (some (88, false)), false, .bin .neq (.t 89) (.t 90), none⟩, .o ⟨(some 92), none, false, .pick (.t 88) (.c (.bool true)) (.t 91), (some [9, 12, 92])⟩]
abbrev k4_o26 : List AJ := [.o ⟨(some 4), none, false, .mv (.c (.bool false)), (some [4])⟩]
def k4_45 : ACode := .seq (.region k4_o26) .ret
def k4_46 : ACode := .cond (.t 92) k4_45 .skip
def k4_47 : ACode := .seq (.region k4_o25) k4_46
abbrev k4_o27 : List AJ := [.o ⟨(some 13), none, false, .mv (.c (.int .i64 1)), (some [9, 12, 13])⟩]
abbrev k4_o28 : List AJ := [.o ⟨(some 93), none, false, .mv (.t 9), none⟩, .o ⟨(some 94), none, false, .mv (.t 13), none⟩, .o ⟨(some 95), none, false, .call 20 [(.t 93), (.t 94)], none⟩, .o ⟨(some 13), none, false, .mv (.t 95), (some [12, 13])⟩]
abbrev k4_o29 : List AJ := [.o ⟨(some 96), none, false, .mv (.t 13), none⟩, .o ⟨(some 97), none, false, .bin .lss (.t 96) (.c (.int .i64 0)), (some [12, 13, 97])⟩]
abbrev k4_o30 : List AJ := [.o ⟨(some 4), none, false, .mv (.c (.bool false)), (some [4])⟩]
def k4_52 : ACode := .seq (.region k4_o30) .ret
def k4_53 : ACode := .cond (.t 97) k4_52 .skip
def k4_54 : ACode := .seq (.region k4_o29) k4_53
abbrev k4_o31 : List AJ := [.o ⟨(some 98), none, false, .mv (.t 13), none⟩, .o ⟨(some 99), none, false, .mv (.t 12), none⟩, .o ⟨(some 100), none, false, .bin .neq (.t 98) (.t 99), (some [100])⟩]
abbrev k4_o32 : List AJ := [.o ⟨(some 4), none, false, .mv (.c (.bool false)), (some [4])⟩]
def k4_57 : ACode := .seq (.region k4_o32) .ret
def k4_58 : ACode := .cond (.t 100) k4_57 .skip
def k4_59 : ACode := .seq (.region k4_o31) k4_58
abbrev k4_o33 : List AJ := [.o ⟨(some 4), none, false, .mv (.c (.bool true)), (some [4])⟩]
def k4_61 : ACode := .seq (.region k4_o33) .ret
def k4_62 : ACode := .seq k4_59 k4_61
def k4_63 : ACode := .seq k4_54 k4_62
def k4_64 : ACode := .seq (.region k4_o28) k4_63
def k4_65 : ACode := .seq (.region k4_o27) k4_64
def k4_66 : ACode := .seq k4_47 k4_65
def k4_67 : ACode := .seq (.region k4_o24) k4_66
def k4_68 : ACode := .seq k4_41 k4_67
def k4_69 : ACode := .seq k4_36 k4_68
def k4_70 : ACode := .seq (.region k4_o19) k4_69
def k4_71 : ACode := .seq (.region k4_o18) k4_70
def k4_72 : ACode := .seq (.region k4_o17) k4_71
def k4_73 : ACode := .seq (.region k4_o16) k4_72
def k4_74 : ACode := .seq k4_27 k4_73
def k4_75 : ACode := .seq (.region k4_o13) k4_74
def k4_76 : ACode := .seq (.region k4_o12) k4_75
def k4_77 : ACode := .seq k4_20 k4_76
def k4_78 : ACode := .seq k4_15 k4_77
def k4_79 : ACode := .seq (.region k4_o7) k4_78
def k4_80 : ACode := .seq (.region k4_o6) k4_79
def k4_81 : ACode := .seq (.region k4_o5) k4_80
def k4_82 : ACode := .seq k4_7 k4_81
def k4_83 : ACode := .seq (.region k4_o2) k4_82
def k4_84 : ACode := .seq (.region k4_o1) k4_83
def k4_85 : ACode := .seq (.region k4_o0) k4_84
@[simp, simp ↓] theorem k4_5r : sR k4_5 k4_o4 .ret := yR rfl
@[simp, simp ↓] theorem k4_6r : rC k4_6 (.t 20) k4_5 .skip := zC rfl
@[simp, simp ↓] theorem k4_7r : sR k4_7 k4_o3 k4_6 := yR rfl
@[simp, simp ↓] theorem k4_13r : sR k4_13 k4_o9 .ret := yR rfl
@[simp, simp ↓] theorem k4_14r : rC k4_14 (.t 44) k4_13 .skip := zC rfl
@[simp, simp ↓] theorem k4_15r : sR k4_15 k4_o8 k4_14 := yR rfl
@[simp, simp ↓] theorem k4_18r : sR k4_18 k4_o11 .ret := yR rfl
@[simp, simp ↓] theorem k4_19r : rC k4_19 (.t 49) k4_18 .skip := zC rfl
@[simp, simp ↓] theorem k4_20r : sD k4_20 k4_o10 [] k4_19 := yD rfl
@[simp, simp ↓] theorem k4_25r : sR k4_25 k4_o15 .ret := yR rfl
@[simp, simp ↓] theorem k4_26r : rC k4_26 (.t 65) k4_25 .skip := zC rfl
@[simp, simp ↓] theorem k4_27r : sR k4_27 k4_o14 k4_26 := yR rfl
@[simp, simp ↓] theorem k4_34r : sR k4_34 k4_o21 .ret := yR rfl
@[simp, simp ↓] theorem k4_35r : rC k4_35 (.t 73) k4_34 .skip := zC rfl
@[simp, simp ↓] theorem k4_36r : sR k4_36 k4_o20 k4_35 := yR rfl
@[simp, simp ↓] theorem k4_39r : sR k4_39 k4_o23 .ret := yR rfl
@[simp, simp ↓] theorem k4_40r : rC k4_40 (.t 76) k4_39 .skip := zC rfl
@[simp, simp ↓] theorem k4_41r : sR k4_41 k4_o22 k4_40 := yR rfl
@[simp, simp ↓] theorem k4_45r : sR k4_45 k4_o26 .ret := yR rfl
@[simp, simp ↓] theorem k4_46r : rC k4_46 (.t 92) k4_45 .skip := zC rfl
@[simp, simp ↓] theorem k4_47r : sR k4_47 k4_o25 k4_46 := yR rfl
@[simp, simp ↓] theorem k4_52r : sR k4_52 k4_o30 .ret := yR rfl
@[simp, simp ↓] theorem k4_53r : rC k4_53 (.t 97) k4_52 .skip := zC rfl
@[simp, simp ↓] theorem k4_54r : sR k4_54 k4_o29 k4_53 := yR rfl
@[simp, simp ↓] theorem k4_57r : sR k4_57 k4_o32 .ret := yR rfl
@[simp, simp ↓] theorem k4_58r : rC k4_58 (.t 100) k4_57 .skip := zC rfl
@[simp, simp ↓] theorem k4_59r : sR k4_59 k4_o31 k4_58 := yR rfl
@[simp, simp ↓] theorem k4_61r : sR k4_61 k4_o33 .ret := yR rfl
@[simp, simp ↓] theorem k4_62r : rS k4_62 k4_59 k4_61 := zS rfl
@[simp, simp ↓] theorem k4_63r : rS k4_63 k4_54 k4_62 := zS rfl
@[simp, simp ↓] theorem k4_64r : sR k4_64 k4_o28 k4_63 := yR rfl
@[simp, simp ↓] theorem k4_65r : sR k4_65 k4_o27 k4_64 := yR rfl
@[simp, simp ↓] theorem k4_66r : rS k4_66 k4_47 k4_65 := zS rfl
@[simp, simp ↓] theorem k4_67r : sR k4_67 k4_o24 k4_66 := yR rfl
@[simp, simp ↓] theorem k4_68r : rS k4_68 k4_41 k4_67 := zS rfl
@[simp, simp ↓] theorem k4_69r : rS k4_69 k4_36 k4_68 := zS rfl
@[simp, simp ↓] theorem k4_70r : sR k4_70 k4_o19 k4_69 := yR rfl
@[simp, simp ↓] theorem k4_71r : sR k4_71 k4_o18 k4_70 := yR rfl
@[simp, simp ↓] theorem k4_72r : sR k4_72 k4_o17 k4_71 := yR rfl
@[simp, simp ↓] theorem k4_73r : sR k4_73 k4_o16 k4_72 := yR rfl
@[simp, simp ↓] theorem k4_74r : rS k4_74 k4_27 k4_73 := zS rfl
@[simp, simp ↓] theorem k4_75r : sR k4_75 k4_o13 k4_74 := yR rfl
@[simp, simp ↓] theorem k4_76r : sR k4_76 k4_o12 k4_75 := yR rfl
@[simp, simp ↓] theorem k4_77r : rS k4_77 k4_20 k4_76 := zS rfl
@[simp, simp ↓] theorem k4_78r : rS k4_78 k4_15 k4_77 := zS rfl
@[simp, simp ↓] theorem k4_79r : sR k4_79 k4_o7 k4_78 := yR rfl
@[simp, simp ↓] theorem k4_80r : sR k4_80 k4_o6 k4_79 := yR rfl
@[simp, simp ↓] theorem k4_81r : sR k4_81 k4_o5 k4_80 := yR rfl
@[simp, simp ↓] theorem k4_82r : rS k4_82 k4_7 k4_81 := zS rfl
@[simp, simp ↓] theorem k4_83r : sR k4_83 k4_o2 k4_82 := yR rfl
@[simp, simp ↓] theorem k4_84r : sR k4_84 k4_o1 k4_83 := yR rfl
@[simp, simp ↓] theorem k4_85r : sR k4_85 k4_o0 k4_84 := yR rfl
noncomputable abbrev k4_C : Orc → Cx := mkC Try.prog [8] 4 101 [.tmp 4]
theorem k4_of : OfP Try.prog Try.f4 4 101 k4_C k4_85 := @ofP _ _ _ _ _ _ _ _ Try.func4 (by decide +kernel) rfl (by kernel_rfl) rfl (by kernel_rfl)
theorem k4_of0 : OfP0 Try.prog Try.f4 4 101 k4_C k4_85 := @ofP0 _ _ _ _ _ _ _ _ Try.func4 (by decide +kernel) rfl (by kernel_rfl) rfl (by kernel_rfl)
theorem drops_law (x : Ph) (hx : x.wf) (n : Int) (hn : in64 n) : ACalls Try.prog 4 [x.av, (.int .i64 n)] [] (fun v h' => v = .bool true ∧ h' = []) := by
  refine k4_of rfl orcM_p fun I => ?_
  have hx2_x := hx.2
  refine Run2.of I 1000 ?_
  by_cases kx : (x.ts.length : Int) ≤ (1048576 : Int)
  · have hAx : ¬ (1048576 : Int) < x.ts.length := by omega
    have hBx : ¬ (1048576 : Int) - x.ts.length < 0 := by omega
    have hCx : (0 : Int) ≤ (1048576 : Int) - x.ts.length := by omega
    have lx : x.ts.length ≤ 1048576 := by omega
    have hDx : (1048576 : Int) - x.ts.length ≤ 1048576 := by omega
    have he := x.dres_len n
    simp -implicitDefEqProofs [hx2_x, hAx, hBx, hCx, hDx, kx]
    first | refine dcallK (toPhases_c x _ lx) ?_ | (refine (toPhases_c x _ lx).mono ?_; rintro v h' ⟨rfl, rfl⟩; refine gK.go ?_)
    simp -implicitDefEqProofs
    first | refine dcallK (specDrops_c x n _ hx.1 lx) ?_ | (refine (specDrops_c x n _ hx.1 lx).mono ?_; rintro v h' ⟨rfl, rfl⟩; refine gK.go ?_)
    simp -implicitDefEqProofs
    refine (toPhases_o x _ lx).monoN ?_
    rintro v0 h' ⟨g0, o0, d0, rfl⟩ n0
    obtain ⟨u0, rfl, ou0⟩ := id o0
    have c0 := ou0.cell
    refine gK.go ?_
    simp -implicitDefEqProofs [c0]
    simp only [List.append_nil] at n0
    have L0 := o0.lentIn (L := g0) (fun p hp => hp) n0
    refine (ACalls.gives g0 (fun p hp => hp) (S := fun v h' => ∃ w, v = .tup [w, .int .i64 (x.dcode n)] ∧ OwnL iv 1 w (x.dres n) h') ?_ ?_).monoN ?_
    · rw [lend_cons, lend_cons, lend_nil', lend1_cold g0 (x := (.int .i64 n)) rfl]
      exact ACalls.wk (.cons L0.wk (.cons (.refl _) .nil)) (implDrops_o x n hx.1 lx)
    · rintro v h' ⟨w, rfl, ho⟩
      have := ho.own own_iv1
      exact ⟨by simp [own, owns, this.1], this.2⟩
    rintro v h' ⟨gg, ⟨w, rfl, og⟩, dg, rfl⟩ ng
    refine gK.go ?_
    simp -implicitDefEqProofs [c0]
    first | refine dcallK (eqI_own og (.snap (x.dres n)) (fun p hp => List.mem_append_left _ hp) (show (x.dres n).length ≤ 1048576 by omega)) ?_ | (refine (eqI_own og (.snap (x.dres n)) (fun p hp => List.mem_append_left _ hp) (show (x.dres n).length ≤ 1048576 by omega)).mono ?_; rintro v h' ⟨rfl, rfl⟩; refine gK.go ?_)
    simp -implicitDefEqProofs [c0]
    first | refine dcallK (toPhases_c x _ lx) ?_ | (refine (toPhases_c x _ lx).mono ?_; rintro v h' ⟨rfl, rfl⟩; refine gK.go ?_)
    simp -implicitDefEqProofs [c0]
    first | refine dcallK (eqPh_own o0 x.is (fun p hp => List.mem_append_right _ (hp)) lx) ?_ | (refine (eqPh_own o0 x.is (fun p hp => List.mem_append_right _ (hp)) lx).mono ?_; rintro v h' ⟨rfl, rfl⟩; refine gK.go ?_)
    simp -implicitDefEqProofs [c0]
    refine (markPh_drop o0 gg (fun p hp => List.mem_append_right _ (hp)) ?_ ?_ (1) (by omega) (by omega)).monoN ?_
    · simpa only [List.append_assoc] using keepL (a := gg) (b := g0) (by simpa only [List.append_assoc] using ng)
    · exact fun nd => nodupL (a := gg) (b := g0) (by simpa only [List.append_assoc] using nd)
    rintro _ _ ⟨e1, e2⟩ nk0
    rw [e1, e2]; rw [e2] at nk0
    refine gK.go ?_
    have hk : ¬ (1 + 3 * (x.ts.length : Int)) < 0 := by omega
    simp -implicitDefEqProofs [c0, hk]
    first | refine dcallK (eqI_own og (.snap (x.dres n)) (fun p hp => hp) (show (x.dres n).length ≤ 1048576 by omega)) ?_ | (refine (eqI_own og (.snap (x.dres n)) (fun p hp => hp) (show (x.dres n).length ≤ 1048576 by omega)).mono ?_; rintro v h' ⟨rfl, rfl⟩; refine gK.go ?_)
    simp -implicitDefEqProofs [c0]
    skip
    refine (markI_keep og [] (fun p hp => hp) keepN (fun _ => by simp [dom]) 1 (by omega) (by have := (show (x.dres n).length ≤ 1048576 by omega); omega)).mono ?_
    rintro _ _ ⟨gm, rfl, om, rfl⟩
    refine gK.go ?_
    simp -implicitDefEqProofs [c0]
    have hq : ¬ (1 + ((x.dres n).length : Int) < 0) := by omega
    first | refine dcallK (heldI_own om (fun p hp => hp) 1 (by omega) (by have := (show (x.dres n).length ≤ 1048576 by omega); simp; omega)) ?_ | (refine (heldI_own om (fun p hp => hp) 1 (by omega) (by have := (show (x.dres n).length ≤ 1048576 by omega); simp; omega)).mono ?_; rintro v h' ⟨rfl, rfl⟩; refine gK.go ?_)
    simp -implicitDefEqProofs [c0, hq]
    first | refine dcallK (toPhases_c x _ lx) ?_ | (refine (toPhases_c x _ lx).mono ?_; rintro v h' ⟨rfl, rfl⟩; refine gK.go ?_)
    simp -implicitDefEqProofs [c0]
    refine (ACalls.gives [] (by simp) (S := fun v h' => ∃ w, v = .tup [w, .int .i64 (x.dcode n)] ∧ OwnL iv 1 w (x.dres n) h') ?_ ?_).mono ?_
    · exact implDrops_o x n hx.1 lx
    · rintro v h' ⟨w, rfl, ho⟩
      have := ho.own own_iv1
      exact ⟨by simp [own, owns, this.1], this.2⟩
    rintro _ _ ⟨g9, ⟨w9, rfl, o9⟩, d9, rfl⟩
    refine gK.go ?_
    simp -implicitDefEqProofs [c0, hq]
    first | refine dcallK (eqI_own o9 (.snap (x.dres n)) (fun p hp => List.mem_append_left _ hp) (show (x.dres n).length ≤ 1048576 by omega)) ?_ | (refine (eqI_own o9 (.snap (x.dres n)) (fun p hp => List.mem_append_left _ hp) (show (x.dres n).length ≤ 1048576 by omega)).mono ?_; rintro v h' ⟨rfl, rfl⟩; refine gK.go ?_)
    simp -implicitDefEqProofs [c0, hq]
    first | refine dcallK (heldI_own om (fun p hp => List.mem_append_right _ hp) 1 (by omega) (by have := (show (x.dres n).length ≤ 1048576 by omega); simp; omega)) ?_ | (refine (heldI_own om (fun p hp => List.mem_append_right _ hp) 1 (by omega) (by have := (show (x.dres n).length ≤ 1048576 by omega); simp; omega)).mono ?_; rintro v h' ⟨rfl, rfl⟩; refine gK.go ?_)
    simp -implicitDefEqProofs [c0, hq]
    exact Post.none ⟨rfl, rfl⟩
  · have hAx : (1048576 : Int) < x.ts.length := by omega
    simp -implicitDefEqProofs [hx2_x, hAx]
    exact .base ⟨rfl, rfl⟩
end Go.AG
namespace Go.Proofs.Ytdjamhallkijmaa
open Go.ChangeShapes Go.WideShapes Go.ChangeAt Go.RowKit Go.AG
theorem own : ownKnob Try.prog.godebug = none := by kernel_rfl
theorem laidOut : laidOutB Try.prog = true := by kernel_rfl
set_option maxRecDepth 100000 in
theorem fnExactLeastDrops_lifted (os : Os) (started : os.Started) (H : Type) (enc : TypeId × Value → H) :
    ReturnsInHanded {} Try.checked os 4 .any (Rows.fnExactLeastDropsSpec.pre6 enc Try.prog Try.f4 Rows.fnExactLeastDropsRow.domain false) (Rows.fnExactLeastDropsSpec.post enc Try.prog Try.f4 false true false false) := by
  refine returnsInHanded_of_change (C := Try.checked) own started (by kernel_rfl) Try.func4
    (ChangeSpec.witness6 (enc := enc) (C := Try.checked) false ⟨#[], #[.agg #[.int .i64 0, .int .i64 0, .slice none 0 0], .int .i64 0], []⟩ 8 (by kernel_rfl) (by kernel_rfl) (by kernel_rfl) (by kernel_rfl)) ?_
  intro W base args ds gs before hval0 hW _ _
  have hval : ∀ (j : Nat) t v, Try.f4.params[j]? = some t → args[j]? = some v → Value.okWide Try.prog W .any base t v := hval0
  refine law_post (tys := [tyPh, (.int .i64)]) (tb := 4) laidOut rfl (by kernel_rfl) (by kernel_rfl) (by kernel_rfl) (by kernel_rfl) hval hW ?_ ?_ ⟨fun p hp => by simp [laidV] at hp, fun p hp => by simp [laidS] at hp⟩
  · intro ds h
    match ds, h with
    | [a0, a1], _ => rfl
  · rintro xs ⟨x0, r0, rfl, h0, x1, r1, rfl, h1, hr⟩
    have hr0 : r1 = [] := hr
    subst hr0
    obtain ⟨p0, rfl, q0⟩ := Ph_of_shape h0
    obtain ⟨p1, rfl, q1⟩ := Int_of_shape h1
    exact drops_law p0 q0 p1 q1
theorem fnExactLeastDrops_holds : Rows.FnExactLeastDropsSaid :=
  OpenClaim.holds_of_wide 4 Try.f4 rfl rfl rfl rfl rfl rfl rfl ⟨rfl, rfl, rfl, rfl, rfl⟩ rfl rfl rfl rfl rfl (by kernel_rfl) Try.func4 (by kernel_rfl)
    (of_decide_eq_true (by kernel_rfl)) (by unfold Func.isWrapper; first | (rw [if_pos (by decide +kernel)]; kernel_rfl) | (rw [if_neg (by decide +kernel)]; exact ⟨rfl, rfl⟩))
    (fun os started H enc _ => fnExactLeastDrops_lifted os started H enc)
end Go.Proofs.Ytdjamhallkijmaa
