/- The law FnExactBadLoop is true for every input: the program's BadLoop returns what the reference's returns. -/
import Derived.Test.YtdjamhallkijmaaPhLoop
namespace Go.AG
open Go.Proofs Go.Proofs.Ytdjamhallkijmaa
set_option linter.unusedSimpArgs false
set_option linter.unusedVariables false
set_option maxRecDepth 4000
noncomputable def orcM : List (Nat × (List AV → Option (Prop × AV))) := (13, o_szPhases) :: []
theorem orcM_p : Pure Try.prog (lk orcM) := (lk_pure o_szPhases_k lk_pure0)
@[simp] theorem orcM_l (b : Bool) (g : FuncId) (l : List AV) : lk orcM b g l = if g = 13 then o_szPhases l else none := nr rfl
abbrev k5_o0 : List AJ := [.o ⟨(some 1), none, false, .box false 3 (.t 0), none⟩, .o ⟨(some 2), none, false, .mv (.c (.bool false)), (some [1])⟩]
abbrev k5_o1 : List AJ := [.o ⟨(some 3), none, false, .mv (.c (.int .i64 1048576)), (some [1, 3])⟩]
abbrev k5_o2 : List AJ := [.o ⟨(some 17), none, false, .load 3 true (.t 1), none⟩, .o ⟨(some 18), none, false, .mv (.t 3), none⟩, .o ⟨(some 19), none, false, .call 13 [(.t 17), (.t 18)], none⟩, .o ⟨(some 3), none, false, .mv (.t 19), (some [1, 3])⟩]
abbrev k5_o3 : List AJ := [.o ⟨(some 20), none, false, .mv (.t 3), none⟩, .o ⟨(some 21), none, false, .bin .lss (.t 20) (.c (.int .i64 0)), (some [1, 21])⟩]
abbrev k5_o4 : List AJ := [.o ⟨(some 2), none, false, .mv (.c (.bool true)), (some [2])⟩]
def k5_5 : ACode := .seq (.region k5_o4) .ret
def k5_6 : ACode := .cond (.t 21) k5_5 .skip
def k5_7 : ACode := .seq (.region k5_o3) k5_6
abbrev k5_o5 : List AJ := [.o ⟨(some 23), none, false, .load 3 true (.t 1), none⟩, .o ⟨(some 24), none, false, .call 15 [(.t 23)], none⟩, .o ⟨(some 25), none, false, .call 21 [(.t 24)], none⟩, .o ⟨(some 22), none, false, .mv (.t 25), none⟩, .o ⟨(some 26), none, false, .extract (.t 22) 0, none⟩, .o ⟨(some 27), none, false, .extract (.t 22) 1, none⟩, .o ⟨(some 28), none, false, .extract (.t 22) 2, none⟩, .o ⟨(some 4), none, false, .mv (.t 26), none⟩, .o ⟨(some 5), none, false, .mv (.t 27), none⟩, .o ⟨(some 6), none, false, .mv (.t 28), (some [1, 4, 5, 6])⟩]
abbrev k5_o6 : List AJ := [.o ⟨(some 29), none, false, .load 3 true (.t 1), none⟩, .o ⟨(some 30), none, false, .call 15 [(.t 29)], none⟩, .v 7 3 (.agg [(.int .i64 0), (.int .i64 0), .nilsl]) [] (.t 30) (some [1, 4, 5, 6, 7])]
abbrev k5_o7 : List AJ := [.o ⟨(some 32), none, false, .load 3 true (.t 7), none⟩, .o ⟨(some 33), none, false, .call 8 [(.t 32)], none⟩, .o ⟨(some 31), none, false, .mv (.t 33), none⟩, .o ⟨(some 34), none, false, .extract (.t 31) 0, none⟩, .o ⟨(some 35), none, false, .extract (.t 31) 1, none⟩, .o ⟨(some 36), none, false, .extract (.t 31) 2, none⟩, .o ⟨(some 8), none, false, .mv (.t 34), none⟩, .o ⟨(some 9), none, false, .mv (.t 35), none⟩, .o ⟨(some 10), none, false, .mv (.t 36), (some [1, 4, 5, 6, 7, 8, 9, 10])⟩]
abbrev k5_o8 : List AJ := [.o ⟨(some 37), none, false, .mv (.t 8), none⟩, .o ⟨(some 38), none, false, .mv (.t 4), none⟩, .o ⟨(some 39), none, false, .call 16 [(.t 37), (.t 38)], none⟩, .o ⟨(some 40), none, false, .un .not (.t 39), none⟩, .o ⟨(some 41), none, false, .mv (.t 40), none⟩, .o ⟨(some 42), (some (41, false)), false, .mv (.t 9), none⟩, .o ⟨(some 43), (some (41, false)), false, .mv (.t 5), none⟩, .o ⟨(some 44), (some (41, false)), false, .bin .neq (.t 42) (.t 43), none⟩, .o ⟨(some 45), none, false, .pick (.t 41) (.c (.bool true)) (.t 44), none⟩, .o ⟨(some 46), none, false, .mv (.t 45), none⟩, .o ⟨(some 47), (some (46, false)), false, .mv (.t 10), (some [1, 4, 5, 6, 7, 8, 9, 10, 46, 47])⟩, .o ⟨(some 48), (some (46, false)), false, .mv (.t 6), none⟩, .o ⟨(some 49), (some (46, false)), false, .bin .neq (.t 47) (.t 48), none⟩, .o ⟨(some 50), none, false, .pick (.t 46) (.c (.bool true)) (.t 49), (some [1, 4, 5, 6, 7, 8, 9, 10, 50])⟩]
abbrev k5_o9 : List AJ := [.o ⟨(some 2), none, false, .mv (.c (.bool false)), (some [2])⟩]
def k5_13 : ACode := .seq (.region k5_o9) .ret
def k5_14 : ACode := .cond (.t 50) k5_13 .skip
def k5_15 : ACode := .seq (.region k5_o8) k5_14
abbrev k5_o10 : List AI := [⟨(some 51), none, false, .load 3 true (.t 7), none⟩, ⟨(some 52), none, false, .load 3 true (.t 1), none⟩, ⟨(some 53), none, false, .call 15 [(.t 52)], none⟩, ⟨(some 54), none, false, .call 17 [(.t 51), (.t 53)], none⟩, ⟨(some 55), none, false, .un .not (.t 54), (some [1, 4, 5, 6, 7, 8, 9, 10, 55])⟩]
abbrev k5_o11 : List AJ := [.o ⟨(some 2), none, false, .mv (.c (.bool false)), (some [2])⟩]
def k5_18 : ACode := .seq (.region k5_o11) .ret
def k5_19 : ACode := .cond (.t 55) k5_18 .skip
def k5_20 : ACode := .seq (.draw k5_o10 [] rfl) k5_19
abbrev k5_o12 : List AJ := [.o ⟨(some 11), none, false, .mv (.c (.int .i64 1)), (some [1, 4, 5, 6, 7, 8, 9, 10, 11])⟩]
abbrev k5_o13 : List AJ := [.o ⟨(some 56), none, false, .load 3 true (.t 7), none⟩, .o ⟨(some 57), none, false, .mv (.t 11), none⟩, .o ⟨(some 58), none, false, .call 18 [(.t 56), (.t 57)], none⟩, .o ⟨(some 11), none, false, .mv (.t 58), (some [1, 4, 5, 6, 8, 9, 10, 11])⟩]
abbrev k5_o14 : List AJ := [.o ⟨(some 59), none, false, .mv (.t 11), none⟩, .o ⟨(some 60), none, false, .bin .lss (.t 59) (.c (.int .i64 0)), none⟩, .o ⟨(some 61), none, false, .mv (.t 60), none⟩, .o ⟨(some 62), (some (61, false)), false, .mv (.t 8), none⟩, .o ⟨(some 63), (some (61, false)), false, .mv (.t 4), none⟩, .o ⟨(some 64), (some (61, false)), false, .call 16 [(.t 62), (.t 63)], none⟩, .o ⟨(some 65), (some (61, false)), false, .un .not (.t 64), none⟩, .o ⟨(some 66), none, false, .pick (.t 61) (.c (.bool true)) (.t 65), none⟩, .o ⟨(some 67), none, false, .mv (.t 66), none⟩, .o ⟨(some 68), (some (67, false)), false, .mv (.t 9), (some [1, 4, 5, 6, 8, 10, 67, 68])⟩, .o ⟨(some 69), (some (67, false)), false, .mv (.t 5), none⟩, .o ⟨(some 70), (some (67, false)), false, .bin .neq (.t 68) (.t 69), none⟩, .o ⟨(some 71), none, false, .pick (.t 67) (.c (.bool true)) (.t 70), none⟩, .o ⟨(some 72), none, false, .mv (.t 71), none⟩, .o ⟨(some 73), (some (72, false)), false, .mv (.t 10), none⟩, .o ⟨(some 74), (some (72, false)), false, .mv (.t 6), none⟩, .o ⟨(some 75), (some (72, false)), false, .bin .neq (.t 73) (.t 74), none⟩, .o ⟨(some 76), none, false, .pick (.t 72) (.c (.bool true)) (.t 75), (some [1, 4, 5, 6, 8, 76])⟩]
abbrev k5_o15 : List AJ := [.o ⟨(some 2), none, false, .mv (.c (.bool false)), (some [2])⟩]
def k5_25 : ACode := .seq (.region k5_o15) .ret
def k5_26 : ACode := .cond (.t 76) k5_25 .skip
def k5_27 : ACode := .seq (.region k5_o14) k5_26
abbrev k5_o16 : List AJ := [.o ⟨(some 12), none, false, .mv (.c (.int .i64 1)), (some [1, 4, 5, 6, 8, 12])⟩]
abbrev k5_o17 : List AJ := [.o ⟨(some 77), none, false, .mv (.t 8), none⟩, .o ⟨(some 78), none, false, .mv (.t 12), none⟩, .o ⟨(some 79), none, false, .call 19 [(.t 77), (.t 78)], none⟩, .o ⟨(some 12), none, false, .mv (.t 79), (some [1, 4, 5, 6, 8, 12])⟩]
abbrev k5_o18 : List AJ := [.o ⟨(some 13), none, false, .mv (.c (.int .i64 1)), (some [1, 4, 5, 6, 8, 12, 13])⟩]
abbrev k5_o19 : List AJ := [.o ⟨(some 80), none, false, .mv (.t 8), none⟩, .o ⟨(some 81), none, false, .mv (.t 13), none⟩, .o ⟨(some 82), none, false, .call 20 [(.t 80), (.t 81)], none⟩, .o ⟨(some 13), none, false, .mv (.t 82), (some [1, 4, 5, 6, 8, 12, 13])⟩]
abbrev k5_o20 : List AJ := [.o ⟨(some 83), none, false, .mv (.t 13), none⟩, .o ⟨(some 84), none, false, .bin .lss (.t 83) (.c (.int .i64 0)), (some [1, 4, 5, 6, 8, 12, 13, 84])⟩]
abbrev k5_o21 : List AJ := [.o ⟨(some 2), none, false, .mv (.c (.bool false)), (some [2])⟩]
def k5_34 : ACode := .seq (.region k5_o21) .ret
def k5_35 : ACode := .cond (.t 84) k5_34 .skip
def k5_36 : ACode := .seq (.region k5_o20) k5_35
abbrev k5_o22 : List AJ := [.o ⟨(some 85), none, false, .mv (.t 13), none⟩, .o ⟨(some 86), none, false, .mv (.t 12), none⟩, .o ⟨(some 87), none, false, .bin .neq (.t 85) (.t 86), (some [1, 4, 5, 6, 8, 12, 87])⟩]
abbrev k5_o23 : List AJ := [.o ⟨(some 2), none, false, .mv (.c (.bool false)), (some [2])⟩]
def k5_39 : ACode := .seq (.region k5_o23) .ret
def k5_40 : ACode := .cond (.t 87) k5_39 .skip
def k5_41 : ACode := .seq (.region k5_o22) k5_40
abbrev k5_o24 : List AJ := [.o ⟨(some 89), none, false, .load 3 true (.t 1), none⟩, .o ⟨(some 90), none, false, .call 15 [(.t 89)], none⟩, .o ⟨(some 91), none, false, .call 8 [(.t 90)], none⟩, .o ⟨(some 88), none, false, .mv (.t 91), none⟩, .o ⟨(some 92), none, false, .extract (.t 88) 0, none⟩, .o ⟨(some 93), none, false, .extract (.t 88) 1, none⟩, .o ⟨(some 94), none, false, .extract (.t 88) 2, none⟩, .o ⟨(some 14), none, false, .mv (.t 92), none⟩, .o ⟨(some 15), none, false, .mv (.t 93), none⟩, .o ⟨(some 16), none, false, .mv (.t 94), (some [4, 5, 6, 8, 12, 14, 15, 16])⟩]
abbrev k5_o25 : List AJ := [.o ⟨(some 95), none, false, .mv (.t 14), none⟩, .o ⟨(some 96), none, false, .mv (.t 4), none⟩, .o ⟨(some 97), none, false, .call 16 [(.t 95), (.t 96)], none⟩, .o ⟨(some 98), none, false, .un .not (.t 97), none⟩, .o ⟨(some 99), none, false, .mv (.t 98), none⟩, .o ⟨(some 100), (some (99, false)), false, .mv (.t 15), none⟩, .o ⟨(some 101), (some (99, false)), false, .mv (.t 5), none⟩, .o ⟨(some 102), (some (99, false)), false, .bin .neq (.t 100) (.t 101), none⟩, .o ⟨(some 103), none, false, .pick (.t 99) (.c (.bool true)) (.t 102), none⟩, .o ⟨(some 104), none, false, .mv (.t 103), none⟩, .o ⟨(some 105), (some (104, false)), false, .mv (.t 16), (some [6, 8, 12, 104, 105])⟩, .o ⟨(some 106), (some (104, false)), false, .mv (.t 6), none⟩, .o ⟨(some 107), (some (104, false)), false, .bin .neq (.t 105) (.t 106), none⟩, .o ⟨(some 108), none, false, .pick (.t 104) (.c (.bool true)) (.t 107), (some [8, 12, 108])⟩]
abbrev k5_o26 : List AJ := [.o ⟨(some 2), none, false, .mv (.c (.bool false)), (some [2])⟩]
def k5_45 : ACode := .seq (.region k5_o26) .ret
def k5_46 : ACode := .cond (.t 108) k5_45 .skip
def k5_47 : ACode := .seq (.region k5_o25) k5_46
abbrev k5_o27 : List AJ := [.o ⟨(some 13), none, false, .mv (.c (.int .i64 1)), (some [8, 12, 13])⟩]
abbrev k5_o28 : List AJ := [.o ⟨(some 109), none, false, .mv (.t 8), none⟩, .o ⟨(some 110), none, false, .mv (.t 13), none⟩, .o ⟨(some 111), none, false, .call 20 [(.t 109), (.t 110)], none⟩, .o ⟨(some 13), none, false, .mv (.t 111), (some [12, 13])⟩]
abbrev k5_o29 : List AJ := [.o ⟨(some 112), none, false, .mv (.t 13), none⟩, .o ⟨(some 113), none, false, .bin .lss (.t 112) (.c (.int .i64 0)), (some [12, 13, 113])⟩]
abbrev k5_o30 : List AJ := [.o ⟨(some 2), none, false, .mv (.c (.bool false)), (some [2])⟩]
def k5_52 : ACode := .seq (.region k5_o30) .ret
def k5_53 : ACode := .cond (.t 113) k5_52 .skip
def k5_54 : ACode := .seq (.region k5_o29) k5_53
abbrev k5_o31 : List AJ := [.o ⟨(some 114), none, false, .mv (.t 13), none⟩, .o ⟨(some 115), none, false, .mv (.t 12), none⟩, .o ⟨(some 116), none, false, .bin .neq (.t 114) (.t 115), (some [116])⟩]
abbrev k5_o32 : List AJ := [.o ⟨(some 2), none, false, .mv (.c (.bool false)), (some [2])⟩]
def k5_57 : ACode := .seq (.region k5_o32) .ret
def k5_58 : ACode := .cond (.t 116) k5_57 .skip
def k5_59 : ACode := .seq (.region k5_o31) k5_58
abbrev k5_o33 : List AJ := [.o ⟨(some 2), none, false, .mv (.c (.bool true)), (some [2])⟩]
def k5_61 : ACode := .seq (.region k5_o33) .ret
def k5_62 : ACode := .seq k5_59 k5_61
def k5_63 : ACode := .seq k5_54 k5_62
def k5_64 : ACode := .seq (.region k5_o28) k5_63
def k5_65 : ACode := .seq (.region k5_o27) k5_64
def k5_66 : ACode := .seq k5_47 k5_65
def k5_67 : ACode := .seq (.region k5_o24) k5_66
def k5_68 : ACode := .seq k5_41 k5_67
def k5_69 : ACode := .seq k5_36 k5_68
def k5_70 : ACode := .seq (.region k5_o19) k5_69
def k5_71 : ACode := .seq (.region k5_o18) k5_70
def k5_72 : ACode := .seq (.region k5_o17) k5_71
def k5_73 : ACode := .seq (.region k5_o16) k5_72
def k5_74 : ACode := .seq k5_27 k5_73
def k5_75 : ACode := .seq (.region k5_o13) k5_74
def k5_76 : ACode := .seq (.region k5_o12) k5_75
def k5_77 : ACode := .seq k5_20 k5_76
def k5_78 : ACode := .seq k5_15 k5_77
def k5_79 : ACode := .seq (.region k5_o7) k5_78
def k5_80 : ACode := .seq (.region k5_o6) k5_79
def k5_81 : ACode := .seq (.region k5_o5) k5_80
def k5_82 : ACode := .seq k5_7 k5_81
def k5_83 : ACode := .seq (.region k5_o2) k5_82
def k5_84 : ACode := .seq (.region k5_o1) k5_83
def k5_85 : ACode := .seq (.region k5_o0) k5_84
@[simp, simp ↓] theorem k5_5r : sR k5_5 k5_o4 .ret := yR rfl
@[simp, simp ↓] theorem k5_6r : rC k5_6 (.t 21) k5_5 .skip := zC rfl
@[simp, simp ↓] theorem k5_7r : sR k5_7 k5_o3 k5_6 := yR rfl
@[simp, simp ↓] theorem k5_13r : sR k5_13 k5_o9 .ret := yR rfl
@[simp, simp ↓] theorem k5_14r : rC k5_14 (.t 50) k5_13 .skip := zC rfl
@[simp, simp ↓] theorem k5_15r : sR k5_15 k5_o8 k5_14 := yR rfl
@[simp, simp ↓] theorem k5_18r : sR k5_18 k5_o11 .ret := yR rfl
@[simp, simp ↓] theorem k5_19r : rC k5_19 (.t 55) k5_18 .skip := zC rfl
@[simp, simp ↓] theorem k5_20r : sD k5_20 k5_o10 [] k5_19 := yD rfl
@[simp, simp ↓] theorem k5_25r : sR k5_25 k5_o15 .ret := yR rfl
@[simp, simp ↓] theorem k5_26r : rC k5_26 (.t 76) k5_25 .skip := zC rfl
@[simp, simp ↓] theorem k5_27r : sR k5_27 k5_o14 k5_26 := yR rfl
@[simp, simp ↓] theorem k5_34r : sR k5_34 k5_o21 .ret := yR rfl
@[simp, simp ↓] theorem k5_35r : rC k5_35 (.t 84) k5_34 .skip := zC rfl
@[simp, simp ↓] theorem k5_36r : sR k5_36 k5_o20 k5_35 := yR rfl
@[simp, simp ↓] theorem k5_39r : sR k5_39 k5_o23 .ret := yR rfl
@[simp, simp ↓] theorem k5_40r : rC k5_40 (.t 87) k5_39 .skip := zC rfl
@[simp, simp ↓] theorem k5_41r : sR k5_41 k5_o22 k5_40 := yR rfl
@[simp, simp ↓] theorem k5_45r : sR k5_45 k5_o26 .ret := yR rfl
@[simp, simp ↓] theorem k5_46r : rC k5_46 (.t 108) k5_45 .skip := zC rfl
@[simp, simp ↓] theorem k5_47r : sR k5_47 k5_o25 k5_46 := yR rfl
@[simp, simp ↓] theorem k5_52r : sR k5_52 k5_o30 .ret := yR rfl
@[simp, simp ↓] theorem k5_53r : rC k5_53 (.t 113) k5_52 .skip := zC rfl
@[simp, simp ↓] theorem k5_54r : sR k5_54 k5_o29 k5_53 := yR rfl
@[simp, simp ↓] theorem k5_57r : sR k5_57 k5_o32 .ret := yR rfl
@[simp, simp ↓] theorem k5_58r : rC k5_58 (.t 116) k5_57 .skip := zC rfl
@[simp, simp ↓] theorem k5_59r : sR k5_59 k5_o31 k5_58 := yR rfl
@[simp, simp ↓] theorem k5_61r : sR k5_61 k5_o33 .ret := yR rfl
@[simp, simp ↓] theorem k5_62r : rS k5_62 k5_59 k5_61 := zS rfl
@[simp, simp ↓] theorem k5_63r : rS k5_63 k5_54 k5_62 := zS rfl
@[simp, simp ↓] theorem k5_64r : sR k5_64 k5_o28 k5_63 := yR rfl
@[simp, simp ↓] theorem k5_65r : sR k5_65 k5_o27 k5_64 := yR rfl
@[simp, simp ↓] theorem k5_66r : rS k5_66 k5_47 k5_65 := zS rfl
@[simp, simp ↓] theorem k5_67r : sR k5_67 k5_o24 k5_66 := yR rfl
@[simp, simp ↓] theorem k5_68r : rS k5_68 k5_41 k5_67 := zS rfl
@[simp, simp ↓] theorem k5_69r : rS k5_69 k5_36 k5_68 := zS rfl
@[simp, simp ↓] theorem k5_70r : sR k5_70 k5_o19 k5_69 := yR rfl
@[simp, simp ↓] theorem k5_71r : sR k5_71 k5_o18 k5_70 := yR rfl
@[simp, simp ↓] theorem k5_72r : sR k5_72 k5_o17 k5_71 := yR rfl
@[simp, simp ↓] theorem k5_73r : sR k5_73 k5_o16 k5_72 := yR rfl
@[simp, simp ↓] theorem k5_74r : rS k5_74 k5_27 k5_73 := zS rfl
@[simp, simp ↓] theorem k5_75r : sR k5_75 k5_o13 k5_74 := yR rfl
@[simp, simp ↓] theorem k5_76r : sR k5_76 k5_o12 k5_75 := yR rfl
@[simp, simp ↓] theorem k5_77r : rS k5_77 k5_20 k5_76 := zS rfl
@[simp, simp ↓] theorem k5_78r : rS k5_78 k5_15 k5_77 := zS rfl
@[simp, simp ↓] theorem k5_79r : sR k5_79 k5_o7 k5_78 := yR rfl
@[simp, simp ↓] theorem k5_80r : sR k5_80 k5_o6 k5_79 := yR rfl
@[simp, simp ↓] theorem k5_81r : sR k5_81 k5_o5 k5_80 := yR rfl
@[simp, simp ↓] theorem k5_82r : rS k5_82 k5_7 k5_81 := zS rfl
@[simp, simp ↓] theorem k5_83r : sR k5_83 k5_o2 k5_82 := yR rfl
@[simp, simp ↓] theorem k5_84r : sR k5_84 k5_o1 k5_83 := yR rfl
@[simp, simp ↓] theorem k5_85r : sR k5_85 k5_o0 k5_84 := yR rfl
noncomputable abbrev k5_C : Orc → Cx := mkC Try.prog [7] 5 117 [.tmp 2]
theorem k5_of : OfP Try.prog Try.f5 5 117 k5_C k5_85 := @ofP _ _ _ _ _ _ _ _ Try.func5 (by decide +kernel) rfl (by kernel_rfl) rfl (by kernel_rfl)
theorem k5_of0 : OfP0 Try.prog Try.f5 5 117 k5_C k5_85 := @ofP0 _ _ _ _ _ _ _ _ Try.func5 (by decide +kernel) rfl (by kernel_rfl) rfl (by kernel_rfl)
theorem loop_law (x : Ph) (hx : x.wf) : ACalls Try.prog 5 [x.av] [] (fun v h' => v = .bool true ∧ h' = []) := by
  refine k5_of rfl orcM_p fun I => ?_
  have hx2_x := hx.2
  refine Run2.of I 1000 ?_
  by_cases kx : (x.ts.length : Int) ≤ (1048576 : Int)
  · have hAx : ¬ (1048576 : Int) < x.ts.length := by omega
    have hBx : ¬ (1048576 : Int) - x.ts.length < 0 := by omega
    have hCx : (0 : Int) ≤ (1048576 : Int) - x.ts.length := by omega
    have lx : x.ts.length ≤ 1048576 := by omega
    have hDx : (1048576 : Int) - x.ts.length ≤ 1048576 := by omega
    have he := x.lres_len
    simp -implicitDefEqProofs [hx2_x, hAx, hBx, hCx, hDx, kx]
    first | refine dcallK (toPhases_c x _ lx) ?_ | (refine (toPhases_c x _ lx).mono ?_; rintro v h' ⟨rfl, rfl⟩; refine gK.go ?_)
    simp -implicitDefEqProofs
    first | refine dcallK (specLoop_c x _ hx.1 lx) ?_ | (refine (specLoop_c x _ hx.1 lx).mono ?_; rintro v h' ⟨rfl, rfl⟩; refine gK.go ?_)
    simp -implicitDefEqProofs
    refine (toPhases_o x _ lx).monoN ?_
    rintro v0 h' ⟨g0, o0, d0, rfl⟩ n0
    obtain ⟨u0, rfl, ou0⟩ := id o0
    have c0 := ou0.cell
    refine gK.go ?_
    simp -implicitDefEqProofs [c0]
    simp only [List.append_nil] at n0
    have L0 := o0.lentIn (L := g0) (fun p hp => hp) n0
    refine (ACalls.gives g0 (fun p hp => hp) (S := fun v h' => ∃ w, v = .tup [w, .int .i64 x.lsum, .int .i64 x.lcode] ∧ OwnL iv 1 w x.lres h') ?_ ?_).monoN ?_
    · rw [lend_cons, lend_nil']
      exact ACalls.wk (.cons L0.wk .nil) (implLoop_o x hx.1 lx)
    · rintro v h' ⟨w, rfl, ho⟩
      have := ho.own own_iv1
      exact ⟨by simp [own, owns, this.1], this.2⟩
    rintro v h' ⟨gg, ⟨w, rfl, og⟩, dg, rfl⟩ ng
    refine gK.go ?_
    simp -implicitDefEqProofs [c0]
    first | refine dcallK (eqI_own og (.snap x.lres) (fun p hp => List.mem_append_left _ hp) (show x.lres.length ≤ 1048576 by omega)) ?_ | (refine (eqI_own og (.snap x.lres) (fun p hp => List.mem_append_left _ hp) (show x.lres.length ≤ 1048576 by omega)).mono ?_; rintro v h' ⟨rfl, rfl⟩; refine gK.go ?_)
    simp -implicitDefEqProofs [c0]
    first | refine dcallK (toPhases_c x _ lx) ?_ | (refine (toPhases_c x _ lx).mono ?_; rintro v h' ⟨rfl, rfl⟩; refine gK.go ?_)
    simp -implicitDefEqProofs [c0]
    first | refine dcallK (eqPh_own o0 x.is (fun p hp => List.mem_append_right _ (hp)) lx) ?_ | (refine (eqPh_own o0 x.is (fun p hp => List.mem_append_right _ (hp)) lx).mono ?_; rintro v h' ⟨rfl, rfl⟩; refine gK.go ?_)
    simp -implicitDefEqProofs [c0]
    refine (markPh_drop o0 gg (fun p hp => List.mem_append_right _ (hp)) ?_ ?_ (1) (by omega) (by omega)).monoN ?_
    · simpa only [List.append_assoc] using keepL (a := gg) (b := g0) (by simpa only [List.append_assoc] using ng)
    · exact fun nd => nodupL (a := gg) (b := g0) (by simpa only [List.append_assoc] using nd)
    rintro _ _ ⟨e1, e2⟩ nk0
    rw [e1, e2]; rw [e2] at nk0
    refine gK.go ?_
    have hk : ¬ (1 + 3 * (x.ts.length : Int)) < 0 := by omega
    simp -implicitDefEqProofs [c0, hk]
    first | refine dcallK (eqI_own og (.snap x.lres) (fun p hp => hp) (show x.lres.length ≤ 1048576 by omega)) ?_ | (refine (eqI_own og (.snap x.lres) (fun p hp => hp) (show x.lres.length ≤ 1048576 by omega)).mono ?_; rintro v h' ⟨rfl, rfl⟩; refine gK.go ?_)
    simp -implicitDefEqProofs [c0]
    skip
    refine (markI_keep og [] (fun p hp => hp) keepN (fun _ => by simp [dom]) 1 (by omega) (by have := (show x.lres.length ≤ 1048576 by omega); omega)).mono ?_
    rintro _ _ ⟨gm, rfl, om, rfl⟩
    refine gK.go ?_
    simp -implicitDefEqProofs [c0]
    have hq : ¬ (1 + (x.lres.length : Int) < 0) := by omega
    first | refine dcallK (heldI_own om (fun p hp => hp) 1 (by omega) (by have := (show x.lres.length ≤ 1048576 by omega); simp; omega)) ?_ | (refine (heldI_own om (fun p hp => hp) 1 (by omega) (by have := (show x.lres.length ≤ 1048576 by omega); simp; omega)).mono ?_; rintro v h' ⟨rfl, rfl⟩; refine gK.go ?_)
    simp -implicitDefEqProofs [c0, hq]
    first | refine dcallK (toPhases_c x _ lx) ?_ | (refine (toPhases_c x _ lx).mono ?_; rintro v h' ⟨rfl, rfl⟩; refine gK.go ?_)
    simp -implicitDefEqProofs [c0]
    refine (ACalls.gives [] (by simp) (S := fun v h' => ∃ w, v = .tup [w, .int .i64 x.lsum, .int .i64 x.lcode] ∧ OwnL iv 1 w x.lres h') ?_ ?_).mono ?_
    · exact implLoop_o x hx.1 lx
    · rintro v h' ⟨w, rfl, ho⟩
      have := ho.own own_iv1
      exact ⟨by simp [own, owns, this.1], this.2⟩
    rintro _ _ ⟨g9, ⟨w9, rfl, o9⟩, d9, rfl⟩
    refine gK.go ?_
    simp -implicitDefEqProofs [c0, hq]
    first | refine dcallK (eqI_own o9 (.snap x.lres) (fun p hp => List.mem_append_left _ hp) (show x.lres.length ≤ 1048576 by omega)) ?_ | (refine (eqI_own o9 (.snap x.lres) (fun p hp => List.mem_append_left _ hp) (show x.lres.length ≤ 1048576 by omega)).mono ?_; rintro v h' ⟨rfl, rfl⟩; refine gK.go ?_)
    simp -implicitDefEqProofs [c0, hq]
    first | refine dcallK (heldI_own om (fun p hp => List.mem_append_right _ hp) 1 (by omega) (by have := (show x.lres.length ≤ 1048576 by omega); simp; omega)) ?_ | (refine (heldI_own om (fun p hp => List.mem_append_right _ hp) 1 (by omega) (by have := (show x.lres.length ≤ 1048576 by omega); simp; omega)).mono ?_; rintro v h' ⟨rfl, rfl⟩; refine gK.go ?_)
    simp -implicitDefEqProofs [c0, hq]
    exact Post.none ⟨rfl, rfl⟩
  · have hAx : (1048576 : Int) < x.ts.length := by omega
    simp -implicitDefEqProofs [hx2_x, hAx]
    exact .base ⟨rfl, rfl⟩
end Go.AG
namespace Go.Proofs.Ytdjamhallkijmaa
open Go.ChangeShapes Go.WideShapes Go.ChangeAt Go.RowKit Go.AG
theorem own : ownKnob Try.prog.godebug = none := by kernel_rfl
theorem laidOut : laidOutB Try.prog = true := by kernel_rfl
set_option maxRecDepth 100000 in
theorem fnExactBadLoop_lifted (os : Os) (started : os.Started) (H : Type) (enc : TypeId × Value → H) :
    ReturnsInHanded {} Try.checked os 5 .any (Rows.fnExactBadLoopSpec.pre6 enc Try.prog Try.f5 Rows.fnExactBadLoopRow.domain false) (Rows.fnExactBadLoopSpec.post enc Try.prog Try.f5 false true false false) := by
  refine returnsInHanded_of_change (C := Try.checked) own started (by kernel_rfl) Try.func5
    (ChangeSpec.witness6 (enc := enc) (C := Try.checked) false ⟨#[], #[.agg #[.int .i64 0, .int .i64 0, .slice none 0 0]], []⟩ 8 (by kernel_rfl) (by kernel_rfl) (by kernel_rfl) (by kernel_rfl)) ?_
  intro W base args ds gs before hval0 hW _ _
  have hval : ∀ (j : Nat) t v, Try.f5.params[j]? = some t → args[j]? = some v → Value.okWide Try.prog W .any base t v := hval0
  refine law_post (tys := [tyPh]) (tb := 4) laidOut rfl (by kernel_rfl) (by kernel_rfl) (by kernel_rfl) (by kernel_rfl) hval hW ?_ ?_ ⟨fun p hp => by simp [laidV] at hp, fun p hp => by simp [laidS] at hp⟩
  · intro ds h
    match ds, h with
    | [a0], _ => rfl
  · rintro xs ⟨x0, r0, rfl, h0, hr⟩
    have hr0 : r0 = [] := hr
    subst hr0
    obtain ⟨p0, rfl, q0⟩ := Ph_of_shape h0
    exact loop_law p0 q0
theorem fnExactBadLoop_holds : Rows.FnExactBadLoopSaid :=
  OpenClaim.holds_of_wide 5 Try.f5 rfl rfl rfl rfl rfl rfl rfl ⟨rfl, rfl, rfl, rfl, rfl⟩ rfl rfl rfl rfl rfl (by kernel_rfl) Try.func5 (by kernel_rfl)
    (of_decide_eq_true (by kernel_rfl)) (by unfold Func.isWrapper; first | (rw [if_pos (by decide +kernel)]; kernel_rfl) | (rw [if_neg (by decide +kernel)]; exact ⟨rfl, rfl⟩))
    (fun os started H enc _ => fnExactBadLoop_lifted os started H enc)
end Go.Proofs.Ytdjamhallkijmaa
