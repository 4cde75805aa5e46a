/- The law FnExactFewestRounds is true for every input: the program's FewestRounds returns what the reference's returns. -/
import Derived.Test.YtebkdegjiollbaaFrC
import Derived.Test.YtebkdegjiollbaaFrE
import Derived.Test.YtebkdegjiollbaaGrM
import Derived.Test.YtebkdegjiollbaaISSM
namespace Go.AG
open Go.Proofs Go.Proofs.Ytebkdegjiollbaa
set_option linter.unusedSimpArgs false
set_option linter.unusedVariables false
set_option maxRecDepth 4000
noncomputable def orcM : List (Nat × (List AV → Option (Prop × AV))) := (8, o_szGraph) :: (36, o_szInt64SS) :: []
theorem orcM_p : Pure Try.prog (lk orcM) := (lk_pure o_szGraph_k (lk_pure o_szInt64SS_k lk_pure0))
@[simp] theorem orcM_l (b : Bool) (g : FuncId) (l : List AV) : lk orcM b g l = if g = 8 then o_szGraph l else if g = 36 then o_szInt64SS l else none := nr rfl
abbrev k3_o0 : List AJ := [.o ⟨(some 2), none, false, .box false 2 (.t 0), none⟩, .o ⟨(some 4), none, false, .mv (.c (.bool false)), (some [1, 2])⟩]
abbrev k3_o1 : List AJ := [.o ⟨(some 5), none, false, .mv (.c (.int .i64 1048576)), (some [1, 2, 5])⟩]
abbrev k3_o2 : List AJ := [.o ⟨(some 16), none, false, .load 2 true (.t 2), none⟩, .o ⟨(some 17), none, false, .mv (.t 5), none⟩, .o ⟨(some 18), none, false, .call 8 [(.t 16), (.t 17)], none⟩, .o ⟨(some 5), none, false, .mv (.t 18), (some [1, 2, 5])⟩]
abbrev k3_o3 : List AJ := [.o ⟨(some 19), none, false, .mv (.t 5), none⟩, .o ⟨(some 20), none, false, .bin .lss (.t 19) (.c (.int .i64 0)), (some [1, 2, 20])⟩]
abbrev k3_o4 : List AJ := [.o ⟨(some 4), none, false, .mv (.c (.bool true)), (some [4])⟩]
def k3_5 : ACode := .seq (.region k3_o4) .ret
def k3_6 : ACode := .cond (.t 20) k3_5 .skip
def k3_7 : ACode := .seq (.region k3_o3) k3_6
abbrev k3_o5 : List AJ := [.o ⟨(some 22), none, false, .load 2 true (.t 2), none⟩, .o ⟨(some 23), none, false, .call 10 [(.t 22)], none⟩, .o ⟨(some 24), none, false, .mv (.t 1), none⟩, .o ⟨(some 25), none, false, .call 9 [(.t 23), (.t 24)], none⟩, .o ⟨(some 21), none, false, .mv (.t 25), none⟩, .o ⟨(some 26), none, false, .extract (.t 21) 0, none⟩, .o ⟨(some 27), none, false, .extract (.t 21) 1, none⟩, .o ⟨(some 6), none, false, .mv (.t 26), none⟩, .o ⟨(some 7), none, false, .mv (.t 27), (some [1, 2, 6, 7])⟩]
abbrev k3_o6 : List AJ := [.o ⟨(some 28), none, false, .load 2 true (.t 2), none⟩, .o ⟨(some 29), none, false, .call 10 [(.t 28)], none⟩, .v 8 2 (.agg [(.int .i64 0), .nilsl]) [] (.t 29) (some [1, 2, 6, 7, 8])]
abbrev k3_o7 : List AJ := [.o ⟨(some 31), none, false, .load 2 true (.t 8), none⟩, .o ⟨(some 32), none, false, .mv (.t 1), none⟩, .o ⟨(some 33), none, false, .call 11 [(.t 31), (.t 32)], none⟩, .o ⟨(some 30), none, false, .mv (.t 33), none⟩, .o ⟨(some 34), none, false, .extract (.t 30) 0, none⟩, .o ⟨(some 35), none, false, .extract (.t 30) 1, none⟩, .o ⟨(some 9), none, false, .mv (.t 34), none⟩, .o ⟨(some 10), none, false, .mv (.t 35), (some [1, 2, 6, 7, 8, 9, 10])⟩]
abbrev k3_o8 : List AJ := [.o ⟨(some 36), none, false, .mv (.t 9), none⟩, .o ⟨(some 37), none, false, .mv (.t 6), none⟩, .o ⟨(some 38), none, false, .call 12 [(.t 36), (.t 37)], none⟩, .o ⟨(some 39), none, false, .un .not (.t 38), none⟩, .o ⟨(some 40), none, false, .mv (.t 39), none⟩, .o ⟨(some 41), (some (40, false)), false, .mv (.t 10), none⟩, .o ⟨(some 42), (some (40, false)), false, .mv (.t 7), none⟩, .o ⟨(some 43), (some (40, false)), false, .bin .neq (.t 41) (.t 42), none⟩, .o ⟨(some 44), none, false, .pick (.t 40) (.c (.bool true)) (.t 43), (some [1, 2, 6, 7, 8, 9, 10, 44])⟩]
abbrev k3_o9 : List AJ := [.o ⟨(some 4), none, false, .mv (.c (.bool false)), (some [4])⟩]
def k3_13 : ACode := .seq (.region k3_o9) .ret
def k3_14 : ACode := .cond (.t 44) k3_13 .skip
def k3_15 : ACode := .seq (.region k3_o8) k3_14
abbrev k3_o10 : List AI := [⟨(some 45), none, false, .load 2 true (.t 8), none⟩, ⟨(some 46), none, false, .load 2 true (.t 2), none⟩, ⟨(some 47), none, false, .call 10 [(.t 46)], none⟩, ⟨(some 48), none, false, .call 13 [(.t 45), (.t 47)], none⟩, ⟨(some 49), none, false, .un .not (.t 48), (some [1, 2, 6, 7, 8, 9, 10, 49])⟩]
abbrev k3_o11 : List AJ := [.o ⟨(some 4), none, false, .mv (.c (.bool false)), (some [4])⟩]
def k3_18 : ACode := .seq (.region k3_o11) .ret
def k3_19 : ACode := .cond (.t 49) k3_18 .skip
def k3_20 : ACode := .seq (.draw k3_o10 [] rfl) k3_19
abbrev k3_o12 : List AJ := [.o ⟨(some 11), none, false, .mv (.c (.int .i64 1)), (some [1, 2, 6, 7, 8, 9, 10, 11])⟩]
abbrev k3_o13 : List AJ := [.o ⟨(some 50), none, false, .load 2 true (.t 8), none⟩, .o ⟨(some 51), none, false, .mv (.t 11), none⟩, .o ⟨(some 52), none, false, .call 14 [(.t 50), (.t 51)], none⟩, .o ⟨(some 11), none, false, .mv (.t 52), (some [1, 2, 6, 7, 9, 10, 11])⟩]
abbrev k3_o14 : List AJ := [.o ⟨(some 53), none, false, .mv (.t 11), none⟩, .o ⟨(some 54), none, false, .bin .lss (.t 53) (.c (.int .i64 0)), none⟩, .o ⟨(some 55), none, false, .mv (.t 54), none⟩, .o ⟨(some 56), (some (55, false)), false, .mv (.t 9), none⟩, .o ⟨(some 57), (some (55, false)), false, .mv (.t 6), none⟩, .o ⟨(some 58), (some (55, false)), false, .call 12 [(.t 56), (.t 57)], none⟩, .o ⟨(some 59), (some (55, false)), false, .un .not (.t 58), none⟩, .o ⟨(some 60), none, false, .pick (.t 55) (.c (.bool true)) (.t 59), none⟩, .o ⟨(some 61), none, false, .mv (.t 60), none⟩, .o ⟨(some 62), (some (61, false)), false, .mv (.t 10), (some [1, 2, 6, 7, 9, 61, 62])⟩, .o ⟨(some 63), (some (61, false)), false, .mv (.t 7), none⟩, .o ⟨(some 64), (some (61, false)), false, .bin .neq (.t 62) (.t 63), none⟩, .o ⟨(some 65), none, false, .pick (.t 61) (.c (.bool true)) (.t 64), (some [1, 2, 6, 7, 9, 65])⟩]
abbrev k3_o15 : List AJ := [.o ⟨(some 4), none, false, .mv (.c (.bool false)), (some [4])⟩]
def k3_25 : ACode := .seq (.region k3_o15) .ret
def k3_26 : ACode := .cond (.t 65) k3_25 .skip
def k3_27 : ACode := .seq (.region k3_o14) k3_26
abbrev k3_o16 : List AJ := [.o ⟨(some 12), none, false, .mv (.c (.int .i64 1)), (some [1, 2, 6, 7, 9, 12])⟩]
abbrev k3_o17 : List AJ := [.o ⟨(some 66), none, false, .mv (.t 9), none⟩, .o ⟨(some 67), none, false, .mv (.t 12), none⟩, .o ⟨(some 68), none, false, .call 15 [(.t 66), (.t 67)], none⟩, .o ⟨(some 12), none, false, .mv (.t 68), (some [1, 2, 6, 7, 9, 12])⟩]
abbrev k3_o18 : List AJ := [.o ⟨(some 13), none, false, .mv (.c (.int .i64 1)), (some [1, 2, 6, 7, 9, 12, 13])⟩]
abbrev k3_o19 : List AJ := [.o ⟨(some 69), none, false, .mv (.t 9), none⟩, .o ⟨(some 70), none, false, .mv (.t 13), none⟩, .o ⟨(some 71), none, false, .call 16 [(.t 69), (.t 70)], none⟩, .o ⟨(some 13), none, false, .mv (.t 71), (some [1, 2, 6, 7, 9, 12, 13])⟩]
abbrev k3_o20 : List AJ := [.o ⟨(some 72), none, false, .mv (.t 13), none⟩, .o ⟨(some 73), none, false, .bin .lss (.t 72) (.c (.int .i64 0)), (some [1, 2, 6, 7, 9, 12, 13, 73])⟩]
abbrev k3_o21 : List AJ := [.o ⟨(some 4), none, false, .mv (.c (.bool false)), (some [4])⟩]
def k3_34 : ACode := .seq (.region k3_o21) .ret
def k3_35 : ACode := .cond (.t 73) k3_34 .skip
def k3_36 : ACode := .seq (.region k3_o20) k3_35
abbrev k3_o22 : List AJ := [.o ⟨(some 74), none, false, .mv (.t 13), none⟩, .o ⟨(some 75), none, false, .mv (.t 12), none⟩, .o ⟨(some 76), none, false, .bin .neq (.t 74) (.t 75), (some [1, 2, 6, 7, 9, 12, 76])⟩]
abbrev k3_o23 : List AJ := [.o ⟨(some 4), none, false, .mv (.c (.bool false)), (some [4])⟩]
def k3_39 : ACode := .seq (.region k3_o23) .ret
def k3_40 : ACode := .cond (.t 76) k3_39 .skip
def k3_41 : ACode := .seq (.region k3_o22) k3_40
abbrev k3_o24 : List AJ := [.o ⟨(some 78), none, false, .load 2 true (.t 2), none⟩, .o ⟨(some 79), none, false, .call 10 [(.t 78)], none⟩, .o ⟨(some 80), none, false, .mv (.t 1), none⟩, .o ⟨(some 81), none, false, .call 11 [(.t 79), (.t 80)], none⟩, .o ⟨(some 77), none, false, .mv (.t 81), none⟩, .o ⟨(some 82), none, false, .extract (.t 77) 0, none⟩, .o ⟨(some 83), none, false, .extract (.t 77) 1, none⟩, .o ⟨(some 14), none, false, .mv (.t 82), none⟩, .o ⟨(some 15), none, false, .mv (.t 83), (some [6, 7, 9, 12, 14, 15])⟩]
abbrev k3_o25 : List AJ := [.o ⟨(some 84), none, false, .mv (.t 14), none⟩, .o ⟨(some 85), none, false, .mv (.t 6), none⟩, .o ⟨(some 86), none, false, .call 12 [(.t 84), (.t 85)], none⟩, .o ⟨(some 87), none, false, .un .not (.t 86), none⟩, .o ⟨(some 88), none, false, .mv (.t 87), none⟩, .o ⟨(some 89), (some (88, false)), false, .mv (.t 15), none⟩, .o ⟨(some 90), (some (88, false)), false, .mv (.t 7), none⟩, .o ⟨(some 91), (some (88, false)), false, .bin .neq (.t 89) (.t 90), none⟩, .o ⟨(some 92), none, false, .pick (.t 88) (.c (.bool true)) (.t 91), (some [9, 12, 92])⟩]
abbrev k3_o26 : List AJ := [.o ⟨(some 4), none, false, .mv (.c (.bool false)), (some [4])⟩]
def k3_45 : ACode := .seq (.region k3_o26) .ret
def k3_46 : ACode := .cond (.t 92) k3_45 .skip
def k3_47 : ACode := .seq (.region k3_o25) k3_46
abbrev k3_o27 : List AJ := [.o ⟨(some 13), none, false, .mv (.c (.int .i64 1)), (some [9, 12, 13])⟩]
abbrev k3_o28 : List AJ := [.o ⟨(some 93), none, false, .mv (.t 9), none⟩, .o ⟨(some 94), none, false, .mv (.t 13), none⟩, .o ⟨(some 95), none, false, .call 16 [(.t 93), (.t 94)], none⟩, .o ⟨(some 13), none, false, .mv (.t 95), (some [12, 13])⟩]
abbrev k3_o29 : List AJ := [.o ⟨(some 96), none, false, .mv (.t 13), none⟩, .o ⟨(some 97), none, false, .bin .lss (.t 96) (.c (.int .i64 0)), (some [12, 13, 97])⟩]
abbrev k3_o30 : List AJ := [.o ⟨(some 4), none, false, .mv (.c (.bool false)), (some [4])⟩]
def k3_52 : ACode := .seq (.region k3_o30) .ret
def k3_53 : ACode := .cond (.t 97) k3_52 .skip
def k3_54 : ACode := .seq (.region k3_o29) k3_53
abbrev k3_o31 : List AJ := [.o ⟨(some 98), none, false, .mv (.t 13), none⟩, .o ⟨(some 99), none, false, .mv (.t 12), none⟩, .o ⟨(some 100), none, false, .bin .neq (.t 98) (.t 99), (some [100])⟩]
abbrev k3_o32 : List AJ := [.o ⟨(some 4), none, false, .mv (.c (.bool false)), (some [4])⟩]
def k3_57 : ACode := .seq (.region k3_o32) .ret
def k3_58 : ACode := .cond (.t 100) k3_57 .skip
def k3_59 : ACode := .seq (.region k3_o31) k3_58
abbrev k3_o33 : List AJ := [.o ⟨(some 4), none, false, .mv (.c (.bool true)), (some [4])⟩]
def k3_61 : ACode := .seq (.region k3_o33) .ret
def k3_62 : ACode := .seq k3_59 k3_61
def k3_63 : ACode := .seq k3_54 k3_62
def k3_64 : ACode := .seq (.region k3_o28) k3_63
def k3_65 : ACode := .seq (.region k3_o27) k3_64
def k3_66 : ACode := .seq k3_47 k3_65
def k3_67 : ACode := .seq (.region k3_o24) k3_66
def k3_68 : ACode := .seq k3_41 k3_67
def k3_69 : ACode := .seq k3_36 k3_68
def k3_70 : ACode := .seq (.region k3_o19) k3_69
def k3_71 : ACode := .seq (.region k3_o18) k3_70
def k3_72 : ACode := .seq (.region k3_o17) k3_71
def k3_73 : ACode := .seq (.region k3_o16) k3_72
def k3_74 : ACode := .seq k3_27 k3_73
def k3_75 : ACode := .seq (.region k3_o13) k3_74
def k3_76 : ACode := .seq (.region k3_o12) k3_75
def k3_77 : ACode := .seq k3_20 k3_76
def k3_78 : ACode := .seq k3_15 k3_77
def k3_79 : ACode := .seq (.region k3_o7) k3_78
def k3_80 : ACode := .seq (.region k3_o6) k3_79
def k3_81 : ACode := .seq (.region k3_o5) k3_80
def k3_82 : ACode := .seq k3_7 k3_81
def k3_83 : ACode := .seq (.region k3_o2) k3_82
def k3_84 : ACode := .seq (.region k3_o1) k3_83
def k3_85 : ACode := .seq (.region k3_o0) k3_84
@[simp, simp ↓] theorem k3_5r : sR k3_5 k3_o4 .ret := yR rfl
@[simp, simp ↓] theorem k3_6r : rC k3_6 (.t 20) k3_5 .skip := zC rfl
@[simp, simp ↓] theorem k3_7r : sR k3_7 k3_o3 k3_6 := yR rfl
@[simp, simp ↓] theorem k3_13r : sR k3_13 k3_o9 .ret := yR rfl
@[simp, simp ↓] theorem k3_14r : rC k3_14 (.t 44) k3_13 .skip := zC rfl
@[simp, simp ↓] theorem k3_15r : sR k3_15 k3_o8 k3_14 := yR rfl
@[simp, simp ↓] theorem k3_18r : sR k3_18 k3_o11 .ret := yR rfl
@[simp, simp ↓] theorem k3_19r : rC k3_19 (.t 49) k3_18 .skip := zC rfl
@[simp, simp ↓] theorem k3_20r : sD k3_20 k3_o10 [] k3_19 := yD rfl
@[simp, simp ↓] theorem k3_25r : sR k3_25 k3_o15 .ret := yR rfl
@[simp, simp ↓] theorem k3_26r : rC k3_26 (.t 65) k3_25 .skip := zC rfl
@[simp, simp ↓] theorem k3_27r : sR k3_27 k3_o14 k3_26 := yR rfl
@[simp, simp ↓] theorem k3_34r : sR k3_34 k3_o21 .ret := yR rfl
@[simp, simp ↓] theorem k3_35r : rC k3_35 (.t 73) k3_34 .skip := zC rfl
@[simp, simp ↓] theorem k3_36r : sR k3_36 k3_o20 k3_35 := yR rfl
@[simp, simp ↓] theorem k3_39r : sR k3_39 k3_o23 .ret := yR rfl
@[simp, simp ↓] theorem k3_40r : rC k3_40 (.t 76) k3_39 .skip := zC rfl
@[simp, simp ↓] theorem k3_41r : sR k3_41 k3_o22 k3_40 := yR rfl
@[simp, simp ↓] theorem k3_45r : sR k3_45 k3_o26 .ret := yR rfl
@[simp, simp ↓] theorem k3_46r : rC k3_46 (.t 92) k3_45 .skip := zC rfl
@[simp, simp ↓] theorem k3_47r : sR k3_47 k3_o25 k3_46 := yR rfl
@[simp, simp ↓] theorem k3_52r : sR k3_52 k3_o30 .ret := yR rfl
@[simp, simp ↓] theorem k3_53r : rC k3_53 (.t 97) k3_52 .skip := zC rfl
@[simp, simp ↓] theorem k3_54r : sR k3_54 k3_o29 k3_53 := yR rfl
@[simp, simp ↓] theorem k3_57r : sR k3_57 k3_o32 .ret := yR rfl
@[simp, simp ↓] theorem k3_58r : rC k3_58 (.t 100) k3_57 .skip := zC rfl
@[simp, simp ↓] theorem k3_59r : sR k3_59 k3_o31 k3_58 := yR rfl
@[simp, simp ↓] theorem k3_61r : sR k3_61 k3_o33 .ret := yR rfl
@[simp, simp ↓] theorem k3_62r : rS k3_62 k3_59 k3_61 := zS rfl
@[simp, simp ↓] theorem k3_63r : rS k3_63 k3_54 k3_62 := zS rfl
@[simp, simp ↓] theorem k3_64r : sR k3_64 k3_o28 k3_63 := yR rfl
@[simp, simp ↓] theorem k3_65r : sR k3_65 k3_o27 k3_64 := yR rfl
@[simp, simp ↓] theorem k3_66r : rS k3_66 k3_47 k3_65 := zS rfl
@[simp, simp ↓] theorem k3_67r : sR k3_67 k3_o24 k3_66 := yR rfl
@[simp, simp ↓] theorem k3_68r : rS k3_68 k3_41 k3_67 := zS rfl
@[simp, simp ↓] theorem k3_69r : rS k3_69 k3_36 k3_68 := zS rfl
@[simp, simp ↓] theorem k3_70r : sR k3_70 k3_o19 k3_69 := yR rfl
@[simp, simp ↓] theorem k3_71r : sR k3_71 k3_o18 k3_70 := yR rfl
@[simp, simp ↓] theorem k3_72r : sR k3_72 k3_o17 k3_71 := yR rfl
@[simp, simp ↓] theorem k3_73r : sR k3_73 k3_o16 k3_72 := yR rfl
@[simp, simp ↓] theorem k3_74r : rS k3_74 k3_27 k3_73 := zS rfl
@[simp, simp ↓] theorem k3_75r : sR k3_75 k3_o13 k3_74 := yR rfl
@[simp, simp ↓] theorem k3_76r : sR k3_76 k3_o12 k3_75 := yR rfl
@[simp, simp ↓] theorem k3_77r : rS k3_77 k3_20 k3_76 := zS rfl
@[simp, simp ↓] theorem k3_78r : rS k3_78 k3_15 k3_77 := zS rfl
@[simp, simp ↓] theorem k3_79r : sR k3_79 k3_o7 k3_78 := yR rfl
@[simp, simp ↓] theorem k3_80r : sR k3_80 k3_o6 k3_79 := yR rfl
@[simp, simp ↓] theorem k3_81r : sR k3_81 k3_o5 k3_80 := yR rfl
@[simp, simp ↓] theorem k3_82r : rS k3_82 k3_7 k3_81 := zS rfl
@[simp, simp ↓] theorem k3_83r : sR k3_83 k3_o2 k3_82 := yR rfl
@[simp, simp ↓] theorem k3_84r : sR k3_84 k3_o1 k3_83 := yR rfl
@[simp, simp ↓] theorem k3_85r : sR k3_85 k3_o0 k3_84 := yR rfl
noncomputable abbrev k3_C : Orc → Cx := mkC Try.prog [8] 3 101 [.tmp 4]
theorem k3_of : OfP Try.prog Try.f3 3 101 k3_C k3_85 := @ofP _ _ _ _ _ _ _ _ Try.func3 (by decide +kernel) rfl (by kernel_rfl) rfl (by kernel_rfl)
theorem k3_of0 : OfP0 Try.prog Try.f3 3 101 k3_C k3_85 := @ofP0 _ _ _ _ _ _ _ _ Try.func3 (by decide +kernel) rfl (by kernel_rfl) rfl (by kernel_rfl)
theorem fw_law (x : Gr) (hx : x.wf) (k : Int) (hk : in64 k) : ACalls Try.prog 3 [x.av, (.int .i64 k)] [] (fun v h' => v = .bool true ∧ h' = []) := by
  refine k3_of rfl orcM_p fun I => ?_
  have hx2_x := hx.2
  refine Run2.of I 1000 ?_
  by_cases kx : (x.ts.length : Int) ≤ (1048576 : Int)
  · have hAx : ¬ (1048576 : Int) < x.ts.length := by omega
    have hBx : ¬ (1048576 : Int) - x.ts.length < 0 := by omega
    have hCx : (0 : Int) ≤ (1048576 : Int) - x.ts.length := by omega
    have lx : x.ts.length ≤ 1048576 := by omega
    have hDx : (1048576 : Int) - x.ts.length ≤ 1048576 := by omega
    have ht := x.fwL_tot k
    simp -implicitDefEqProofs [hx2_x, hAx, hBx, hCx, hDx, kx]
    first | refine dcallK (toGraph_c x _ lx) ?_ | (refine (toGraph_c x _ lx).mono ?_; rintro v h' ⟨rfl, rfl⟩; refine gK.go ?_)
    simp -implicitDefEqProofs
    first | refine dcallK (specFw_c x k _ lx hx.1) ?_ | (refine (specFw_c x k _ lx hx.1).mono ?_; rintro v h' ⟨rfl, rfl⟩; refine gK.go ?_)
    simp -implicitDefEqProofs
    refine (toGraph_o x _ lx).monoN ?_
    rintro v0 h' ⟨g0, o0, d0, rfl⟩ n0
    obtain ⟨u0, rfl, ou0⟩ := id o0
    have c0 := ou0.cell
    refine gK.go ?_
    simp -implicitDefEqProofs [c0]
    simp only [List.append_nil] at n0
    have L0 := o0.lentIn (L := g0) (fun p hp => hp) n0
    refine (ACalls.gives g0 (fun p hp => hp) (S := fun v h' => ∃ w, v = .tup [w, .int .i64 (x.fwC k)] ∧ OwnLL w (x.fwL k) h') ?_ ?_).monoN ?_
    · rw [lend_cons, lend_cons, lend_nil', lend1_cold g0 (x := (.int .i64 k)) rfl]
      exact ACalls.wk (.cons L0.wk (.cons (.refl _) .nil)) (implFw_o x k lx hx.1)
    · rintro v h' ⟨w, rfl, ho⟩
      have := ho.own
      exact ⟨by simp [own, owns, this.1], this.2⟩
    rintro v h' ⟨gg, ⟨w, rfl, og⟩, dg, rfl⟩ ng
    refine gK.go ?_
    simp -implicitDefEqProofs [c0]
    first | refine dcallK (eqL_own og (.is (x.fwL k)) (fun p hp => List.mem_append_left _ hp) (show ssTot (x.fwL k) ≤ 1048576 by omega)) ?_ | (refine (eqL_own og (.is (x.fwL k)) (fun p hp => List.mem_append_left _ hp) (show ssTot (x.fwL k) ≤ 1048576 by omega)).mono ?_; rintro v h' ⟨rfl, rfl⟩; refine gK.go ?_)
    simp -implicitDefEqProofs [c0]
    first | refine dcallK (toGraph_c x _ lx) ?_ | (refine (toGraph_c x _ lx).mono ?_; rintro v h' ⟨rfl, rfl⟩; refine gK.go ?_)
    simp -implicitDefEqProofs [c0]
    first | refine dcallK (eqG_own o0 x.is (fun p hp => List.mem_append_right _ (hp)) lx) ?_ | (refine (eqG_own o0 x.is (fun p hp => List.mem_append_right _ (hp)) lx).mono ?_; rintro v h' ⟨rfl, rfl⟩; refine gK.go ?_)
    simp -implicitDefEqProofs [c0]
    refine (markG_drop o0 gg (fun p hp => List.mem_append_right _ (hp)) ?_ ?_ (1) (by omega) (by omega)).monoN ?_
    · simpa only [List.append_assoc] using keepL (a := gg) (b := g0) (by simpa only [List.append_assoc] using ng)
    · exact fun nd => nodupL (a := gg) (b := g0) (by simpa only [List.append_assoc] using nd)
    rintro _ _ ⟨e1, e2⟩ nk0
    rw [e1, e2]; rw [e2] at nk0
    refine gK.go ?_
    have hk : ¬ (1 + 3 * (x.ts.length : Int)) < 0 := by omega
    simp -implicitDefEqProofs [c0, hk]
    first | refine dcallK (eqL_own og (.is (x.fwL k)) (fun p hp => hp) (show ssTot (x.fwL k) ≤ 1048576 by omega)) ?_ | (refine (eqL_own og (.is (x.fwL k)) (fun p hp => hp) (show ssTot (x.fwL k) ≤ 1048576 by omega)).mono ?_; rintro v h' ⟨rfl, rfl⟩; refine gK.go ?_)
    simp -implicitDefEqProofs [c0]
    skip
    refine (markL_keep og [] (fun p hp => hp) keepN (fun _ => by simp [dom]) 1 (by omega) (by have := (show ssTot (x.fwL k) ≤ 1048576 by omega); omega)).mono ?_
    rintro _ _ ⟨gm, rfl, om, rfl⟩
    refine gK.go ?_
    simp -implicitDefEqProofs [c0]
    have hq : ¬ (1 + (sumL (x.fwL k) : Int) < 0) := by omega
    first | refine dcallK (heldL_own om (fun p hp => hp) 1 (by omega) (by have := (show ssTot (x.fwL k) ≤ 1048576 by omega); simp; omega)) ?_ | (refine (heldL_own om (fun p hp => hp) 1 (by omega) (by have := (show ssTot (x.fwL k) ≤ 1048576 by omega); simp; omega)).mono ?_; rintro v h' ⟨rfl, rfl⟩; refine gK.go ?_)
    simp -implicitDefEqProofs [c0, hq]
    first | refine dcallK (toGraph_c x _ lx) ?_ | (refine (toGraph_c x _ lx).mono ?_; rintro v h' ⟨rfl, rfl⟩; refine gK.go ?_)
    simp -implicitDefEqProofs [c0]
    refine (ACalls.gives [] (by simp) (S := fun v h' => ∃ w, v = .tup [w, .int .i64 (x.fwC k)] ∧ OwnLL w (x.fwL k) h') ?_ ?_).mono ?_
    · exact implFw_o x k lx hx.1
    · rintro v h' ⟨w, rfl, ho⟩
      have := ho.own
      exact ⟨by simp [own, owns, this.1], this.2⟩
    rintro _ _ ⟨g9, ⟨w9, rfl, o9⟩, d9, rfl⟩
    refine gK.go ?_
    simp -implicitDefEqProofs [c0, hq]
    first | refine dcallK (eqL_own o9 (.is (x.fwL k)) (fun p hp => List.mem_append_left _ hp) (show ssTot (x.fwL k) ≤ 1048576 by omega)) ?_ | (refine (eqL_own o9 (.is (x.fwL k)) (fun p hp => List.mem_append_left _ hp) (show ssTot (x.fwL k) ≤ 1048576 by omega)).mono ?_; rintro v h' ⟨rfl, rfl⟩; refine gK.go ?_)
    simp -implicitDefEqProofs [c0, hq]
    first | refine dcallK (heldL_own om (fun p hp => List.mem_append_right _ hp) 1 (by omega) (by have := (show ssTot (x.fwL k) ≤ 1048576 by omega); simp; omega)) ?_ | (refine (heldL_own om (fun p hp => List.mem_append_right _ hp) 1 (by omega) (by have := (show ssTot (x.fwL k) ≤ 1048576 by omega); simp; omega)).mono ?_; rintro v h' ⟨rfl, rfl⟩; refine gK.go ?_)
    simp -implicitDefEqProofs [c0, hq]
    exact Post.none ⟨rfl, rfl⟩
  · have hAx : (1048576 : Int) < x.ts.length := by omega
    simp -implicitDefEqProofs [hx2_x, hAx]
    exact .base ⟨rfl, rfl⟩
end Go.AG
namespace Go.Proofs.Ytebkdegjiollbaa
open Go.ChangeShapes Go.WideShapes Go.ChangeAt Go.RowKit Go.AG
theorem own : ownKnob Try.prog.godebug = none := by kernel_rfl
theorem laidOut : laidOutB Try.prog = true := by kernel_rfl
set_option maxRecDepth 100000 in
theorem fnExactFewestRounds_lifted (os : Os) (started : os.Started) (H : Type) (enc : TypeId × Value → H) :
    ReturnsInHanded {} Try.checked os 3 .any (Rows.fnExactFewestRoundsSpec.pre6 enc Try.prog Try.f3 Rows.fnExactFewestRoundsRow.domain false) (Rows.fnExactFewestRoundsSpec.post enc Try.prog Try.f3 false true false false) := by
  refine returnsInHanded_of_change (C := Try.checked) own started (by kernel_rfl) Try.func3
    (ChangeSpec.witness6 (enc := enc) (C := Try.checked) false ⟨#[], #[.agg #[.int .i64 0, .slice none 0 0], .int .i64 0], []⟩ 8 (by kernel_rfl) (by kernel_rfl) (by kernel_rfl) (by kernel_rfl)) ?_
  intro W base args ds gs before hval0 hW _ _
  have hval : ∀ (j : Nat) t v, Try.f3.params[j]? = some t → args[j]? = some v → Value.okWide Try.prog W .any base t v := hval0
  refine law_post (tys := [tyG, (.int .i64)]) (tb := 4) laidOut rfl (by kernel_rfl) (by kernel_rfl) (by kernel_rfl) (by kernel_rfl) hval hW ?_ ?_ ⟨fun p hp => by simp [laidV] at hp, fun p hp => by simp [laidS] at hp⟩
  · intro ds h
    match ds, h with
    | [a0, a1], _ => rfl
  · rintro xs ⟨x0, r0, rfl, h0, x1, r1, rfl, h1, hr⟩
    have hr0 : r1 = [] := hr
    subst hr0
    obtain ⟨p0, rfl, q0⟩ := Gr_of_shape h0
    obtain ⟨p1, rfl, q1⟩ := Int_of_shape h1
    exact fw_law p0 q0 p1 q1
theorem fnExactFewestRounds_holds : Rows.FnExactFewestRoundsSaid :=
  OpenClaim.holds_of_wide 3 Try.f3 rfl rfl rfl rfl rfl rfl rfl ⟨rfl, rfl, rfl, rfl, rfl⟩ rfl rfl rfl rfl rfl (by kernel_rfl) Try.func3 (by kernel_rfl)
    (of_decide_eq_true (by kernel_rfl)) (by unfold Func.isWrapper; first | (rw [if_pos (by decide +kernel)]; kernel_rfl) | (rw [if_neg (by decide +kernel)]; exact ⟨rfl, rfl⟩))
    (fun os started H enc _ => fnExactFewestRounds_lifted os started H enc)
end Go.Proofs.Ytebkdegjiollbaa
