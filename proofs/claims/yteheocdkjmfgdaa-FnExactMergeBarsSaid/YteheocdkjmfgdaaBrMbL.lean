/- The law FnExactMergeBars is true for every input: the program's MergeBars returns what the reference's returns. -/
import Derived.Test.YteheocdkjmfgdaaBrMi
namespace Go.AG
open Go.Proofs Go.Proofs.Yteheocdkjmfgdaa
set_option linter.unusedSimpArgs false
set_option linter.unusedVariables false
set_option maxRecDepth 4000
noncomputable def orcM : List (Nat × (List AV → Option (Prop × AV))) := (4, o_szBarS) :: []
theorem orcM_p : Pure Try.prog (lk orcM) := (lk_pure o_szBarS_k lk_pure0)
@[simp] theorem orcM_l (b : Bool) (g : FuncId) (l : List AV) : lk orcM b g l = if g = 4 then o_szBarS l else none := nr rfl
abbrev k3_o0 : List AJ := [.o ⟨(some 4), none, false, .mv (.c (.bool false)), (some [0, 1])⟩]
abbrev k3_o1 : List AJ := [.o ⟨(some 5), none, false, .mv (.c (.int .i64 1048576)), (some [0, 1, 5])⟩]
abbrev k3_o2 : List AJ := [.o ⟨(some 17), none, false, .mv (.t 0), none⟩, .o ⟨(some 18), none, false, .mv (.t 5), none⟩, .o ⟨(some 19), none, false, .call 4 [(.t 17), (.t 18)], none⟩, .o ⟨(some 5), none, false, .mv (.t 19), (some [0, 1, 5])⟩]
abbrev k3_o3 : List AJ := [.o ⟨(some 20), none, false, .mv (.t 5), none⟩, .o ⟨(some 21), none, false, .bin .lss (.t 20) (.c (.int .i64 0)), (some [0, 1, 5, 21])⟩]
abbrev k3_o4 : List AJ := [.o ⟨(some 4), none, false, .mv (.c (.bool true)), (some [4])⟩]
def k3_5 : ACode := .seq (.region k3_o4) .ret
def k3_6 : ACode := .cond (.t 21) k3_5 .skip
def k3_7 : ACode := .seq (.region k3_o3) k3_6
abbrev k3_o5 : List AJ := [.o ⟨(some 22), none, false, .mv (.t 1), none⟩, .o ⟨(some 23), none, false, .mv (.t 5), none⟩, .o ⟨(some 24), none, false, .call 4 [(.t 22), (.t 23)], none⟩, .o ⟨(some 5), none, false, .mv (.t 24), (some [0, 1, 5])⟩]
abbrev k3_o6 : List AJ := [.o ⟨(some 25), none, false, .mv (.t 5), none⟩, .o ⟨(some 26), none, false, .bin .lss (.t 25) (.c (.int .i64 0)), (some [0, 1, 26])⟩]
abbrev k3_o7 : List AJ := [.o ⟨(some 4), none, false, .mv (.c (.bool true)), (some [4])⟩]
def k3_11 : ACode := .seq (.region k3_o7) .ret
def k3_12 : ACode := .cond (.t 26) k3_11 .skip
def k3_13 : ACode := .seq (.region k3_o6) k3_12
abbrev k3_o8 : List AJ := [.o ⟨(some 28), none, false, .mv (.t 0), none⟩, .o ⟨(some 29), none, false, .call 6 [(.t 28)], none⟩, .o ⟨(some 30), none, false, .mv (.t 1), none⟩, .o ⟨(some 31), none, false, .call 6 [(.t 30)], none⟩, .o ⟨(some 32), none, false, .call 5 [(.t 29), (.t 31)], none⟩, .o ⟨(some 27), none, false, .mv (.t 32), none⟩, .o ⟨(some 33), none, false, .extract (.t 27) 0, none⟩, .o ⟨(some 34), none, false, .extract (.t 27) 1, none⟩, .o ⟨(some 6), none, false, .mv (.t 33), none⟩, .o ⟨(some 7), none, false, .mv (.t 34), (some [0, 1, 6, 7])⟩]
abbrev k3_o9 : List AJ := [.o ⟨(some 35), none, false, .mv (.t 0), none⟩, .o ⟨(some 36), none, false, .call 6 [(.t 35)], none⟩, .o ⟨(some 8), none, false, .mv (.t 36), (some [0, 1, 6, 7, 8])⟩]
abbrev k3_o10 : List AJ := [.o ⟨(some 37), none, false, .mv (.t 1), none⟩, .o ⟨(some 38), none, false, .call 6 [(.t 37)], none⟩, .o ⟨(some 9), none, false, .mv (.t 38), (some [0, 1, 6, 7, 8, 9])⟩]
abbrev k3_o11 : List AJ := [.o ⟨(some 40), none, false, .mv (.t 8), none⟩, .o ⟨(some 41), none, false, .mv (.t 9), none⟩, .o ⟨(some 42), none, false, .call 7 [(.t 40), (.t 41)], none⟩, .o ⟨(some 39), none, false, .mv (.t 42), none⟩, .o ⟨(some 43), none, false, .extract (.t 39) 0, none⟩, .o ⟨(some 44), none, false, .extract (.t 39) 1, none⟩, .o ⟨(some 10), none, false, .mv (.t 43), none⟩, .o ⟨(some 11), none, false, .mv (.t 44), (some [0, 1, 6, 7, 8, 9, 10, 11])⟩]
abbrev k3_o12 : List AJ := [.o ⟨(some 45), none, false, .mv (.t 10), none⟩, .o ⟨(some 46), none, false, .mv (.t 6), none⟩, .o ⟨(some 47), none, false, .call 8 [(.t 45), (.t 46)], none⟩, .o ⟨(some 48), none, false, .un .not (.t 47), none⟩, .o ⟨(some 49), none, false, .mv (.t 48), none⟩, .o ⟨(some 50), (some (49, false)), false, .mv (.t 11), none⟩, .o ⟨(some 51), (some (49, false)), false, .mv (.t 7), none⟩, .o ⟨(some 52), (some (49, false)), false, .bin .neq (.t 50) (.t 51), none⟩, .o ⟨(some 53), none, false, .pick (.t 49) (.c (.bool true)) (.t 52), (some [0, 1, 6, 7, 8, 9, 10, 11, 53])⟩]
abbrev k3_o13 : List AJ := [.o ⟨(some 4), none, false, .mv (.c (.bool false)), (some [4])⟩]
def k3_20 : ACode := .seq (.region k3_o13) .ret
def k3_21 : ACode := .cond (.t 53) k3_20 .skip
def k3_22 : ACode := .seq (.region k3_o12) k3_21
abbrev k3_o14 : List AJ := [.o ⟨(some 54), none, false, .mv (.t 8), none⟩, .o ⟨(some 55), none, false, .mv (.t 0), none⟩, .o ⟨(some 56), none, false, .call 6 [(.t 55)], none⟩, .o ⟨(some 57), none, false, .call 8 [(.t 54), (.t 56)], none⟩, .o ⟨(some 58), none, false, .un .not (.t 57), (some [0, 1, 6, 7, 8, 9, 10, 11, 58])⟩]
abbrev k3_o15 : List AJ := [.o ⟨(some 4), none, false, .mv (.c (.bool false)), (some [4])⟩]
def k3_25 : ACode := .seq (.region k3_o15) .ret
def k3_26 : ACode := .cond (.t 58) k3_25 .skip
def k3_27 : ACode := .seq (.region k3_o14) k3_26
abbrev k3_o16 : List AJ := [.o ⟨(some 59), none, false, .mv (.t 9), none⟩, .o ⟨(some 60), none, false, .mv (.t 1), none⟩, .o ⟨(some 61), none, false, .call 6 [(.t 60)], none⟩, .o ⟨(some 62), none, false, .call 8 [(.t 59), (.t 61)], none⟩, .o ⟨(some 63), none, false, .un .not (.t 62), (some [0, 1, 6, 7, 8, 9, 10, 11, 63])⟩]
abbrev k3_o17 : List AJ := [.o ⟨(some 4), none, false, .mv (.c (.bool false)), (some [4])⟩]
def k3_30 : ACode := .seq (.region k3_o17) .ret
def k3_31 : ACode := .cond (.t 63) k3_30 .skip
def k3_32 : ACode := .seq (.region k3_o16) k3_31
abbrev k3_o18 : List AJ := [.o ⟨(some 12), none, false, .mv (.c (.int .i64 1)), (some [0, 1, 6, 7, 8, 9, 10, 11, 12])⟩]
abbrev k3_o19 : List AJ := [.o ⟨(some 64), none, false, .mv (.t 8), none⟩, .o ⟨(some 65), none, false, .mv (.t 12), none⟩, .o ⟨(some 66), none, false, .call 9 [(.t 64), (.t 65)], none⟩, .o ⟨(some 12), none, false, .mv (.t 66), (some [0, 1, 6, 7, 9, 10, 11, 12])⟩]
abbrev k3_o20 : List AJ := [.o ⟨(some 67), none, false, .mv (.t 9), none⟩, .o ⟨(some 68), none, false, .mv (.t 12), none⟩, .o ⟨(some 69), none, false, .call 9 [(.t 67), (.t 68)], none⟩, .o ⟨(some 12), none, false, .mv (.t 69), (some [0, 1, 6, 7, 10, 11, 12])⟩]
abbrev k3_o21 : List AJ := [.o ⟨(some 70), none, false, .mv (.t 12), none⟩, .o ⟨(some 71), none, false, .bin .lss (.t 70) (.c (.int .i64 0)), none⟩, .o ⟨(some 72), none, false, .mv (.t 71), none⟩, .o ⟨(some 73), (some (72, false)), false, .mv (.t 10), none⟩, .o ⟨(some 74), (some (72, false)), false, .mv (.t 6), none⟩, .o ⟨(some 75), (some (72, false)), false, .call 8 [(.t 73), (.t 74)], none⟩, .o ⟨(some 76), (some (72, false)), false, .un .not (.t 75), none⟩, .o ⟨(some 77), none, false, .pick (.t 72) (.c (.bool true)) (.t 76), none⟩, .o ⟨(some 78), none, false, .mv (.t 77), none⟩, .o ⟨(some 79), (some (78, false)), false, .mv (.t 11), (some [0, 1, 6, 7, 10, 78, 79])⟩, .o ⟨(some 80), (some (78, false)), false, .mv (.t 7), none⟩, .o ⟨(some 81), (some (78, false)), false, .bin .neq (.t 79) (.t 80), none⟩, .o ⟨(some 82), none, false, .pick (.t 78) (.c (.bool true)) (.t 81), (some [0, 1, 6, 7, 10, 82])⟩]
abbrev k3_o22 : List AJ := [.o ⟨(some 4), none, false, .mv (.c (.bool false)), (some [4])⟩]
def k3_38 : ACode := .seq (.region k3_o22) .ret
def k3_39 : ACode := .cond (.t 82) k3_38 .skip
def k3_40 : ACode := .seq (.region k3_o21) k3_39
abbrev k3_o23 : List AJ := [.o ⟨(some 13), none, false, .mv (.c (.int .i64 1)), (some [0, 1, 6, 7, 10, 13])⟩]
abbrev k3_o24 : List AJ := [.o ⟨(some 83), none, false, .mv (.t 10), none⟩, .o ⟨(some 84), none, false, .mv (.t 13), none⟩, .o ⟨(some 85), none, false, .call 9 [(.t 83), (.t 84)], none⟩, .o ⟨(some 13), none, false, .mv (.t 85), (some [0, 1, 6, 7, 10, 13])⟩]
abbrev k3_o25 : List AJ := [.o ⟨(some 14), none, false, .mv (.c (.int .i64 1)), (some [0, 1, 6, 7, 10, 13, 14])⟩]
abbrev k3_o26 : List AJ := [.o ⟨(some 86), none, false, .mv (.t 10), none⟩, .o ⟨(some 87), none, false, .mv (.t 14), none⟩, .o ⟨(some 88), none, false, .call 10 [(.t 86), (.t 87)], none⟩, .o ⟨(some 14), none, false, .mv (.t 88), (some [0, 1, 6, 7, 10, 13, 14])⟩]
abbrev k3_o27 : List AJ := [.o ⟨(some 89), none, false, .mv (.t 14), none⟩, .o ⟨(some 90), none, false, .bin .lss (.t 89) (.c (.int .i64 0)), (some [0, 1, 6, 7, 10, 13, 14, 90])⟩]
abbrev k3_o28 : List AJ := [.o ⟨(some 4), none, false, .mv (.c (.bool false)), (some [4])⟩]
def k3_47 : ACode := .seq (.region k3_o28) .ret
def k3_48 : ACode := .cond (.t 90) k3_47 .skip
def k3_49 : ACode := .seq (.region k3_o27) k3_48
abbrev k3_o29 : List AJ := [.o ⟨(some 91), none, false, .mv (.t 14), none⟩, .o ⟨(some 92), none, false, .mv (.t 13), none⟩, .o ⟨(some 93), none, false, .bin .neq (.t 91) (.t 92), (some [0, 1, 6, 7, 10, 13, 93])⟩]
abbrev k3_o30 : List AJ := [.o ⟨(some 4), none, false, .mv (.c (.bool false)), (some [4])⟩]
def k3_52 : ACode := .seq (.region k3_o30) .ret
def k3_53 : ACode := .cond (.t 93) k3_52 .skip
def k3_54 : ACode := .seq (.region k3_o29) k3_53
abbrev k3_o31 : List AJ := [.o ⟨(some 95), none, false, .mv (.t 0), none⟩, .o ⟨(some 96), none, false, .call 6 [(.t 95)], none⟩, .o ⟨(some 97), none, false, .mv (.t 1), none⟩, .o ⟨(some 98), none, false, .call 6 [(.t 97)], none⟩, .o ⟨(some 99), none, false, .call 7 [(.t 96), (.t 98)], none⟩, .o ⟨(some 94), none, false, .mv (.t 99), none⟩, .o ⟨(some 100), none, false, .extract (.t 94) 0, none⟩, .o ⟨(some 101), none, false, .extract (.t 94) 1, none⟩, .o ⟨(some 15), none, false, .mv (.t 100), none⟩, .o ⟨(some 16), none, false, .mv (.t 101), (some [6, 7, 10, 13, 15, 16])⟩]
abbrev k3_o32 : List AJ := [.o ⟨(some 102), none, false, .mv (.t 15), none⟩, .o ⟨(some 103), none, false, .mv (.t 6), none⟩, .o ⟨(some 104), none, false, .call 8 [(.t 102), (.t 103)], none⟩, .o ⟨(some 105), none, false, .un .not (.t 104), none⟩, .o ⟨(some 106), none, false, .mv (.t 105), none⟩, .o ⟨(some 107), (some (106, false)), false, .mv (.t 16), none⟩, .o ⟨(some 108), (some (106, false)), false, .mv (.t 7), none⟩, .o ⟨(some 109), (some (106, false)), false, .bin .neq (.t 107) (.t 108), none⟩, .o ⟨(some 110), none, false, .pick (.t 106) (.c (.bool true)) (.t 109), (some [10, 13, 110])⟩]
abbrev k3_o33 : List AJ := [.o ⟨(some 4), none, false, .mv (.c (.bool false)), (some [4])⟩]
def k3_58 : ACode := .seq (.region k3_o33) .ret
def k3_59 : ACode := .cond (.t 110) k3_58 .skip
def k3_60 : ACode := .seq (.region k3_o32) k3_59
abbrev k3_o34 : List AJ := [.o ⟨(some 14), none, false, .mv (.c (.int .i64 1)), (some [10, 13, 14])⟩]
abbrev k3_o35 : List AJ := [.o ⟨(some 111), none, false, .mv (.t 10), none⟩, .o ⟨(some 112), none, false, .mv (.t 14), none⟩, .o ⟨(some 113), none, false, .call 10 [(.t 111), (.t 112)], none⟩, .o ⟨(some 14), none, false, .mv (.t 113), (some [13, 14])⟩]
abbrev k3_o36 : List AJ := [.o ⟨(some 114), none, false, .mv (.t 14), none⟩, .o ⟨(some 115), none, false, .bin .lss (.t 114) (.c (.int .i64 0)), (some [13, 14, 115])⟩]
abbrev k3_o37 : List AJ := [.o ⟨(some 4), none, false, .mv (.c (.bool false)), (some [4])⟩]
def k3_65 : ACode := .seq (.region k3_o37) .ret
def k3_66 : ACode := .cond (.t 115) k3_65 .skip
def k3_67 : ACode := .seq (.region k3_o36) k3_66
abbrev k3_o38 : List AJ := [.o ⟨(some 116), none, false, .mv (.t 14), none⟩, .o ⟨(some 117), none, false, .mv (.t 13), none⟩, .o ⟨(some 118), none, false, .bin .neq (.t 116) (.t 117), (some [118])⟩]
abbrev k3_o39 : List AJ := [.o ⟨(some 4), none, false, .mv (.c (.bool false)), (some [4])⟩]
def k3_70 : ACode := .seq (.region k3_o39) .ret
def k3_71 : ACode := .cond (.t 118) k3_70 .skip
def k3_72 : ACode := .seq (.region k3_o38) k3_71
abbrev k3_o40 : List AJ := [.o ⟨(some 4), none, false, .mv (.c (.bool true)), (some [4])⟩]
def k3_74 : ACode := .seq (.region k3_o40) .ret
def k3_75 : ACode := .seq k3_72 k3_74
def k3_76 : ACode := .seq k3_67 k3_75
def k3_77 : ACode := .seq (.region k3_o35) k3_76
def k3_78 : ACode := .seq (.region k3_o34) k3_77
def k3_79 : ACode := .seq k3_60 k3_78
def k3_80 : ACode := .seq (.region k3_o31) k3_79
def k3_81 : ACode := .seq k3_54 k3_80
def k3_82 : ACode := .seq k3_49 k3_81
def k3_83 : ACode := .seq (.region k3_o26) k3_82
def k3_84 : ACode := .seq (.region k3_o25) k3_83
def k3_85 : ACode := .seq (.region k3_o24) k3_84
def k3_86 : ACode := .seq (.region k3_o23) k3_85
def k3_87 : ACode := .seq k3_40 k3_86
def k3_88 : ACode := .seq (.region k3_o20) k3_87
def k3_89 : ACode := .seq (.region k3_o19) k3_88
def k3_90 : ACode := .seq (.region k3_o18) k3_89
def k3_91 : ACode := .seq k3_32 k3_90
def k3_92 : ACode := .seq k3_27 k3_91
def k3_93 : ACode := .seq k3_22 k3_92
def k3_94 : ACode := .seq (.region k3_o11) k3_93
def k3_95 : ACode := .seq (.region k3_o10) k3_94
def k3_96 : ACode := .seq (.region k3_o9) k3_95
def k3_97 : ACode := .seq (.region k3_o8) k3_96
def k3_98 : ACode := .seq k3_13 k3_97
def k3_99 : ACode := .seq (.region k3_o5) k3_98
def k3_100 : ACode := .seq k3_7 k3_99
def k3_101 : ACode := .seq (.region k3_o2) k3_100
def k3_102 : ACode := .seq (.region k3_o1) k3_101
def k3_103 : ACode := .seq (.region k3_o0) k3_102
@[simp, simp ↓] theorem k3_5r : sR k3_5 k3_o4 .ret := yR rfl
@[simp, simp ↓] theorem k3_6r : rC k3_6 (.t 21) k3_5 .skip := zC rfl
@[simp, simp ↓] theorem k3_7r : sR k3_7 k3_o3 k3_6 := yR rfl
@[simp, simp ↓] theorem k3_11r : sR k3_11 k3_o7 .ret := yR rfl
@[simp, simp ↓] theorem k3_12r : rC k3_12 (.t 26) k3_11 .skip := zC rfl
@[simp, simp ↓] theorem k3_13r : sR k3_13 k3_o6 k3_12 := yR rfl
@[simp, simp ↓] theorem k3_20r : sR k3_20 k3_o13 .ret := yR rfl
@[simp, simp ↓] theorem k3_21r : rC k3_21 (.t 53) k3_20 .skip := zC rfl
@[simp, simp ↓] theorem k3_22r : sR k3_22 k3_o12 k3_21 := yR rfl
@[simp, simp ↓] theorem k3_25r : sR k3_25 k3_o15 .ret := yR rfl
@[simp, simp ↓] theorem k3_26r : rC k3_26 (.t 58) k3_25 .skip := zC rfl
@[simp, simp ↓] theorem k3_27r : sR k3_27 k3_o14 k3_26 := yR rfl
@[simp, simp ↓] theorem k3_30r : sR k3_30 k3_o17 .ret := yR rfl
@[simp, simp ↓] theorem k3_31r : rC k3_31 (.t 63) k3_30 .skip := zC rfl
@[simp, simp ↓] theorem k3_32r : sR k3_32 k3_o16 k3_31 := yR rfl
@[simp, simp ↓] theorem k3_38r : sR k3_38 k3_o22 .ret := yR rfl
@[simp, simp ↓] theorem k3_39r : rC k3_39 (.t 82) k3_38 .skip := zC rfl
@[simp, simp ↓] theorem k3_40r : sR k3_40 k3_o21 k3_39 := yR rfl
@[simp, simp ↓] theorem k3_47r : sR k3_47 k3_o28 .ret := yR rfl
@[simp, simp ↓] theorem k3_48r : rC k3_48 (.t 90) k3_47 .skip := zC rfl
@[simp, simp ↓] theorem k3_49r : sR k3_49 k3_o27 k3_48 := yR rfl
@[simp, simp ↓] theorem k3_52r : sR k3_52 k3_o30 .ret := yR rfl
@[simp, simp ↓] theorem k3_53r : rC k3_53 (.t 93) k3_52 .skip := zC rfl
@[simp, simp ↓] theorem k3_54r : sR k3_54 k3_o29 k3_53 := yR rfl
@[simp, simp ↓] theorem k3_58r : sR k3_58 k3_o33 .ret := yR rfl
@[simp, simp ↓] theorem k3_59r : rC k3_59 (.t 110) k3_58 .skip := zC rfl
@[simp, simp ↓] theorem k3_60r : sR k3_60 k3_o32 k3_59 := yR rfl
@[simp, simp ↓] theorem k3_65r : sR k3_65 k3_o37 .ret := yR rfl
@[simp, simp ↓] theorem k3_66r : rC k3_66 (.t 115) k3_65 .skip := zC rfl
@[simp, simp ↓] theorem k3_67r : sR k3_67 k3_o36 k3_66 := yR rfl
@[simp, simp ↓] theorem k3_70r : sR k3_70 k3_o39 .ret := yR rfl
@[simp, simp ↓] theorem k3_71r : rC k3_71 (.t 118) k3_70 .skip := zC rfl
@[simp, simp ↓] theorem k3_72r : sR k3_72 k3_o38 k3_71 := yR rfl
@[simp, simp ↓] theorem k3_74r : sR k3_74 k3_o40 .ret := yR rfl
@[simp, simp ↓] theorem k3_75r : rS k3_75 k3_72 k3_74 := zS rfl
@[simp, simp ↓] theorem k3_76r : rS k3_76 k3_67 k3_75 := zS rfl
@[simp, simp ↓] theorem k3_77r : sR k3_77 k3_o35 k3_76 := yR rfl
@[simp, simp ↓] theorem k3_78r : sR k3_78 k3_o34 k3_77 := yR rfl
@[simp, simp ↓] theorem k3_79r : rS k3_79 k3_60 k3_78 := zS rfl
@[simp, simp ↓] theorem k3_80r : sR k3_80 k3_o31 k3_79 := yR rfl
@[simp, simp ↓] theorem k3_81r : rS k3_81 k3_54 k3_80 := zS rfl
@[simp, simp ↓] theorem k3_82r : rS k3_82 k3_49 k3_81 := zS rfl
@[simp, simp ↓] theorem k3_83r : sR k3_83 k3_o26 k3_82 := yR rfl
@[simp, simp ↓] theorem k3_84r : sR k3_84 k3_o25 k3_83 := yR rfl
@[simp, simp ↓] theorem k3_85r : sR k3_85 k3_o24 k3_84 := yR rfl
@[simp, simp ↓] theorem k3_86r : sR k3_86 k3_o23 k3_85 := yR rfl
@[simp, simp ↓] theorem k3_87r : rS k3_87 k3_40 k3_86 := zS rfl
@[simp, simp ↓] theorem k3_88r : sR k3_88 k3_o20 k3_87 := yR rfl
@[simp, simp ↓] theorem k3_89r : sR k3_89 k3_o19 k3_88 := yR rfl
@[simp, simp ↓] theorem k3_90r : sR k3_90 k3_o18 k3_89 := yR rfl
@[simp, simp ↓] theorem k3_91r : rS k3_91 k3_32 k3_90 := zS rfl
@[simp, simp ↓] theorem k3_92r : rS k3_92 k3_27 k3_91 := zS rfl
@[simp, simp ↓] theorem k3_93r : rS k3_93 k3_22 k3_92 := zS rfl
@[simp, simp ↓] theorem k3_94r : sR k3_94 k3_o11 k3_93 := yR rfl
@[simp, simp ↓] theorem k3_95r : sR k3_95 k3_o10 k3_94 := yR rfl
@[simp, simp ↓] theorem k3_96r : sR k3_96 k3_o9 k3_95 := yR rfl
@[simp, simp ↓] theorem k3_97r : sR k3_97 k3_o8 k3_96 := yR rfl
@[simp, simp ↓] theorem k3_98r : rS k3_98 k3_13 k3_97 := zS rfl
@[simp, simp ↓] theorem k3_99r : sR k3_99 k3_o5 k3_98 := yR rfl
@[simp, simp ↓] theorem k3_100r : rS k3_100 k3_7 k3_99 := zS rfl
@[simp, simp ↓] theorem k3_101r : sR k3_101 k3_o2 k3_100 := yR rfl
@[simp, simp ↓] theorem k3_102r : sR k3_102 k3_o1 k3_101 := yR rfl
@[simp, simp ↓] theorem k3_103r : sR k3_103 k3_o0 k3_102 := yR rfl
noncomputable abbrev k3_C : Orc → Cx := mkC Try.prog [] 3 119 [.tmp 4]
theorem k3_of : OfP Try.prog Try.f3 3 119 k3_C k3_103 := @ofP _ _ _ _ _ _ _ _ Try.func3 (by decide +kernel) rfl (by kernel_rfl) rfl (by kernel_rfl)
theorem k3_of0 : OfP0 Try.prog Try.f3 3 119 k3_C k3_103 := @ofP0 _ _ _ _ _ _ _ _ Try.func3 (by decide +kernel) rfl (by kernel_rfl) rfl (by kernel_rfl)
theorem mb_law (x : List T) (hx : wfB x) (y : List T) (hy : wfB y) : ACalls Try.prog 3 [(.snap 3 (x.map T.av)), (.snap 3 (y.map T.av))] [] (fun v h' => v = .bool true ∧ h' = []) := by
  refine k3_of rfl orcM_p fun I => ?_
  have hx2_x := hx.2
  have hx2_y := hy.2
  refine Run2.of I 1000 ?_
  by_cases kx : (x.length : Int) ≤ (1048576 : Int)
  · have hAx : ¬ (1048576 : Int) < x.length := by omega
    have hBx : ¬ (1048576 : Int) - x.length < 0 := by omega
    have hCx : (0 : Int) ≤ (1048576 : Int) - x.length := by omega
    have lx : x.length ≤ 1048576 := by omega
    have hDx : (1048576 : Int) - x.length ≤ 1048576 := by omega
    by_cases ky : (y.length : Int) ≤ ((1048576 : Int) - x.length)
    · have hAy : ¬ ((1048576 : Int) - x.length) < y.length := by omega
      have hBy : ¬ ((1048576 : Int) - x.length) - y.length < 0 := by omega
      have hCy : (0 : Int) ≤ ((1048576 : Int) - x.length) - y.length := by omega
      have ly : y.length ≤ 1048576 := by omega
      have hDy : ((1048576 : Int) - x.length) - y.length ≤ 1048576 := by omega
      have hct := mbL_len x y
      have ox : okB x := hx.1
      have oy : okB y := hy.1
      simp -implicitDefEqProofs [hx2_x, hx2_y, hAx, hBx, hCx, hDx, kx, hAy, hBy, hCy, hDy, ky]
      first | refine dcallK (toBarS_c x _ lx) ?_ | (refine (toBarS_c x _ lx).mono ?_; rintro v h' ⟨rfl, rfl⟩; refine gK.go ?_)
      simp -implicitDefEqProofs
      first | refine dcallK (toBarS_c y _ ly) ?_ | (refine (toBarS_c y _ ly).mono ?_; rintro v h' ⟨rfl, rfl⟩; refine gK.go ?_)
      simp -implicitDefEqProofs
      first | refine dcallK (specMB_c x y _ lx ly ox oy) ?_ | (refine (specMB_c x y _ lx ly ox oy).mono ?_; rintro v h' ⟨rfl, rfl⟩; refine gK.go ?_)
      simp -implicitDefEqProofs
      refine (toBarS_o x _ lx).monoN ?_
      rintro v0 h' ⟨g0, o0, d0, rfl⟩ n0
      refine gK.go ?_
      simp -implicitDefEqProofs
      refine (toBarS_o y _ ly).monoN ?_
      rintro v1 h' ⟨g1, o1, d1, rfl⟩ n1
      refine gK.go ?_
      simp -implicitDefEqProofs
      have L0 := o0.lentIn T.cold (L := (g1 ++ g0)) (fun p hp => List.mem_append_right _ (hp)) n1
      have L1 := o1.lentIn T.cold (L := (g1 ++ g0)) (fun p hp => List.mem_append_left _ hp) n1
      refine (ACalls.gives (g1 ++ g0) (fun p hp => hp) (S := fun v h' => ∃ w, v = .tup [w, .int .i64 (mbC x y)] ∧ OwnL T.av 3 w (mbL x y) h') ?_ ?_).monoN ?_
      · rw [lend_cons, lend_cons, lend_nil']
        exact ACalls.wk (.cons L0.wk (.cons L1.wk .nil)) (implMB_o x y lx ly ox oy)
      · rintro v h' ⟨w, rfl, ho⟩
        have := ho.own T.own
        exact ⟨by simp [own, owns, this.1], this.2⟩
      rintro v h' ⟨gg, ⟨w, rfl, og⟩, dg, rfl⟩ ng
      refine gK.go ?_
      simp -implicitDefEqProofs
      first | refine dcallK (eqB_own og (.snap (mbL x y)) (fun p hp => List.mem_append_left _ hp) (show (mbL x y).length ≤ 1048576 by have := mbL_len x y; omega)) ?_ | (refine (eqB_own og (.snap (mbL x y)) (fun p hp => List.mem_append_left _ hp) (show (mbL x y).length ≤ 1048576 by have := mbL_len x y; omega)).mono ?_; rintro v h' ⟨rfl, rfl⟩; refine gK.go ?_)
      simp -implicitDefEqProofs
      first | refine dcallK (toBarS_c x _ lx) ?_ | (refine (toBarS_c x _ lx).mono ?_; rintro v h' ⟨rfl, rfl⟩; refine gK.go ?_)
      simp -implicitDefEqProofs
      first | refine dcallK (eqB_own o0 (.snap x) (fun p hp => List.mem_append_right _ (List.mem_append_right _ (hp))) lx) ?_ | (refine (eqB_own o0 (.snap x) (fun p hp => List.mem_append_right _ (List.mem_append_right _ (hp))) lx).mono ?_; rintro v h' ⟨rfl, rfl⟩; refine gK.go ?_)
      simp -implicitDefEqProofs
      first | refine dcallK (toBarS_c y _ ly) ?_ | (refine (toBarS_c y _ ly).mono ?_; rintro v h' ⟨rfl, rfl⟩; refine gK.go ?_)
      simp -implicitDefEqProofs
      first | refine dcallK (eqB_own o1 (.snap y) (fun p hp => List.mem_append_right _ (List.mem_append_left _ hp)) ly) ?_ | (refine (eqB_own o1 (.snap y) (fun p hp => List.mem_append_right _ (List.mem_append_left _ hp)) ly).mono ?_; rintro v h' ⟨rfl, rfl⟩; refine gK.go ?_)
      simp -implicitDefEqProofs
      refine (markB_drop o0 (gg ++ g1) (fun p hp => List.mem_append_right _ (List.mem_append_right _ (hp))) ?_ ?_ (1) (by omega) (by omega)).monoN ?_
      · simpa only [List.append_assoc] using keepL (a := (gg ++ g1)) (b := g0) (by simpa only [List.append_assoc] using ng)
      · exact fun nd => nodupL (a := (gg ++ g1)) (b := g0) (by simpa only [List.append_assoc] using nd)
      rintro _ _ ⟨e1, e2⟩ nk0
      rw [e1, e2]; rw [e2] at nk0
      refine gK.go ?_
      simp -implicitDefEqProofs
      refine (markB_drop o1 gg (fun p hp => List.mem_append_right _ (hp)) ?_ ?_ (1 + 3 * (x.length : Int)) (by omega) (by omega)).monoN ?_
      · simpa only [List.append_assoc] using keepL (a := gg) (b := g1) (by simpa only [List.append_assoc] using nk0)
      · exact fun nd => nodupL (a := gg) (b := g1) (by simpa only [List.append_assoc] using nd)
      rintro _ _ ⟨e1, e2⟩ nk1
      rw [e1, e2]; rw [e2] at nk1
      refine gK.go ?_
      have hk : ¬ (1 + 3 * (x.length : Int) + 3 * (y.length : Int)) < 0 := by omega
      simp -implicitDefEqProofs [hk]
      first | refine dcallK (eqB_own og (.snap (mbL x y)) (fun p hp => hp) (show (mbL x y).length ≤ 1048576 by have := mbL_len x y; omega)) ?_ | (refine (eqB_own og (.snap (mbL x y)) (fun p hp => hp) (show (mbL x y).length ≤ 1048576 by have := mbL_len x y; omega)).mono ?_; rintro v h' ⟨rfl, rfl⟩; refine gK.go ?_)
      simp -implicitDefEqProofs
      skip
      refine (markB_keep og [] (fun p hp => hp) keepN (fun _ => by simp [dom]) 1 (by omega) (by have := (show (mbL x y).length ≤ 1048576 by have := mbL_len x y; omega); omega)).mono ?_
      rintro _ _ ⟨gm, rfl, om, rfl⟩
      refine gK.go ?_
      simp -implicitDefEqProofs
      have hq : ¬ (1 + 3 * ((mbL x y).length : Int) < 0) := by omega
      first | refine dcallK (heldB_own om (fun p hp => hp) 1 (by omega) (by have := (show (mbL x y).length ≤ 1048576 by have := mbL_len x y; omega); simp; omega)) ?_ | (refine (heldB_own om (fun p hp => hp) 1 (by omega) (by have := (show (mbL x y).length ≤ 1048576 by have := mbL_len x y; omega); simp; omega)).mono ?_; rintro v h' ⟨rfl, rfl⟩; refine gK.go ?_)
      simp -implicitDefEqProofs [hq]
      first | refine dcallK (toBarS_c x _ lx) ?_ | (refine (toBarS_c x _ lx).mono ?_; rintro v h' ⟨rfl, rfl⟩; refine gK.go ?_)
      simp -implicitDefEqProofs
      first | refine dcallK (toBarS_c y _ ly) ?_ | (refine (toBarS_c y _ ly).mono ?_; rintro v h' ⟨rfl, rfl⟩; refine gK.go ?_)
      simp -implicitDefEqProofs
      refine (ACalls.gives [] (by simp) (S := fun v h' => ∃ w, v = .tup [w, .int .i64 (mbC x y)] ∧ OwnL T.av 3 w (mbL x y) h') ?_ ?_).mono ?_
      · exact implMB_o x y lx ly ox oy
      · rintro v h' ⟨w, rfl, ho⟩
        have := ho.own T.own
        exact ⟨by simp [own, owns, this.1], this.2⟩
      rintro _ _ ⟨g9, ⟨w9, rfl, o9⟩, d9, rfl⟩
      refine gK.go ?_
      simp -implicitDefEqProofs [hq]
      first | refine dcallK (eqB_own o9 (.snap (mbL x y)) (fun p hp => List.mem_append_left _ hp) (show (mbL x y).length ≤ 1048576 by have := mbL_len x y; omega)) ?_ | (refine (eqB_own o9 (.snap (mbL x y)) (fun p hp => List.mem_append_left _ hp) (show (mbL x y).length ≤ 1048576 by have := mbL_len x y; omega)).mono ?_; rintro v h' ⟨rfl, rfl⟩; refine gK.go ?_)
      simp -implicitDefEqProofs [hq]
      first | refine dcallK (heldB_own om (fun p hp => List.mem_append_right _ hp) 1 (by omega) (by have := (show (mbL x y).length ≤ 1048576 by have := mbL_len x y; omega); simp; omega)) ?_ | (refine (heldB_own om (fun p hp => List.mem_append_right _ hp) 1 (by omega) (by have := (show (mbL x y).length ≤ 1048576 by have := mbL_len x y; omega); simp; omega)).mono ?_; rintro v h' ⟨rfl, rfl⟩; refine gK.go ?_)
      simp -implicitDefEqProofs [hq]
      exact Post.none ⟨rfl, rfl⟩
    · have hAy : ((1048576 : Int) - x.length) < y.length := by omega
      simp -implicitDefEqProofs [hx2_x, hx2_y, hAx, hBx, hCx, hDx, kx, hAy]
      exact .base ⟨rfl, rfl⟩
  · have hAx : (1048576 : Int) < x.length := by omega
    simp -implicitDefEqProofs [hx2_x, hx2_y, hAx]
    exact .base ⟨rfl, rfl⟩
end Go.AG
namespace Go.Proofs.Yteheocdkjmfgdaa
open Go.ChangeShapes Go.WideShapes Go.ChangeAt Go.RowKit Go.AG
theorem own : ownKnob Try.prog.godebug = none := by kernel_rfl
theorem laidOut : laidOutB Try.prog = true := by kernel_rfl
set_option maxRecDepth 100000 in
theorem fnExactMergeBars_lifted (os : Os) (started : os.Started) (H : Type) (enc : TypeId × Value → H) :
    ReturnsInHanded {} Try.checked os 3 .any (Rows.fnExactMergeBarsSpec.pre6 enc Try.prog Try.f3 Rows.fnExactMergeBarsRow.domain false) (Rows.fnExactMergeBarsSpec.post enc Try.prog Try.f3 false true false false) := by
  refine returnsInHanded_of_change (C := Try.checked) own started (by kernel_rfl) Try.func3
    (ChangeSpec.witness6 (enc := enc) (C := Try.checked) false ⟨#[], #[.slice none 0 0, .slice none 0 0], []⟩ 8 (by kernel_rfl) (by kernel_rfl) (by kernel_rfl) (by kernel_rfl)) ?_
  intro W base args ds gs before hval0 hW _ _
  have hval : ∀ (j : Nat) t v, Try.f3.params[j]? = some t → args[j]? = some v → Value.okWide Try.prog W .any base t v := hval0
  refine law_post (tys := [tyB, tyB]) (tb := 4) laidOut rfl (by kernel_rfl) (by kernel_rfl) (by kernel_rfl) (by kernel_rfl) hval hW ?_ ?_ (fun p hp => by simp [laidV] at hp)
  · intro ds h
    match ds, h with
    | [a0, a1], _ => rfl
  · rintro xs ⟨x0, r0, rfl, h0, x1, r1, rfl, h1, hr⟩
    have hr0 : r1 = [] := hr
    subst hr0
    obtain ⟨p0, rfl, q0⟩ := Bars_of_shape h0
    obtain ⟨p1, rfl, q1⟩ := Bars_of_shape h1
    exact mb_law p0 q0 p1 q1
theorem fnExactMergeBars_holds : Rows.FnExactMergeBarsSaid :=
  OpenClaim.holds_of_wide 3 Try.f3 rfl rfl rfl rfl rfl rfl rfl ⟨rfl, rfl, rfl, rfl, rfl⟩ rfl rfl rfl rfl rfl (by kernel_rfl) Try.func3 (by kernel_rfl)
    (of_decide_eq_true (by kernel_rfl)) (by unfold Func.isWrapper; first | (rw [if_pos (by decide +kernel)]; kernel_rfl) | (rw [if_neg (by decide +kernel)]; exact ⟨rfl, rfl⟩))
    (fun os started H enc _ => fnExactMergeBars_lifted os started H enc)
end Go.Proofs.Yteheocdkjmfgdaa
