/- The law FnExactMergesOf is true for every input: the program's MergesOf returns what the reference's returns. -/
import Derived.Test.YtamjnegnoijjlaaMgD
import Derived.Test.YtamjnegnoijjlaaFilL
namespace Go.AG
open Go.Proofs Go.Proofs.Ytamjnegnoijjlaa
set_option linter.unusedSimpArgs false
set_option linter.unusedVariables false
set_option maxRecDepth 4000
theorem Fil.mgs_small {x : Fil} (hl : x.tot ≤ 1048576) : ssTot x.mgs ≤ 1048576 := by
  have h1 := x.mgs_tot
  by_cases hv : x.valid
  · have := hv.1.2; omega
  · unfold Fil.mgs; rw [if_neg hv]; simp [ssTot, sumL]
abbrev k11_o0 : List AJ := [.o ⟨(some 1), none, false, .box false 2 (.t 0), none⟩, .o ⟨(some 2), none, false, .mv (.c (.bool false)), (some [1])⟩]
abbrev k11_o1 : List AJ := [.o ⟨(some 3), none, false, .mv (.c (.int .i64 1048576)), (some [1, 3])⟩]
abbrev k11_o2 : List AJ := [.o ⟨(some 14), none, false, .load 2 true (.t 1), none⟩, .o ⟨(some 15), none, false, .mv (.t 3), none⟩, .o ⟨(some 16), none, false, .call 13 [(.t 14), (.t 15)], none⟩, .o ⟨(some 3), none, false, .mv (.t 16), (some [1, 3])⟩]
abbrev k11_o3 : List AJ := [.o ⟨(some 17), none, false, .mv (.t 3), none⟩, .o ⟨(some 18), none, false, .bin .lss (.t 17) (.c (.int .i64 0)), (some [1, 18])⟩]
abbrev k11_o4 : List AJ := [.o ⟨(some 2), none, false, .mv (.c (.bool true)), (some [2])⟩]
def k11_5 : ACode := .seq (.region k11_o4) .ret
def k11_6 : ACode := .cond (.t 18) k11_5 .skip
def k11_7 : ACode := .seq (.region k11_o3) k11_6
abbrev k11_o5 : List AJ := [.o ⟨(some 20), none, false, .load 2 true (.t 1), none⟩, .o ⟨(some 21), none, false, .call 15 [(.t 20)], none⟩, .o ⟨(some 22), none, false, .call 43 [(.t 21)], none⟩, .o ⟨(some 19), none, false, .mv (.t 22), none⟩, .o ⟨(some 23), none, false, .extract (.t 19) 0, none⟩, .o ⟨(some 24), none, false, .extract (.t 19) 1, none⟩, .o ⟨(some 4), none, false, .mv (.t 23), none⟩, .o ⟨(some 5), none, false, .mv (.t 24), (some [1, 4, 5])⟩]
abbrev k11_o6 : List AJ := [.o ⟨(some 25), none, false, .load 2 true (.t 1), none⟩, .o ⟨(some 26), none, false, .call 15 [(.t 25)], none⟩, .v 6 2 (.agg [.nilsl, .nilsl]) [] (.t 26) (some [1, 4, 5, 6])]
abbrev k11_o7 : List AJ := [.o ⟨(some 28), none, false, .load 2 true (.t 6), none⟩, .o ⟨(some 29), none, false, .call 44 [(.t 28)], none⟩, .o ⟨(some 27), none, false, .mv (.t 29), none⟩, .o ⟨(some 30), none, false, .extract (.t 27) 0, none⟩, .o ⟨(some 31), none, false, .extract (.t 27) 1, none⟩, .o ⟨(some 7), none, false, .mv (.t 30), none⟩, .o ⟨(some 8), none, false, .mv (.t 31), (some [1, 4, 5, 6, 7, 8])⟩]
abbrev k11_o8 : List AJ := [.o ⟨(some 32), none, false, .mv (.t 7), none⟩, .o ⟨(some 33), none, false, .mv (.t 4), none⟩, .o ⟨(some 34), none, false, .call 45 [(.t 32), (.t 33)], none⟩, .o ⟨(some 35), none, false, .un .not (.t 34), none⟩, .o ⟨(some 36), none, false, .mv (.t 35), none⟩, .o ⟨(some 37), (some (36, false)), false, .mv (.t 8), none⟩, .o ⟨(some 38), (some (36, false)), false, .mv (.t 5), none⟩, .o ⟨(some 39), (some (36, false)), false, .bin .neq (.t 37) (.t 38), none⟩, .o ⟨(some 40), none, false, .pick (.t 36) (.c (.bool true)) (.t 39), (some [1, 4, 5, 6, 7, 8, 40])⟩]
abbrev k11_o9 : List AJ := [.o ⟨(some 2), none, false, .mv (.c (.bool false)), (some [2])⟩]
def k11_13 : ACode := .seq (.region k11_o9) .ret
def k11_14 : ACode := .cond (.t 40) k11_13 .skip
def k11_15 : ACode := .seq (.region k11_o8) k11_14
abbrev k11_o10 : List AI := [⟨(some 41), none, false, .load 2 true (.t 6), none⟩, ⟨(some 42), none, false, .load 2 true (.t 1), none⟩, ⟨(some 43), none, false, .call 15 [(.t 42)], none⟩, ⟨(some 44), none, false, .call 17 [(.t 41), (.t 43)], none⟩, ⟨(some 45), none, false, .un .not (.t 44), (some [1, 4, 5, 6, 7, 8, 45])⟩]
abbrev k11_o11 : List AJ := [.o ⟨(some 2), none, false, .mv (.c (.bool false)), (some [2])⟩]
def k11_18 : ACode := .seq (.region k11_o11) .ret
def k11_19 : ACode := .cond (.t 45) k11_18 .skip
def k11_20 : ACode := .seq (.draw k11_o10 [] rfl) k11_19
abbrev k11_o12 : List AJ := [.o ⟨(some 9), none, false, .mv (.c (.int .i64 1)), (some [1, 4, 5, 6, 7, 8, 9])⟩]
abbrev k11_o13 : List AJ := [.o ⟨(some 46), none, false, .load 2 true (.t 6), none⟩, .o ⟨(some 47), none, false, .mv (.t 9), none⟩, .o ⟨(some 48), none, false, .call 21 [(.t 46), (.t 47)], none⟩, .o ⟨(some 9), none, false, .mv (.t 48), (some [1, 4, 5, 7, 8, 9])⟩]
abbrev k11_o14 : List AJ := [.o ⟨(some 49), none, false, .mv (.t 9), none⟩, .o ⟨(some 50), none, false, .bin .lss (.t 49) (.c (.int .i64 0)), none⟩, .o ⟨(some 51), none, false, .mv (.t 50), none⟩, .o ⟨(some 52), (some (51, false)), false, .mv (.t 7), none⟩, .o ⟨(some 53), (some (51, false)), false, .mv (.t 4), none⟩, .o ⟨(some 54), (some (51, false)), false, .call 45 [(.t 52), (.t 53)], none⟩, .o ⟨(some 55), (some (51, false)), false, .un .not (.t 54), none⟩, .o ⟨(some 56), none, false, .pick (.t 51) (.c (.bool true)) (.t 55), none⟩, .o ⟨(some 57), none, false, .mv (.t 56), none⟩, .o ⟨(some 58), (some (57, false)), false, .mv (.t 8), (some [1, 4, 5, 7, 57, 58])⟩, .o ⟨(some 59), (some (57, false)), false, .mv (.t 5), none⟩, .o ⟨(some 60), (some (57, false)), false, .bin .neq (.t 58) (.t 59), none⟩, .o ⟨(some 61), none, false, .pick (.t 57) (.c (.bool true)) (.t 60), (some [1, 4, 5, 7, 61])⟩]
abbrev k11_o15 : List AJ := [.o ⟨(some 2), none, false, .mv (.c (.bool false)), (some [2])⟩]
def k11_25 : ACode := .seq (.region k11_o15) .ret
def k11_26 : ACode := .cond (.t 61) k11_25 .skip
def k11_27 : ACode := .seq (.region k11_o14) k11_26
abbrev k11_o16 : List AJ := [.o ⟨(some 10), none, false, .mv (.c (.int .i64 1)), (some [1, 4, 5, 7, 10])⟩]
abbrev k11_o17 : List AJ := [.o ⟨(some 62), none, false, .mv (.t 7), none⟩, .o ⟨(some 63), none, false, .mv (.t 10), none⟩, .o ⟨(some 64), none, false, .call 46 [(.t 62), (.t 63)], none⟩, .o ⟨(some 10), none, false, .mv (.t 64), (some [1, 4, 5, 7, 10])⟩]
abbrev k11_o18 : List AJ := [.o ⟨(some 11), none, false, .mv (.c (.int .i64 1)), (some [1, 4, 5, 7, 10, 11])⟩]
abbrev k11_o19 : List AJ := [.o ⟨(some 65), none, false, .mv (.t 7), none⟩, .o ⟨(some 66), none, false, .mv (.t 11), none⟩, .o ⟨(some 67), none, false, .call 47 [(.t 65), (.t 66)], none⟩, .o ⟨(some 11), none, false, .mv (.t 67), (some [1, 4, 5, 7, 10, 11])⟩]
abbrev k11_o20 : List AJ := [.o ⟨(some 68), none, false, .mv (.t 11), none⟩, .o ⟨(some 69), none, false, .bin .lss (.t 68) (.c (.int .i64 0)), (some [1, 4, 5, 7, 10, 11, 69])⟩]
abbrev k11_o21 : List AJ := [.o ⟨(some 2), none, false, .mv (.c (.bool false)), (some [2])⟩]
def k11_34 : ACode := .seq (.region k11_o21) .ret
def k11_35 : ACode := .cond (.t 69) k11_34 .skip
def k11_36 : ACode := .seq (.region k11_o20) k11_35
abbrev k11_o22 : List AJ := [.o ⟨(some 70), none, false, .mv (.t 11), none⟩, .o ⟨(some 71), none, false, .mv (.t 10), none⟩, .o ⟨(some 72), none, false, .bin .neq (.t 70) (.t 71), (some [1, 4, 5, 7, 10, 72])⟩]
abbrev k11_o23 : List AJ := [.o ⟨(some 2), none, false, .mv (.c (.bool false)), (some [2])⟩]
def k11_39 : ACode := .seq (.region k11_o23) .ret
def k11_40 : ACode := .cond (.t 72) k11_39 .skip
def k11_41 : ACode := .seq (.region k11_o22) k11_40
abbrev k11_o24 : List AJ := [.o ⟨(some 74), none, false, .load 2 true (.t 1), none⟩, .o ⟨(some 75), none, false, .call 15 [(.t 74)], none⟩, .o ⟨(some 76), none, false, .call 44 [(.t 75)], none⟩, .o ⟨(some 73), none, false, .mv (.t 76), none⟩, .o ⟨(some 77), none, false, .extract (.t 73) 0, none⟩, .o ⟨(some 78), none, false, .extract (.t 73) 1, none⟩, .o ⟨(some 12), none, false, .mv (.t 77), none⟩, .o ⟨(some 13), none, false, .mv (.t 78), (some [4, 5, 7, 10, 12, 13])⟩]
abbrev k11_o25 : List AJ := [.o ⟨(some 79), none, false, .mv (.t 12), none⟩, .o ⟨(some 80), none, false, .mv (.t 4), none⟩, .o ⟨(some 81), none, false, .call 45 [(.t 79), (.t 80)], none⟩, .o ⟨(some 82), none, false, .un .not (.t 81), none⟩, .o ⟨(some 83), none, false, .mv (.t 82), none⟩, .o ⟨(some 84), (some (83, false)), false, .mv (.t 13), none⟩, .o ⟨(some 85), (some (83, false)), false, .mv (.t 5), none⟩, .o ⟨(some 86), (some (83, false)), false, .bin .neq (.t 84) (.t 85), none⟩, .o ⟨(some 87), none, false, .pick (.t 83) (.c (.bool true)) (.t 86), (some [7, 10, 87])⟩]
abbrev k11_o26 : List AJ := [.o ⟨(some 2), none, false, .mv (.c (.bool false)), (some [2])⟩]
def k11_45 : ACode := .seq (.region k11_o26) .ret
def k11_46 : ACode := .cond (.t 87) k11_45 .skip
def k11_47 : ACode := .seq (.region k11_o25) k11_46
abbrev k11_o27 : List AJ := [.o ⟨(some 11), none, false, .mv (.c (.int .i64 1)), (some [7, 10, 11])⟩]
abbrev k11_o28 : List AJ := [.o ⟨(some 88), none, false, .mv (.t 7), none⟩, .o ⟨(some 89), none, false, .mv (.t 11), none⟩, .o ⟨(some 90), none, false, .call 47 [(.t 88), (.t 89)], none⟩, .o ⟨(some 11), none, false, .mv (.t 90), (some [10, 11])⟩]
abbrev k11_o29 : List AJ := [.o ⟨(some 91), none, false, .mv (.t 11), none⟩, .o ⟨(some 92), none, false, .bin .lss (.t 91) (.c (.int .i64 0)), (some [10, 11, 92])⟩]
abbrev k11_o30 : List AJ := [.o ⟨(some 2), none, false, .mv (.c (.bool false)), (some [2])⟩]
def k11_52 : ACode := .seq (.region k11_o30) .ret
def k11_53 : ACode := .cond (.t 92) k11_52 .skip
def k11_54 : ACode := .seq (.region k11_o29) k11_53
abbrev k11_o31 : List AJ := [.o ⟨(some 93), none, false, .mv (.t 11), none⟩, .o ⟨(some 94), none, false, .mv (.t 10), none⟩, .o ⟨(some 95), none, false, .bin .neq (.t 93) (.t 94), (some [95])⟩]
abbrev k11_o32 : List AJ := [.o ⟨(some 2), none, false, .mv (.c (.bool false)), (some [2])⟩]
def k11_57 : ACode := .seq (.region k11_o32) .ret
def k11_58 : ACode := .cond (.t 95) k11_57 .skip
def k11_59 : ACode := .seq (.region k11_o31) k11_58
abbrev k11_o33 : List AJ := [.o ⟨(some 2), none, false, .mv (.c (.bool true)), (some [2])⟩]
def k11_61 : ACode := .seq (.region k11_o33) .ret
def k11_62 : ACode := .seq k11_59 k11_61
def k11_63 : ACode := .seq k11_54 k11_62
def k11_64 : ACode := .seq (.region k11_o28) k11_63
def k11_65 : ACode := .seq (.region k11_o27) k11_64
def k11_66 : ACode := .seq k11_47 k11_65
def k11_67 : ACode := .seq (.region k11_o24) k11_66
def k11_68 : ACode := .seq k11_41 k11_67
def k11_69 : ACode := .seq k11_36 k11_68
def k11_70 : ACode := .seq (.region k11_o19) k11_69
def k11_71 : ACode := .seq (.region k11_o18) k11_70
def k11_72 : ACode := .seq (.region k11_o17) k11_71
def k11_73 : ACode := .seq (.region k11_o16) k11_72
def k11_74 : ACode := .seq k11_27 k11_73
def k11_75 : ACode := .seq (.region k11_o13) k11_74
def k11_76 : ACode := .seq (.region k11_o12) k11_75
def k11_77 : ACode := .seq k11_20 k11_76
def k11_78 : ACode := .seq k11_15 k11_77
def k11_79 : ACode := .seq (.region k11_o7) k11_78
def k11_80 : ACode := .seq (.region k11_o6) k11_79
def k11_81 : ACode := .seq (.region k11_o5) k11_80
def k11_82 : ACode := .seq k11_7 k11_81
def k11_83 : ACode := .seq (.region k11_o2) k11_82
def k11_84 : ACode := .seq (.region k11_o1) k11_83
def k11_85 : ACode := .seq (.region k11_o0) k11_84
@[simp, simp ↓] theorem k11_5r : sR k11_5 k11_o4 .ret := yR rfl
@[simp, simp ↓] theorem k11_6r : rC k11_6 (.t 18) k11_5 .skip := zC rfl
@[simp, simp ↓] theorem k11_7r : sR k11_7 k11_o3 k11_6 := yR rfl
@[simp, simp ↓] theorem k11_13r : sR k11_13 k11_o9 .ret := yR rfl
@[simp, simp ↓] theorem k11_14r : rC k11_14 (.t 40) k11_13 .skip := zC rfl
@[simp, simp ↓] theorem k11_15r : sR k11_15 k11_o8 k11_14 := yR rfl
@[simp, simp ↓] theorem k11_18r : sR k11_18 k11_o11 .ret := yR rfl
@[simp, simp ↓] theorem k11_19r : rC k11_19 (.t 45) k11_18 .skip := zC rfl
@[simp, simp ↓] theorem k11_20r : sD k11_20 k11_o10 [] k11_19 := yD rfl
@[simp, simp ↓] theorem k11_25r : sR k11_25 k11_o15 .ret := yR rfl
@[simp, simp ↓] theorem k11_26r : rC k11_26 (.t 61) k11_25 .skip := zC rfl
@[simp, simp ↓] theorem k11_27r : sR k11_27 k11_o14 k11_26 := yR rfl
@[simp, simp ↓] theorem k11_34r : sR k11_34 k11_o21 .ret := yR rfl
@[simp, simp ↓] theorem k11_35r : rC k11_35 (.t 69) k11_34 .skip := zC rfl
@[simp, simp ↓] theorem k11_36r : sR k11_36 k11_o20 k11_35 := yR rfl
@[simp, simp ↓] theorem k11_39r : sR k11_39 k11_o23 .ret := yR rfl
@[simp, simp ↓] theorem k11_40r : rC k11_40 (.t 72) k11_39 .skip := zC rfl
@[simp, simp ↓] theorem k11_41r : sR k11_41 k11_o22 k11_40 := yR rfl
@[simp, simp ↓] theorem k11_45r : sR k11_45 k11_o26 .ret := yR rfl
@[simp, simp ↓] theorem k11_46r : rC k11_46 (.t 87) k11_45 .skip := zC rfl
@[simp, simp ↓] theorem k11_47r : sR k11_47 k11_o25 k11_46 := yR rfl
@[simp, simp ↓] theorem k11_52r : sR k11_52 k11_o30 .ret := yR rfl
@[simp, simp ↓] theorem k11_53r : rC k11_53 (.t 92) k11_52 .skip := zC rfl
@[simp, simp ↓] theorem k11_54r : sR k11_54 k11_o29 k11_53 := yR rfl
@[simp, simp ↓] theorem k11_57r : sR k11_57 k11_o32 .ret := yR rfl
@[simp, simp ↓] theorem k11_58r : rC k11_58 (.t 95) k11_57 .skip := zC rfl
@[simp, simp ↓] theorem k11_59r : sR k11_59 k11_o31 k11_58 := yR rfl
@[simp, simp ↓] theorem k11_61r : sR k11_61 k11_o33 .ret := yR rfl
@[simp, simp ↓] theorem k11_62r : rS k11_62 k11_59 k11_61 := zS rfl
@[simp, simp ↓] theorem k11_63r : rS k11_63 k11_54 k11_62 := zS rfl
@[simp, simp ↓] theorem k11_64r : sR k11_64 k11_o28 k11_63 := yR rfl
@[simp, simp ↓] theorem k11_65r : sR k11_65 k11_o27 k11_64 := yR rfl
@[simp, simp ↓] theorem k11_66r : rS k11_66 k11_47 k11_65 := zS rfl
@[simp, simp ↓] theorem k11_67r : sR k11_67 k11_o24 k11_66 := yR rfl
@[simp, simp ↓] theorem k11_68r : rS k11_68 k11_41 k11_67 := zS rfl
@[simp, simp ↓] theorem k11_69r : rS k11_69 k11_36 k11_68 := zS rfl
@[simp, simp ↓] theorem k11_70r : sR k11_70 k11_o19 k11_69 := yR rfl
@[simp, simp ↓] theorem k11_71r : sR k11_71 k11_o18 k11_70 := yR rfl
@[simp, simp ↓] theorem k11_72r : sR k11_72 k11_o17 k11_71 := yR rfl
@[simp, simp ↓] theorem k11_73r : sR k11_73 k11_o16 k11_72 := yR rfl
@[simp, simp ↓] theorem k11_74r : rS k11_74 k11_27 k11_73 := zS rfl
@[simp, simp ↓] theorem k11_75r : sR k11_75 k11_o13 k11_74 := yR rfl
@[simp, simp ↓] theorem k11_76r : sR k11_76 k11_o12 k11_75 := yR rfl
@[simp, simp ↓] theorem k11_77r : rS k11_77 k11_20 k11_76 := zS rfl
@[simp, simp ↓] theorem k11_78r : rS k11_78 k11_15 k11_77 := zS rfl
@[simp, simp ↓] theorem k11_79r : sR k11_79 k11_o7 k11_78 := yR rfl
@[simp, simp ↓] theorem k11_80r : sR k11_80 k11_o6 k11_79 := yR rfl
@[simp, simp ↓] theorem k11_81r : sR k11_81 k11_o5 k11_80 := yR rfl
@[simp, simp ↓] theorem k11_82r : rS k11_82 k11_7 k11_81 := zS rfl
@[simp, simp ↓] theorem k11_83r : sR k11_83 k11_o2 k11_82 := yR rfl
@[simp, simp ↓] theorem k11_84r : sR k11_84 k11_o1 k11_83 := yR rfl
@[simp, simp ↓] theorem k11_85r : sR k11_85 k11_o0 k11_84 := yR rfl
noncomputable abbrev k11_C : Orc → Cx := mkC Try.prog [6] 11 96 [.tmp 2]
theorem k11_of : OfP Try.prog Try.f11 11 96 k11_C k11_85 := @ofP _ _ _ _ _ _ _ _ Try.func11 (by decide +kernel) rfl (by kernel_rfl) rfl (by kernel_rfl)
theorem k11_of0 : OfP0 Try.prog Try.f11 11 96 k11_C k11_85 := @ofP0 _ _ _ _ _ _ _ _ Try.func11 (by decide +kernel) rfl (by kernel_rfl) rfl (by kernel_rfl)
theorem mg_law (x : Fil) (hx : x.wf) : ACalls Try.prog 11 [x.av] [] (fun v h' => v = .bool true ∧ h' = []) := by
  refine k11_of rfl orcM_p fun I => ?_
  have hx2_x := hx
  refine Run2.of I 1000 ?_
  by_cases kx : (x.tot : Int) ≤ (1048576 : Int)
  · have hAx : ¬ (1048576 : Int) < x.tot := by omega
    have hBx : ¬ (1048576 : Int) - x.tot < 0 := by omega
    have hCx : (0 : Int) ≤ (1048576 : Int) - x.tot := by omega
    have lx : x.tot ≤ 1048576 := by omega
    have hDx : (1048576 : Int) - x.tot ≤ 1048576 := by omega
    have hsr := (show sumL x.mgs ≤ ssTot x.mgs by unfold ssTot; omega)
    have htt := x.mgs_small lx
    simp -implicitDefEqProofs [hx2_x, hAx, hBx, hCx, hDx, kx]
    first | refine dcallK (toFil_c x _ lx) ?_ | (refine (toFil_c x _ lx).mono ?_; rintro v h' ⟨rfl, rfl⟩; refine gK.go ?_)
    simp -implicitDefEqProofs
    first | refine dcallK (specMg_c x _ lx) ?_ | (refine (specMg_c x _ lx).mono ?_; rintro v h' ⟨rfl, rfl⟩; refine gK.go ?_)
    simp -implicitDefEqProofs
    refine (toFil_o x _ lx).monoN ?_
    rintro v0 h' ⟨g0, o0, d0, rfl⟩ n0
    obtain ⟨pu0, pw0, pa0, pb0, rfl, pou0, pow0, phd0, phe0⟩ := id o0
    have c0 := pou0.cell
    have c0_1 := pow0.cell
    refine gK.go ?_
    simp -implicitDefEqProofs [c0, c0_1]
    simp only [List.append_nil] at n0
    have L0 := o0.lentMid (A := []) (B := []) (by simpa only [List.nil_append, List.append_nil, List.append_assoc] using n0)
    simp only [List.nil_append, List.append_nil, List.append_assoc] at L0
    refine (ACalls.gives g0 (fun p hp => hp) (S := fun v h' => ∃ w, v = .tup [w, .int .i64 (x.mgC)] ∧ OwnLL w (x.mgs) h') ?_ ?_).monoN ?_
    · rw [lend_cons, lend_nil']
      exact ACalls.wk (.cons L0.wk .nil) (implMg_o x lx)
    · rintro v h' ⟨w, rfl, ho⟩
      have := ho.own
      exact ⟨by simp [own, owns, this.1], this.2⟩
    rintro v h' ⟨gg, ⟨w, rfl, og⟩, dg, rfl⟩ ng
    refine gK.go ?_
    simp -implicitDefEqProofs [c0, c0_1]
    first | refine dcallK (eqL_own og (.is (x.mgs)) (fun p hp => List.mem_append_left _ hp) (x.mgs_small lx)) ?_ | (refine (eqL_own og (.is (x.mgs)) (fun p hp => List.mem_append_left _ hp) (x.mgs_small lx)).mono ?_; rintro v h' ⟨rfl, rfl⟩; refine gK.go ?_)
    simp -implicitDefEqProofs [c0, c0_1]
    first | refine dcallK (toFil_c x _ lx) ?_ | (refine (toFil_c x _ lx).mono ?_; rintro v h' ⟨rfl, rfl⟩; refine gK.go ?_)
    simp -implicitDefEqProofs [c0, c0_1]
    first | refine dcallK (eqFil_own o0 x.is (fun p hp => List.mem_append_right _ (hp)) lx) ?_ | (refine (eqFil_own o0 x.is (fun p hp => List.mem_append_right _ (hp)) lx).mono ?_; rintro v h' ⟨rfl, rfl⟩; refine gK.go ?_)
    simp -implicitDefEqProofs [c0, c0_1]
    refine (markFil_drop o0 gg (fun p hp => List.mem_append_right _ (hp)) ?_ ?_ (1) (by omega) (by omega)).monoN ?_
    · simpa only [List.append_assoc] using keepL (a := gg) (b := g0) (by simpa only [List.append_assoc] using ng)
    · exact fun nd => nodupL (a := gg) (b := g0) (by simpa only [List.append_assoc] using nd)
    rintro _ _ ⟨e1, e2⟩ nk0
    rw [e1, e2]; rw [e2] at nk0
    refine gK.go ?_
    have hk : ¬ (1 + ((x).cnt : Int)) < 0 := by omega
    simp -implicitDefEqProofs [c0, c0_1, hk]
    first | refine dcallK (eqL_own og (.is (x.mgs)) (fun p hp => hp) (x.mgs_small lx)) ?_ | (refine (eqL_own og (.is (x.mgs)) (fun p hp => hp) (x.mgs_small lx)).mono ?_; rintro v h' ⟨rfl, rfl⟩; refine gK.go ?_)
    simp -implicitDefEqProofs [c0, c0_1]
    skip
    refine (markL_keep og [] (fun p hp => hp) keepN (fun _ => by simp [dom]) 1 (by omega) (by have := (x.mgs_small lx); omega)).mono ?_
    rintro _ _ ⟨gm, rfl, om, rfl⟩
    refine gK.go ?_
    simp -implicitDefEqProofs [c0, c0_1]
    have hq : ¬ (1 + (sumL (x.mgs) : Int) < 0) := by omega
    first | refine dcallK (heldL_own om (fun p hp => hp) 1 (by omega) (by have := (x.mgs_small lx); simp; omega)) ?_ | (refine (heldL_own om (fun p hp => hp) 1 (by omega) (by have := (x.mgs_small lx); simp; omega)).mono ?_; rintro v h' ⟨rfl, rfl⟩; refine gK.go ?_)
    simp -implicitDefEqProofs [c0, c0_1, hq]
    first | refine dcallK (toFil_c x _ lx) ?_ | (refine (toFil_c x _ lx).mono ?_; rintro v h' ⟨rfl, rfl⟩; refine gK.go ?_)
    simp -implicitDefEqProofs [c0, c0_1]
    refine (ACalls.gives [] (by simp) (S := fun v h' => ∃ w, v = .tup [w, .int .i64 (x.mgC)] ∧ OwnLL w (x.mgs) h') ?_ ?_).mono ?_
    · exact implMg_o x lx
    · rintro v h' ⟨w, rfl, ho⟩
      have := ho.own
      exact ⟨by simp [own, owns, this.1], this.2⟩
    rintro _ _ ⟨g9, ⟨w9, rfl, o9⟩, d9, rfl⟩
    refine gK.go ?_
    simp -implicitDefEqProofs [c0, c0_1, hq]
    first | refine dcallK (eqL_own o9 (.is (x.mgs)) (fun p hp => List.mem_append_left _ hp) (x.mgs_small lx)) ?_ | (refine (eqL_own o9 (.is (x.mgs)) (fun p hp => List.mem_append_left _ hp) (x.mgs_small lx)).mono ?_; rintro v h' ⟨rfl, rfl⟩; refine gK.go ?_)
    simp -implicitDefEqProofs [c0, c0_1, hq]
    first | refine dcallK (heldL_own om (fun p hp => List.mem_append_right _ hp) 1 (by omega) (by have := (x.mgs_small lx); simp; omega)) ?_ | (refine (heldL_own om (fun p hp => List.mem_append_right _ hp) 1 (by omega) (by have := (x.mgs_small lx); simp; omega)).mono ?_; rintro v h' ⟨rfl, rfl⟩; refine gK.go ?_)
    simp -implicitDefEqProofs [c0, c0_1, hq]
    exact Post.none ⟨rfl, rfl⟩
  · have hAx : (1048576 : Int) < x.tot := by omega
    simp -implicitDefEqProofs [hx2_x, hAx]
    exact .base ⟨rfl, rfl⟩
end Go.AG
namespace Go.Proofs.Ytamjnegnoijjlaa
open Go.ChangeShapes Go.WideShapes Go.ChangeAt Go.RowKit Go.AG
theorem own : ownKnob Try.prog.godebug = none := by kernel_rfl
theorem laidOut : laidOutB Try.prog = true := by kernel_rfl
set_option maxRecDepth 100000 in
theorem fnExactMergesOf_lifted (os : Os) (started : os.Started) (H : Type) (enc : TypeId × Value → H) :
    ReturnsInHanded {} Try.checked os 11 .any (Rows.fnExactMergesOfSpec.pre6 enc Try.prog Try.f11 Rows.fnExactMergesOfRow.domain false) (Rows.fnExactMergesOfSpec.post enc Try.prog Try.f11 false true false false) := by
  refine returnsInHanded_of_change (C := Try.checked) own started (by kernel_rfl) Try.func11
    (ChangeSpec.witness6 (enc := enc) (C := Try.checked) false ⟨#[], #[.agg #[.slice none 0 0, .slice none 0 0]], []⟩ 8 (by kernel_rfl) (by kernel_rfl) (by kernel_rfl) (by kernel_rfl)) ?_
  intro W base args ds gs before hval0 hW _ _
  have hval : ∀ (j : Nat) t v, Try.f11.params[j]? = some t → args[j]? = some v → Value.okWide Try.prog W .any base t v := hval0
  refine law_post (tys := [tyF]) (tb := 4) laidOut rfl (by kernel_rfl) (by kernel_rfl) (by kernel_rfl) (by kernel_rfl) hval hW ?_ ?_
  · intro ds h
    match ds, h with
    | [a0], _ => rfl
  · rintro xs ⟨x0, r0, rfl, h0, hr⟩
    have hr0 : r0 = [] := hr
    subst hr0
    obtain ⟨p0, rfl, q0⟩ := Fil_of_shape h0
    exact mg_law p0 q0
theorem fnExactMergesOf_holds : Rows.FnExactMergesOfSaid :=
  OpenClaim.holds_of_wide 11 Try.f11 rfl rfl rfl rfl rfl rfl rfl ⟨rfl, rfl, rfl, rfl, rfl⟩ rfl rfl rfl rfl rfl (by kernel_rfl) Try.func11 (by kernel_rfl)
    (of_decide_eq_true (by kernel_rfl)) (by unfold Func.isWrapper; first | (rw [if_pos (by decide +kernel)]; kernel_rfl) | (rw [if_neg (by decide +kernel)]; exact ⟨rfl, rfl⟩))
    (fun os started H enc _ => fnExactMergesOf_lifted os started H enc)
end Go.Proofs.Ytamjnegnoijjlaa
