/- The law FnExactPotentialOf is true for every input: the program's PotentialOf returns what the reference's returns. -/
import Derived.Test.YtknonamjhdlmlaaPhPotI
namespace Go.AG
open Go.Proofs Go.Proofs.Ytknonamjhdlmlaa
set_option linter.unusedSimpArgs false
set_option linter.unusedVariables false
set_option maxRecDepth 4000
noncomputable def orcM : List (Nat × (List AV → Option (Prop × AV))) := (14, o_szPhases) :: []
theorem orcM_p : Pure Try.prog (lk orcM) := (lk_pure o_szPhases_k lk_pure0)
@[simp] theorem orcM_l (g : FuncId) (l : List AV) : lk orcM g l = if g = 14 then o_szPhases l else none := nr rfl
abbrev c_laws_FnExactPotentialOf_o0 : List AJ := [.o ⟨(some 1), none, false, .box false 3 (.t 0), none⟩, .o ⟨(some 2), none, false, .mv (.c (.bool false)), (some [1])⟩]
def c_laws_FnExactPotentialOf_0 : ACode := .region c_laws_FnExactPotentialOf_o0
abbrev c_laws_FnExactPotentialOf_o1 : List AJ := [.o ⟨(some 3), none, false, .mv (.c (.int .i64 1048576)), (some [1, 3])⟩]
def c_laws_FnExactPotentialOf_1 : ACode := .region c_laws_FnExactPotentialOf_o1
abbrev c_laws_FnExactPotentialOf_o2 : List AJ := [.o ⟨(some 14), none, false, .load 3 true (.t 1), none⟩, .o ⟨(some 15), none, false, .mv (.t 3), none⟩, .o ⟨(some 16), none, false, .call 14 [(.t 14), (.t 15)], none⟩, .o ⟨(some 3), none, false, .mv (.t 16), (some [1, 3])⟩]
def c_laws_FnExactPotentialOf_2 : ACode := .region c_laws_FnExactPotentialOf_o2
abbrev c_laws_FnExactPotentialOf_o3 : List AJ := [.o ⟨(some 17), none, false, .mv (.t 3), none⟩, .o ⟨(some 18), none, false, .bin .lss (.t 17) (.c (.int .i64 0)), (some [1, 18])⟩]
def c_laws_FnExactPotentialOf_3 : ACode := .region c_laws_FnExactPotentialOf_o3
abbrev c_laws_FnExactPotentialOf_o4 : List AJ := [.o ⟨(some 2), none, false, .mv (.c (.bool true)), (some [2])⟩]
def c_laws_FnExactPotentialOf_4 : ACode := .region c_laws_FnExactPotentialOf_o4
def c_laws_FnExactPotentialOf_5 : ACode := .seq c_laws_FnExactPotentialOf_4 .ret
def c_laws_FnExactPotentialOf_6 : ACode := .cond (.t 18) c_laws_FnExactPotentialOf_5 .skip
def c_laws_FnExactPotentialOf_7 : ACode := .seq c_laws_FnExactPotentialOf_3 c_laws_FnExactPotentialOf_6
abbrev c_laws_FnExactPotentialOf_o5 : List AJ := [.o ⟨(some 20), none, false, .load 3 true (.t 1), none⟩, .o ⟨(some 21), none, false, .call 16 [(.t 20)], none⟩, .o ⟨(some 22), none, false, .call 37 [(.t 21)], none⟩, .o ⟨(some 19), none, false, .mv (.t 22), none⟩, .o ⟨(some 23), none, false, .extract (.t 19) 0, none⟩, .o ⟨(some 24), none, false, .extract (.t 19) 1, none⟩, .o ⟨(some 4), none, false, .mv (.t 23), none⟩, .o ⟨(some 5), none, false, .mv (.t 24), (some [1, 4, 5])⟩]
def c_laws_FnExactPotentialOf_8 : ACode := .region c_laws_FnExactPotentialOf_o5
abbrev c_laws_FnExactPotentialOf_o6 : List AJ := [.o ⟨(some 25), none, false, .load 3 true (.t 1), none⟩, .o ⟨(some 26), none, false, .call 16 [(.t 25)], none⟩, .v 6 3 (.agg [(.int .i64 0), (.int .i64 0), .nilsl]) [] (.t 26) (some [1, 4, 5, 6])]
def c_laws_FnExactPotentialOf_9 : ACode := .region c_laws_FnExactPotentialOf_o6
abbrev c_laws_FnExactPotentialOf_o7 : List AJ := [.o ⟨(some 28), none, false, .load 3 true (.t 6), none⟩, .o ⟨(some 29), none, false, .call 38 [(.t 28)], none⟩, .o ⟨(some 27), none, false, .mv (.t 29), none⟩, .o ⟨(some 30), none, false, .extract (.t 27) 0, none⟩, .o ⟨(some 31), none, false, .extract (.t 27) 1, none⟩, .o ⟨(some 7), none, false, .mv (.t 30), none⟩, .o ⟨(some 8), none, false, .mv (.t 31), (some [1, 4, 5, 6, 7, 8])⟩]
def c_laws_FnExactPotentialOf_10 : ACode := .region c_laws_FnExactPotentialOf_o7
abbrev c_laws_FnExactPotentialOf_o8 : List AJ := [.o ⟨(some 32), none, false, .mv (.t 7), none⟩, .o ⟨(some 33), none, false, .mv (.t 4), none⟩, .o ⟨(some 34), none, false, .call 24 [(.t 32), (.t 33)], none⟩, .o ⟨(some 35), none, false, .un .not (.t 34), none⟩, .o ⟨(some 36), none, false, .mv (.t 35), none⟩, .o ⟨(some 37), (some (36, false)), false, .mv (.t 8), none⟩, .o ⟨(some 38), (some (36, false)), false, .mv (.t 5), none⟩, .o ⟨(some 39), (some (36, false)), false, .bin .neq (.t 37) (.t 38), none⟩, .o ⟨(some 40), none, false, .pick (.t 36) (.c (.bool true)) (.t 39), (some [1, 4, 5, 6, 7, 8, 40])⟩]
def c_laws_FnExactPotentialOf_11 : ACode := .region c_laws_FnExactPotentialOf_o8
abbrev c_laws_FnExactPotentialOf_o9 : List AJ := [.o ⟨(some 2), none, false, .mv (.c (.bool false)), (some [2])⟩]
def c_laws_FnExactPotentialOf_12 : ACode := .region c_laws_FnExactPotentialOf_o9
def c_laws_FnExactPotentialOf_13 : ACode := .seq c_laws_FnExactPotentialOf_12 .ret
def c_laws_FnExactPotentialOf_14 : ACode := .cond (.t 40) c_laws_FnExactPotentialOf_13 .skip
def c_laws_FnExactPotentialOf_15 : ACode := .seq c_laws_FnExactPotentialOf_11 c_laws_FnExactPotentialOf_14
abbrev c_laws_FnExactPotentialOf_o10 : List AI := [⟨(some 41), none, false, .load 3 true (.t 6), none⟩, ⟨(some 42), none, false, .load 3 true (.t 1), none⟩, ⟨(some 43), none, false, .call 16 [(.t 42)], none⟩, ⟨(some 44), none, false, .call 18 [(.t 41), (.t 43)], none⟩, ⟨(some 45), none, false, .un .not (.t 44), (some [1, 4, 5, 6, 7, 8, 45])⟩]
def c_laws_FnExactPotentialOf_16 : ACode := .draw c_laws_FnExactPotentialOf_o10 [] rfl
abbrev c_laws_FnExactPotentialOf_o11 : List AJ := [.o ⟨(some 2), none, false, .mv (.c (.bool false)), (some [2])⟩]
def c_laws_FnExactPotentialOf_17 : ACode := .region c_laws_FnExactPotentialOf_o11
def c_laws_FnExactPotentialOf_18 : ACode := .seq c_laws_FnExactPotentialOf_17 .ret
def c_laws_FnExactPotentialOf_19 : ACode := .cond (.t 45) c_laws_FnExactPotentialOf_18 .skip
def c_laws_FnExactPotentialOf_20 : ACode := .seq c_laws_FnExactPotentialOf_16 c_laws_FnExactPotentialOf_19
abbrev c_laws_FnExactPotentialOf_o12 : List AJ := [.o ⟨(some 9), none, false, .mv (.c (.int .i64 1)), (some [1, 4, 5, 6, 7, 8, 9])⟩]
def c_laws_FnExactPotentialOf_21 : ACode := .region c_laws_FnExactPotentialOf_o12
abbrev c_laws_FnExactPotentialOf_o13 : List AJ := [.o ⟨(some 46), none, false, .load 3 true (.t 6), none⟩, .o ⟨(some 47), none, false, .mv (.t 9), none⟩, .o ⟨(some 48), none, false, .call 29 [(.t 46), (.t 47)], none⟩, .o ⟨(some 9), none, false, .mv (.t 48), (some [1, 4, 5, 7, 8, 9])⟩]
def c_laws_FnExactPotentialOf_22 : ACode := .region c_laws_FnExactPotentialOf_o13
abbrev c_laws_FnExactPotentialOf_o14 : List AJ := [.o ⟨(some 49), none, false, .mv (.t 9), none⟩, .o ⟨(some 50), none, false, .bin .lss (.t 49) (.c (.int .i64 0)), none⟩, .o ⟨(some 51), none, false, .mv (.t 50), none⟩, .o ⟨(some 52), (some (51, false)), false, .mv (.t 7), none⟩, .o ⟨(some 53), (some (51, false)), false, .mv (.t 4), none⟩, .o ⟨(some 54), (some (51, false)), false, .call 24 [(.t 52), (.t 53)], none⟩, .o ⟨(some 55), (some (51, false)), false, .un .not (.t 54), none⟩, .o ⟨(some 56), none, false, .pick (.t 51) (.c (.bool true)) (.t 55), none⟩, .o ⟨(some 57), none, false, .mv (.t 56), none⟩, .o ⟨(some 58), (some (57, false)), false, .mv (.t 8), (some [1, 4, 5, 7, 57, 58])⟩, .o ⟨(some 59), (some (57, false)), false, .mv (.t 5), none⟩, .o ⟨(some 60), (some (57, false)), false, .bin .neq (.t 58) (.t 59), none⟩, .o ⟨(some 61), none, false, .pick (.t 57) (.c (.bool true)) (.t 60), (some [1, 4, 5, 7, 61])⟩]
def c_laws_FnExactPotentialOf_23 : ACode := .region c_laws_FnExactPotentialOf_o14
abbrev c_laws_FnExactPotentialOf_o15 : List AJ := [.o ⟨(some 2), none, false, .mv (.c (.bool false)), (some [2])⟩]
def c_laws_FnExactPotentialOf_24 : ACode := .region c_laws_FnExactPotentialOf_o15
def c_laws_FnExactPotentialOf_25 : ACode := .seq c_laws_FnExactPotentialOf_24 .ret
def c_laws_FnExactPotentialOf_26 : ACode := .cond (.t 61) c_laws_FnExactPotentialOf_25 .skip
def c_laws_FnExactPotentialOf_27 : ACode := .seq c_laws_FnExactPotentialOf_23 c_laws_FnExactPotentialOf_26
abbrev c_laws_FnExactPotentialOf_o16 : List AJ := [.o ⟨(some 10), none, false, .mv (.c (.int .i64 1)), (some [1, 4, 5, 7, 10])⟩]
def c_laws_FnExactPotentialOf_28 : ACode := .region c_laws_FnExactPotentialOf_o16
abbrev c_laws_FnExactPotentialOf_o17 : List AJ := [.o ⟨(some 62), none, false, .mv (.t 7), none⟩, .o ⟨(some 63), none, false, .mv (.t 10), none⟩, .o ⟨(some 64), none, false, .call 30 [(.t 62), (.t 63)], none⟩, .o ⟨(some 10), none, false, .mv (.t 64), (some [1, 4, 5, 7, 10])⟩]
def c_laws_FnExactPotentialOf_29 : ACode := .region c_laws_FnExactPotentialOf_o17
abbrev c_laws_FnExactPotentialOf_o18 : List AJ := [.o ⟨(some 11), none, false, .mv (.c (.int .i64 1)), (some [1, 4, 5, 7, 10, 11])⟩]
def c_laws_FnExactPotentialOf_30 : ACode := .region c_laws_FnExactPotentialOf_o18
abbrev c_laws_FnExactPotentialOf_o19 : List AJ := [.o ⟨(some 65), none, false, .mv (.t 7), none⟩, .o ⟨(some 66), none, false, .mv (.t 11), none⟩, .o ⟨(some 67), none, false, .call 31 [(.t 65), (.t 66)], none⟩, .o ⟨(some 11), none, false, .mv (.t 67), (some [1, 4, 5, 7, 10, 11])⟩]
def c_laws_FnExactPotentialOf_31 : ACode := .region c_laws_FnExactPotentialOf_o19
abbrev c_laws_FnExactPotentialOf_o20 : List AJ := [.o ⟨(some 68), none, false, .mv (.t 11), none⟩, .o ⟨(some 69), none, false, .bin .lss (.t 68) (.c (.int .i64 0)), (some [1, 4, 5, 7, 10, 11, 69])⟩]
def c_laws_FnExactPotentialOf_32 : ACode := .region c_laws_FnExactPotentialOf_o20
abbrev c_laws_FnExactPotentialOf_o21 : List AJ := [.o ⟨(some 2), none, false, .mv (.c (.bool false)), (some [2])⟩]
def c_laws_FnExactPotentialOf_33 : ACode := .region c_laws_FnExactPotentialOf_o21
def c_laws_FnExactPotentialOf_34 : ACode := .seq c_laws_FnExactPotentialOf_33 .ret
def c_laws_FnExactPotentialOf_35 : ACode := .cond (.t 69) c_laws_FnExactPotentialOf_34 .skip
def c_laws_FnExactPotentialOf_36 : ACode := .seq c_laws_FnExactPotentialOf_32 c_laws_FnExactPotentialOf_35
abbrev c_laws_FnExactPotentialOf_o22 : List AJ := [.o ⟨(some 70), none, false, .mv (.t 11), none⟩, .o ⟨(some 71), none, false, .mv (.t 10), none⟩, .o ⟨(some 72), none, false, .bin .neq (.t 70) (.t 71), (some [1, 4, 5, 7, 10, 72])⟩]
def c_laws_FnExactPotentialOf_37 : ACode := .region c_laws_FnExactPotentialOf_o22
abbrev c_laws_FnExactPotentialOf_o23 : List AJ := [.o ⟨(some 2), none, false, .mv (.c (.bool false)), (some [2])⟩]
def c_laws_FnExactPotentialOf_38 : ACode := .region c_laws_FnExactPotentialOf_o23
def c_laws_FnExactPotentialOf_39 : ACode := .seq c_laws_FnExactPotentialOf_38 .ret
def c_laws_FnExactPotentialOf_40 : ACode := .cond (.t 72) c_laws_FnExactPotentialOf_39 .skip
def c_laws_FnExactPotentialOf_41 : ACode := .seq c_laws_FnExactPotentialOf_37 c_laws_FnExactPotentialOf_40
abbrev c_laws_FnExactPotentialOf_o24 : List AJ := [.o ⟨(some 74), none, false, .load 3 true (.t 1), none⟩, .o ⟨(some 75), none, false, .call 16 [(.t 74)], none⟩, .o ⟨(some 76), none, false, .call 38 [(.t 75)], none⟩, .o ⟨(some 73), none, false, .mv (.t 76), none⟩, .o ⟨(some 77), none, false, .extract (.t 73) 0, none⟩, .o ⟨(some 78), none, false, .extract (.t 73) 1, none⟩, .o ⟨(some 12), none, false, .mv (.t 77), none⟩, .o ⟨(some 13), none, false, .mv (.t 78), (some [4, 5, 7, 10, 12, 13])⟩]
def c_laws_FnExactPotentialOf_42 : ACode := .region c_laws_FnExactPotentialOf_o24
abbrev c_laws_FnExactPotentialOf_o25 : List AJ := [.o ⟨(some 79), none, false, .mv (.t 12), none⟩, .o ⟨(some 80), none, false, .mv (.t 4), none⟩, .o ⟨(some 81), none, false, .call 24 [(.t 79), (.t 80)], none⟩, .o ⟨(some 82), none, false, .un .not (.t 81), none⟩, .o ⟨(some 83), none, false, .mv (.t 82), none⟩, .o ⟨(some 84), (some (83, false)), false, .mv (.t 13), none⟩, .o ⟨(some 85), (some (83, false)), false, .mv (.t 5), none⟩, .o ⟨(some 86), (some (83, false)), false, .bin .neq (.t 84) (.t 85), none⟩, .o ⟨(some 87), none, false, .pick (.t 83) (.c (.bool true)) (.t 86), (some [7, 10, 87])⟩]
def c_laws_FnExactPotentialOf_43 : ACode := .region c_laws_FnExactPotentialOf_o25
abbrev c_laws_FnExactPotentialOf_o26 : List AJ := [.o ⟨(some 2), none, false, .mv (.c (.bool false)), (some [2])⟩]
def c_laws_FnExactPotentialOf_44 : ACode := .region c_laws_FnExactPotentialOf_o26
def c_laws_FnExactPotentialOf_45 : ACode := .seq c_laws_FnExactPotentialOf_44 .ret
def c_laws_FnExactPotentialOf_46 : ACode := .cond (.t 87) c_laws_FnExactPotentialOf_45 .skip
def c_laws_FnExactPotentialOf_47 : ACode := .seq c_laws_FnExactPotentialOf_43 c_laws_FnExactPotentialOf_46
abbrev c_laws_FnExactPotentialOf_o27 : List AJ := [.o ⟨(some 11), none, false, .mv (.c (.int .i64 1)), (some [7, 10, 11])⟩]
def c_laws_FnExactPotentialOf_48 : ACode := .region c_laws_FnExactPotentialOf_o27
abbrev c_laws_FnExactPotentialOf_o28 : List AJ := [.o ⟨(some 88), none, false, .mv (.t 7), none⟩, .o ⟨(some 89), none, false, .mv (.t 11), none⟩, .o ⟨(some 90), none, false, .call 31 [(.t 88), (.t 89)], none⟩, .o ⟨(some 11), none, false, .mv (.t 90), (some [10, 11])⟩]
def c_laws_FnExactPotentialOf_49 : ACode := .region c_laws_FnExactPotentialOf_o28
abbrev c_laws_FnExactPotentialOf_o29 : List AJ := [.o ⟨(some 91), none, false, .mv (.t 11), none⟩, .o ⟨(some 92), none, false, .bin .lss (.t 91) (.c (.int .i64 0)), (some [10, 11, 92])⟩]
def c_laws_FnExactPotentialOf_50 : ACode := .region c_laws_FnExactPotentialOf_o29
abbrev c_laws_FnExactPotentialOf_o30 : List AJ := [.o ⟨(some 2), none, false, .mv (.c (.bool false)), (some [2])⟩]
def c_laws_FnExactPotentialOf_51 : ACode := .region c_laws_FnExactPotentialOf_o30
def c_laws_FnExactPotentialOf_52 : ACode := .seq c_laws_FnExactPotentialOf_51 .ret
def c_laws_FnExactPotentialOf_53 : ACode := .cond (.t 92) c_laws_FnExactPotentialOf_52 .skip
def c_laws_FnExactPotentialOf_54 : ACode := .seq c_laws_FnExactPotentialOf_50 c_laws_FnExactPotentialOf_53
abbrev c_laws_FnExactPotentialOf_o31 : List AJ := [.o ⟨(some 93), none, false, .mv (.t 11), none⟩, .o ⟨(some 94), none, false, .mv (.t 10), none⟩, .o ⟨(some 95), none, false, .bin .neq (.t 93) (.t 94), (some [95])⟩]
def c_laws_FnExactPotentialOf_55 : ACode := .region c_laws_FnExactPotentialOf_o31
abbrev c_laws_FnExactPotentialOf_o32 : List AJ := [.o ⟨(some 2), none, false, .mv (.c (.bool false)), (some [2])⟩]
def c_laws_FnExactPotentialOf_56 : ACode := .region c_laws_FnExactPotentialOf_o32
def c_laws_FnExactPotentialOf_57 : ACode := .seq c_laws_FnExactPotentialOf_56 .ret
def c_laws_FnExactPotentialOf_58 : ACode := .cond (.t 95) c_laws_FnExactPotentialOf_57 .skip
def c_laws_FnExactPotentialOf_59 : ACode := .seq c_laws_FnExactPotentialOf_55 c_laws_FnExactPotentialOf_58
abbrev c_laws_FnExactPotentialOf_o33 : List AJ := [.o ⟨(some 2), none, false, .mv (.c (.bool true)), (some [2])⟩]
def c_laws_FnExactPotentialOf_60 : ACode := .region c_laws_FnExactPotentialOf_o33
def c_laws_FnExactPotentialOf_61 : ACode := .seq c_laws_FnExactPotentialOf_60 .ret
def c_laws_FnExactPotentialOf_62 : ACode := .seq c_laws_FnExactPotentialOf_59 c_laws_FnExactPotentialOf_61
def c_laws_FnExactPotentialOf_63 : ACode := .seq c_laws_FnExactPotentialOf_54 c_laws_FnExactPotentialOf_62
def c_laws_FnExactPotentialOf_64 : ACode := .seq c_laws_FnExactPotentialOf_49 c_laws_FnExactPotentialOf_63
def c_laws_FnExactPotentialOf_65 : ACode := .seq c_laws_FnExactPotentialOf_48 c_laws_FnExactPotentialOf_64
def c_laws_FnExactPotentialOf_66 : ACode := .seq c_laws_FnExactPotentialOf_47 c_laws_FnExactPotentialOf_65
def c_laws_FnExactPotentialOf_67 : ACode := .seq c_laws_FnExactPotentialOf_42 c_laws_FnExactPotentialOf_66
def c_laws_FnExactPotentialOf_68 : ACode := .seq c_laws_FnExactPotentialOf_41 c_laws_FnExactPotentialOf_67
def c_laws_FnExactPotentialOf_69 : ACode := .seq c_laws_FnExactPotentialOf_36 c_laws_FnExactPotentialOf_68
def c_laws_FnExactPotentialOf_70 : ACode := .seq c_laws_FnExactPotentialOf_31 c_laws_FnExactPotentialOf_69
def c_laws_FnExactPotentialOf_71 : ACode := .seq c_laws_FnExactPotentialOf_30 c_laws_FnExactPotentialOf_70
def c_laws_FnExactPotentialOf_72 : ACode := .seq c_laws_FnExactPotentialOf_29 c_laws_FnExactPotentialOf_71
def c_laws_FnExactPotentialOf_73 : ACode := .seq c_laws_FnExactPotentialOf_28 c_laws_FnExactPotentialOf_72
def c_laws_FnExactPotentialOf_74 : ACode := .seq c_laws_FnExactPotentialOf_27 c_laws_FnExactPotentialOf_73
def c_laws_FnExactPotentialOf_75 : ACode := .seq c_laws_FnExactPotentialOf_22 c_laws_FnExactPotentialOf_74
def c_laws_FnExactPotentialOf_76 : ACode := .seq c_laws_FnExactPotentialOf_21 c_laws_FnExactPotentialOf_75
def c_laws_FnExactPotentialOf_77 : ACode := .seq c_laws_FnExactPotentialOf_20 c_laws_FnExactPotentialOf_76
def c_laws_FnExactPotentialOf_78 : ACode := .seq c_laws_FnExactPotentialOf_15 c_laws_FnExactPotentialOf_77
def c_laws_FnExactPotentialOf_79 : ACode := .seq c_laws_FnExactPotentialOf_10 c_laws_FnExactPotentialOf_78
def c_laws_FnExactPotentialOf_80 : ACode := .seq c_laws_FnExactPotentialOf_9 c_laws_FnExactPotentialOf_79
def c_laws_FnExactPotentialOf_81 : ACode := .seq c_laws_FnExactPotentialOf_8 c_laws_FnExactPotentialOf_80
def c_laws_FnExactPotentialOf_82 : ACode := .seq c_laws_FnExactPotentialOf_7 c_laws_FnExactPotentialOf_81
def c_laws_FnExactPotentialOf_83 : ACode := .seq c_laws_FnExactPotentialOf_2 c_laws_FnExactPotentialOf_82
def c_laws_FnExactPotentialOf_84 : ACode := .seq c_laws_FnExactPotentialOf_1 c_laws_FnExactPotentialOf_83
def c_laws_FnExactPotentialOf_85 : ACode := .seq c_laws_FnExactPotentialOf_0 c_laws_FnExactPotentialOf_84
section
variable (C : Cx) (n : Nat) (sk : List AItem) (e : Env) (h : Heap) (R : AV → Heap → Prop)
@[simp, simp ↓] theorem c_laws_FnExactPotentialOf_0_r : vc2 C (n + 1) [] (.code c_laws_FnExactPotentialOf_0 :: sk) e h R = (vc2 C n c_laws_FnExactPotentialOf_o0 sk e h R) := nr rfl
@[simp, simp ↓] theorem c_laws_FnExactPotentialOf_1_r : vc2 C (n + 1) [] (.code c_laws_FnExactPotentialOf_1 :: sk) e h R = (vc2 C n c_laws_FnExactPotentialOf_o1 sk e h R) := nr rfl
@[simp, simp ↓] theorem c_laws_FnExactPotentialOf_2_r : vc2 C (n + 1) [] (.code c_laws_FnExactPotentialOf_2 :: sk) e h R = (vc2 C n c_laws_FnExactPotentialOf_o2 sk e h R) := nr rfl
@[simp, simp ↓] theorem c_laws_FnExactPotentialOf_3_r : vc2 C (n + 1) [] (.code c_laws_FnExactPotentialOf_3 :: sk) e h R = (vc2 C n c_laws_FnExactPotentialOf_o3 sk e h R) := nr rfl
@[simp, simp ↓] theorem c_laws_FnExactPotentialOf_4_r : vc2 C (n + 1) [] (.code c_laws_FnExactPotentialOf_4 :: sk) e h R = (vc2 C n c_laws_FnExactPotentialOf_o4 sk e h R) := nr rfl
@[simp, simp ↓] theorem c_laws_FnExactPotentialOf_5_r : vc2 C (n + 1) [] (.code c_laws_FnExactPotentialOf_5 :: sk) e h R = (vc2 C n [] (.code c_laws_FnExactPotentialOf_4 :: .code .ret :: sk) e h R) := nr rfl
@[simp, simp ↓] theorem c_laws_FnExactPotentialOf_6_r : vc2 C (n + 1) [] (.code c_laws_FnExactPotentialOf_6 :: sk) e h R = (condK (ev e (.t 18)) (vc2 C n [] (.code c_laws_FnExactPotentialOf_5 :: sk) e h R) (vc2 C n [] (.code .skip :: sk) e h R)) := nr rfl
@[simp, simp ↓] theorem c_laws_FnExactPotentialOf_7_r : vc2 C (n + 1) [] (.code c_laws_FnExactPotentialOf_7 :: sk) e h R = (vc2 C n [] (.code c_laws_FnExactPotentialOf_3 :: .code c_laws_FnExactPotentialOf_6 :: sk) e h R) := nr rfl
@[simp, simp ↓] theorem c_laws_FnExactPotentialOf_8_r : vc2 C (n + 1) [] (.code c_laws_FnExactPotentialOf_8 :: sk) e h R = (vc2 C n c_laws_FnExactPotentialOf_o5 sk e h R) := nr rfl
@[simp, simp ↓] theorem c_laws_FnExactPotentialOf_9_r : vc2 C (n + 1) [] (.code c_laws_FnExactPotentialOf_9 :: sk) e h R = (vc2 C n c_laws_FnExactPotentialOf_o6 sk e h R) := nr rfl
@[simp, simp ↓] theorem c_laws_FnExactPotentialOf_10_r : vc2 C (n + 1) [] (.code c_laws_FnExactPotentialOf_10 :: sk) e h R = (vc2 C n c_laws_FnExactPotentialOf_o7 sk e h R) := nr rfl
@[simp, simp ↓] theorem c_laws_FnExactPotentialOf_11_r : vc2 C (n + 1) [] (.code c_laws_FnExactPotentialOf_11 :: sk) e h R = (vc2 C n c_laws_FnExactPotentialOf_o8 sk e h R) := nr rfl
@[simp, simp ↓] theorem c_laws_FnExactPotentialOf_12_r : vc2 C (n + 1) [] (.code c_laws_FnExactPotentialOf_12 :: sk) e h R = (vc2 C n c_laws_FnExactPotentialOf_o9 sk e h R) := nr rfl
@[simp, simp ↓] theorem c_laws_FnExactPotentialOf_13_r : vc2 C (n + 1) [] (.code c_laws_FnExactPotentialOf_13 :: sk) e h R = (vc2 C n [] (.code c_laws_FnExactPotentialOf_12 :: .code .ret :: sk) e h R) := nr rfl
@[simp, simp ↓] theorem c_laws_FnExactPotentialOf_14_r : vc2 C (n + 1) [] (.code c_laws_FnExactPotentialOf_14 :: sk) e h R = (condK (ev e (.t 40)) (vc2 C n [] (.code c_laws_FnExactPotentialOf_13 :: sk) e h R) (vc2 C n [] (.code .skip :: sk) e h R)) := nr rfl
@[simp, simp ↓] theorem c_laws_FnExactPotentialOf_15_r : vc2 C (n + 1) [] (.code c_laws_FnExactPotentialOf_15 :: sk) e h R = (vc2 C n [] (.code c_laws_FnExactPotentialOf_11 :: .code c_laws_FnExactPotentialOf_14 :: sk) e h R) := nr rfl
@[simp, simp ↓] theorem c_laws_FnExactPotentialOf_16_r : vc2 C (n + 1) [] (.code c_laws_FnExactPotentialOf_16 :: sk) e h R = (draw2 C h (vK C n [] sk R h) c_laws_FnExactPotentialOf_o10 e) := nr rfl
@[simp, simp ↓] theorem c_laws_FnExactPotentialOf_17_r : vc2 C (n + 1) [] (.code c_laws_FnExactPotentialOf_17 :: sk) e h R = (vc2 C n c_laws_FnExactPotentialOf_o11 sk e h R) := nr rfl
@[simp, simp ↓] theorem c_laws_FnExactPotentialOf_18_r : vc2 C (n + 1) [] (.code c_laws_FnExactPotentialOf_18 :: sk) e h R = (vc2 C n [] (.code c_laws_FnExactPotentialOf_17 :: .code .ret :: sk) e h R) := nr rfl
@[simp, simp ↓] theorem c_laws_FnExactPotentialOf_19_r : vc2 C (n + 1) [] (.code c_laws_FnExactPotentialOf_19 :: sk) e h R = (condK (ev e (.t 45)) (vc2 C n [] (.code c_laws_FnExactPotentialOf_18 :: sk) e h R) (vc2 C n [] (.code .skip :: sk) e h R)) := nr rfl
@[simp, simp ↓] theorem c_laws_FnExactPotentialOf_20_r : vc2 C (n + 1) [] (.code c_laws_FnExactPotentialOf_20 :: sk) e h R = (vc2 C n [] (.code c_laws_FnExactPotentialOf_16 :: .code c_laws_FnExactPotentialOf_19 :: sk) e h R) := nr rfl
@[simp, simp ↓] theorem c_laws_FnExactPotentialOf_21_r : vc2 C (n + 1) [] (.code c_laws_FnExactPotentialOf_21 :: sk) e h R = (vc2 C n c_laws_FnExactPotentialOf_o12 sk e h R) := nr rfl
@[simp, simp ↓] theorem c_laws_FnExactPotentialOf_22_r : vc2 C (n + 1) [] (.code c_laws_FnExactPotentialOf_22 :: sk) e h R = (vc2 C n c_laws_FnExactPotentialOf_o13 sk e h R) := nr rfl
@[simp, simp ↓] theorem c_laws_FnExactPotentialOf_23_r : vc2 C (n + 1) [] (.code c_laws_FnExactPotentialOf_23 :: sk) e h R = (vc2 C n c_laws_FnExactPotentialOf_o14 sk e h R) := nr rfl
@[simp, simp ↓] theorem c_laws_FnExactPotentialOf_24_r : vc2 C (n + 1) [] (.code c_laws_FnExactPotentialOf_24 :: sk) e h R = (vc2 C n c_laws_FnExactPotentialOf_o15 sk e h R) := nr rfl
@[simp, simp ↓] theorem c_laws_FnExactPotentialOf_25_r : vc2 C (n + 1) [] (.code c_laws_FnExactPotentialOf_25 :: sk) e h R = (vc2 C n [] (.code c_laws_FnExactPotentialOf_24 :: .code .ret :: sk) e h R) := nr rfl
@[simp, simp ↓] theorem c_laws_FnExactPotentialOf_26_r : vc2 C (n + 1) [] (.code c_laws_FnExactPotentialOf_26 :: sk) e h R = (condK (ev e (.t 61)) (vc2 C n [] (.code c_laws_FnExactPotentialOf_25 :: sk) e h R) (vc2 C n [] (.code .skip :: sk) e h R)) := nr rfl
@[simp, simp ↓] theorem c_laws_FnExactPotentialOf_27_r : vc2 C (n + 1) [] (.code c_laws_FnExactPotentialOf_27 :: sk) e h R = (vc2 C n [] (.code c_laws_FnExactPotentialOf_23 :: .code c_laws_FnExactPotentialOf_26 :: sk) e h R) := nr rfl
@[simp, simp ↓] theorem c_laws_FnExactPotentialOf_28_r : vc2 C (n + 1) [] (.code c_laws_FnExactPotentialOf_28 :: sk) e h R = (vc2 C n c_laws_FnExactPotentialOf_o16 sk e h R) := nr rfl
@[simp, simp ↓] theorem c_laws_FnExactPotentialOf_29_r : vc2 C (n + 1) [] (.code c_laws_FnExactPotentialOf_29 :: sk) e h R = (vc2 C n c_laws_FnExactPotentialOf_o17 sk e h R) := nr rfl
@[simp, simp ↓] theorem c_laws_FnExactPotentialOf_30_r : vc2 C (n + 1) [] (.code c_laws_FnExactPotentialOf_30 :: sk) e h R = (vc2 C n c_laws_FnExactPotentialOf_o18 sk e h R) := nr rfl
@[simp, simp ↓] theorem c_laws_FnExactPotentialOf_31_r : vc2 C (n + 1) [] (.code c_laws_FnExactPotentialOf_31 :: sk) e h R = (vc2 C n c_laws_FnExactPotentialOf_o19 sk e h R) := nr rfl
@[simp, simp ↓] theorem c_laws_FnExactPotentialOf_32_r : vc2 C (n + 1) [] (.code c_laws_FnExactPotentialOf_32 :: sk) e h R = (vc2 C n c_laws_FnExactPotentialOf_o20 sk e h R) := nr rfl
@[simp, simp ↓] theorem c_laws_FnExactPotentialOf_33_r : vc2 C (n + 1) [] (.code c_laws_FnExactPotentialOf_33 :: sk) e h R = (vc2 C n c_laws_FnExactPotentialOf_o21 sk e h R) := nr rfl
@[simp, simp ↓] theorem c_laws_FnExactPotentialOf_34_r : vc2 C (n + 1) [] (.code c_laws_FnExactPotentialOf_34 :: sk) e h R = (vc2 C n [] (.code c_laws_FnExactPotentialOf_33 :: .code .ret :: sk) e h R) := nr rfl
@[simp, simp ↓] theorem c_laws_FnExactPotentialOf_35_r : vc2 C (n + 1) [] (.code c_laws_FnExactPotentialOf_35 :: sk) e h R = (condK (ev e (.t 69)) (vc2 C n [] (.code c_laws_FnExactPotentialOf_34 :: sk) e h R) (vc2 C n [] (.code .skip :: sk) e h R)) := nr rfl
@[simp, simp ↓] theorem c_laws_FnExactPotentialOf_36_r : vc2 C (n + 1) [] (.code c_laws_FnExactPotentialOf_36 :: sk) e h R = (vc2 C n [] (.code c_laws_FnExactPotentialOf_32 :: .code c_laws_FnExactPotentialOf_35 :: sk) e h R) := nr rfl
@[simp, simp ↓] theorem c_laws_FnExactPotentialOf_37_r : vc2 C (n + 1) [] (.code c_laws_FnExactPotentialOf_37 :: sk) e h R = (vc2 C n c_laws_FnExactPotentialOf_o22 sk e h R) := nr rfl
@[simp, simp ↓] theorem c_laws_FnExactPotentialOf_38_r : vc2 C (n + 1) [] (.code c_laws_FnExactPotentialOf_38 :: sk) e h R = (vc2 C n c_laws_FnExactPotentialOf_o23 sk e h R) := nr rfl
@[simp, simp ↓] theorem c_laws_FnExactPotentialOf_39_r : vc2 C (n + 1) [] (.code c_laws_FnExactPotentialOf_39 :: sk) e h R = (vc2 C n [] (.code c_laws_FnExactPotentialOf_38 :: .code .ret :: sk) e h R) := nr rfl
@[simp, simp ↓] theorem c_laws_FnExactPotentialOf_40_r : vc2 C (n + 1) [] (.code c_laws_FnExactPotentialOf_40 :: sk) e h R = (condK (ev e (.t 72)) (vc2 C n [] (.code c_laws_FnExactPotentialOf_39 :: sk) e h R) (vc2 C n [] (.code .skip :: sk) e h R)) := nr rfl
@[simp, simp ↓] theorem c_laws_FnExactPotentialOf_41_r : vc2 C (n + 1) [] (.code c_laws_FnExactPotentialOf_41 :: sk) e h R = (vc2 C n [] (.code c_laws_FnExactPotentialOf_37 :: .code c_laws_FnExactPotentialOf_40 :: sk) e h R) := nr rfl
@[simp, simp ↓] theorem c_laws_FnExactPotentialOf_42_r : vc2 C (n + 1) [] (.code c_laws_FnExactPotentialOf_42 :: sk) e h R = (vc2 C n c_laws_FnExactPotentialOf_o24 sk e h R) := nr rfl
@[simp, simp ↓] theorem c_laws_FnExactPotentialOf_43_r : vc2 C (n + 1) [] (.code c_laws_FnExactPotentialOf_43 :: sk) e h R = (vc2 C n c_laws_FnExactPotentialOf_o25 sk e h R) := nr rfl
@[simp, simp ↓] theorem c_laws_FnExactPotentialOf_44_r : vc2 C (n + 1) [] (.code c_laws_FnExactPotentialOf_44 :: sk) e h R = (vc2 C n c_laws_FnExactPotentialOf_o26 sk e h R) := nr rfl
@[simp, simp ↓] theorem c_laws_FnExactPotentialOf_45_r : vc2 C (n + 1) [] (.code c_laws_FnExactPotentialOf_45 :: sk) e h R = (vc2 C n [] (.code c_laws_FnExactPotentialOf_44 :: .code .ret :: sk) e h R) := nr rfl
@[simp, simp ↓] theorem c_laws_FnExactPotentialOf_46_r : vc2 C (n + 1) [] (.code c_laws_FnExactPotentialOf_46 :: sk) e h R = (condK (ev e (.t 87)) (vc2 C n [] (.code c_laws_FnExactPotentialOf_45 :: sk) e h R) (vc2 C n [] (.code .skip :: sk) e h R)) := nr rfl
@[simp, simp ↓] theorem c_laws_FnExactPotentialOf_47_r : vc2 C (n + 1) [] (.code c_laws_FnExactPotentialOf_47 :: sk) e h R = (vc2 C n [] (.code c_laws_FnExactPotentialOf_43 :: .code c_laws_FnExactPotentialOf_46 :: sk) e h R) := nr rfl
@[simp, simp ↓] theorem c_laws_FnExactPotentialOf_48_r : vc2 C (n + 1) [] (.code c_laws_FnExactPotentialOf_48 :: sk) e h R = (vc2 C n c_laws_FnExactPotentialOf_o27 sk e h R) := nr rfl
@[simp, simp ↓] theorem c_laws_FnExactPotentialOf_49_r : vc2 C (n + 1) [] (.code c_laws_FnExactPotentialOf_49 :: sk) e h R = (vc2 C n c_laws_FnExactPotentialOf_o28 sk e h R) := nr rfl
@[simp, simp ↓] theorem c_laws_FnExactPotentialOf_50_r : vc2 C (n + 1) [] (.code c_laws_FnExactPotentialOf_50 :: sk) e h R = (vc2 C n c_laws_FnExactPotentialOf_o29 sk e h R) := nr rfl
@[simp, simp ↓] theorem c_laws_FnExactPotentialOf_51_r : vc2 C (n + 1) [] (.code c_laws_FnExactPotentialOf_51 :: sk) e h R = (vc2 C n c_laws_FnExactPotentialOf_o30 sk e h R) := nr rfl
@[simp, simp ↓] theorem c_laws_FnExactPotentialOf_52_r : vc2 C (n + 1) [] (.code c_laws_FnExactPotentialOf_52 :: sk) e h R = (vc2 C n [] (.code c_laws_FnExactPotentialOf_51 :: .code .ret :: sk) e h R) := nr rfl
@[simp, simp ↓] theorem c_laws_FnExactPotentialOf_53_r : vc2 C (n + 1) [] (.code c_laws_FnExactPotentialOf_53 :: sk) e h R = (condK (ev e (.t 92)) (vc2 C n [] (.code c_laws_FnExactPotentialOf_52 :: sk) e h R) (vc2 C n [] (.code .skip :: sk) e h R)) := nr rfl
@[simp, simp ↓] theorem c_laws_FnExactPotentialOf_54_r : vc2 C (n + 1) [] (.code c_laws_FnExactPotentialOf_54 :: sk) e h R = (vc2 C n [] (.code c_laws_FnExactPotentialOf_50 :: .code c_laws_FnExactPotentialOf_53 :: sk) e h R) := nr rfl
@[simp, simp ↓] theorem c_laws_FnExactPotentialOf_55_r : vc2 C (n + 1) [] (.code c_laws_FnExactPotentialOf_55 :: sk) e h R = (vc2 C n c_laws_FnExactPotentialOf_o31 sk e h R) := nr rfl
@[simp, simp ↓] theorem c_laws_FnExactPotentialOf_56_r : vc2 C (n + 1) [] (.code c_laws_FnExactPotentialOf_56 :: sk) e h R = (vc2 C n c_laws_FnExactPotentialOf_o32 sk e h R) := nr rfl
@[simp, simp ↓] theorem c_laws_FnExactPotentialOf_57_r : vc2 C (n + 1) [] (.code c_laws_FnExactPotentialOf_57 :: sk) e h R = (vc2 C n [] (.code c_laws_FnExactPotentialOf_56 :: .code .ret :: sk) e h R) := nr rfl
@[simp, simp ↓] theorem c_laws_FnExactPotentialOf_58_r : vc2 C (n + 1) [] (.code c_laws_FnExactPotentialOf_58 :: sk) e h R = (condK (ev e (.t 95)) (vc2 C n [] (.code c_laws_FnExactPotentialOf_57 :: sk) e h R) (vc2 C n [] (.code .skip :: sk) e h R)) := nr rfl
@[simp, simp ↓] theorem c_laws_FnExactPotentialOf_59_r : vc2 C (n + 1) [] (.code c_laws_FnExactPotentialOf_59 :: sk) e h R = (vc2 C n [] (.code c_laws_FnExactPotentialOf_55 :: .code c_laws_FnExactPotentialOf_58 :: sk) e h R) := nr rfl
@[simp, simp ↓] theorem c_laws_FnExactPotentialOf_60_r : vc2 C (n + 1) [] (.code c_laws_FnExactPotentialOf_60 :: sk) e h R = (vc2 C n c_laws_FnExactPotentialOf_o33 sk e h R) := nr rfl
@[simp, simp ↓] theorem c_laws_FnExactPotentialOf_61_r : vc2 C (n + 1) [] (.code c_laws_FnExactPotentialOf_61 :: sk) e h R = (vc2 C n [] (.code c_laws_FnExactPotentialOf_60 :: .code .ret :: sk) e h R) := nr rfl
@[simp, simp ↓] theorem c_laws_FnExactPotentialOf_62_r : vc2 C (n + 1) [] (.code c_laws_FnExactPotentialOf_62 :: sk) e h R = (vc2 C n [] (.code c_laws_FnExactPotentialOf_59 :: .code c_laws_FnExactPotentialOf_61 :: sk) e h R) := nr rfl
@[simp, simp ↓] theorem c_laws_FnExactPotentialOf_63_r : vc2 C (n + 1) [] (.code c_laws_FnExactPotentialOf_63 :: sk) e h R = (vc2 C n [] (.code c_laws_FnExactPotentialOf_54 :: .code c_laws_FnExactPotentialOf_62 :: sk) e h R) := nr rfl
@[simp, simp ↓] theorem c_laws_FnExactPotentialOf_64_r : vc2 C (n + 1) [] (.code c_laws_FnExactPotentialOf_64 :: sk) e h R = (vc2 C n [] (.code c_laws_FnExactPotentialOf_49 :: .code c_laws_FnExactPotentialOf_63 :: sk) e h R) := nr rfl
@[simp, simp ↓] theorem c_laws_FnExactPotentialOf_65_r : vc2 C (n + 1) [] (.code c_laws_FnExactPotentialOf_65 :: sk) e h R = (vc2 C n [] (.code c_laws_FnExactPotentialOf_48 :: .code c_laws_FnExactPotentialOf_64 :: sk) e h R) := nr rfl
@[simp, simp ↓] theorem c_laws_FnExactPotentialOf_66_r : vc2 C (n + 1) [] (.code c_laws_FnExactPotentialOf_66 :: sk) e h R = (vc2 C n [] (.code c_laws_FnExactPotentialOf_47 :: .code c_laws_FnExactPotentialOf_65 :: sk) e h R) := nr rfl
@[simp, simp ↓] theorem c_laws_FnExactPotentialOf_67_r : vc2 C (n + 1) [] (.code c_laws_FnExactPotentialOf_67 :: sk) e h R = (vc2 C n [] (.code c_laws_FnExactPotentialOf_42 :: .code c_laws_FnExactPotentialOf_66 :: sk) e h R) := nr rfl
@[simp, simp ↓] theorem c_laws_FnExactPotentialOf_68_r : vc2 C (n + 1) [] (.code c_laws_FnExactPotentialOf_68 :: sk) e h R = (vc2 C n [] (.code c_laws_FnExactPotentialOf_41 :: .code c_laws_FnExactPotentialOf_67 :: sk) e h R) := nr rfl
@[simp, simp ↓] theorem c_laws_FnExactPotentialOf_69_r : vc2 C (n + 1) [] (.code c_laws_FnExactPotentialOf_69 :: sk) e h R = (vc2 C n [] (.code c_laws_FnExactPotentialOf_36 :: .code c_laws_FnExactPotentialOf_68 :: sk) e h R) := nr rfl
@[simp, simp ↓] theorem c_laws_FnExactPotentialOf_70_r : vc2 C (n + 1) [] (.code c_laws_FnExactPotentialOf_70 :: sk) e h R = (vc2 C n [] (.code c_laws_FnExactPotentialOf_31 :: .code c_laws_FnExactPotentialOf_69 :: sk) e h R) := nr rfl
@[simp, simp ↓] theorem c_laws_FnExactPotentialOf_71_r : vc2 C (n + 1) [] (.code c_laws_FnExactPotentialOf_71 :: sk) e h R = (vc2 C n [] (.code c_laws_FnExactPotentialOf_30 :: .code c_laws_FnExactPotentialOf_70 :: sk) e h R) := nr rfl
@[simp, simp ↓] theorem c_laws_FnExactPotentialOf_72_r : vc2 C (n + 1) [] (.code c_laws_FnExactPotentialOf_72 :: sk) e h R = (vc2 C n [] (.code c_laws_FnExactPotentialOf_29 :: .code c_laws_FnExactPotentialOf_71 :: sk) e h R) := nr rfl
@[simp, simp ↓] theorem c_laws_FnExactPotentialOf_73_r : vc2 C (n + 1) [] (.code c_laws_FnExactPotentialOf_73 :: sk) e h R = (vc2 C n [] (.code c_laws_FnExactPotentialOf_28 :: .code c_laws_FnExactPotentialOf_72 :: sk) e h R) := nr rfl
@[simp, simp ↓] theorem c_laws_FnExactPotentialOf_74_r : vc2 C (n + 1) [] (.code c_laws_FnExactPotentialOf_74 :: sk) e h R = (vc2 C n [] (.code c_laws_FnExactPotentialOf_27 :: .code c_laws_FnExactPotentialOf_73 :: sk) e h R) := nr rfl
@[simp, simp ↓] theorem c_laws_FnExactPotentialOf_75_r : vc2 C (n + 1) [] (.code c_laws_FnExactPotentialOf_75 :: sk) e h R = (vc2 C n [] (.code c_laws_FnExactPotentialOf_22 :: .code c_laws_FnExactPotentialOf_74 :: sk) e h R) := nr rfl
@[simp, simp ↓] theorem c_laws_FnExactPotentialOf_76_r : vc2 C (n + 1) [] (.code c_laws_FnExactPotentialOf_76 :: sk) e h R = (vc2 C n [] (.code c_laws_FnExactPotentialOf_21 :: .code c_laws_FnExactPotentialOf_75 :: sk) e h R) := nr rfl
@[simp, simp ↓] theorem c_laws_FnExactPotentialOf_77_r : vc2 C (n + 1) [] (.code c_laws_FnExactPotentialOf_77 :: sk) e h R = (vc2 C n [] (.code c_laws_FnExactPotentialOf_20 :: .code c_laws_FnExactPotentialOf_76 :: sk) e h R) := nr rfl
@[simp, simp ↓] theorem c_laws_FnExactPotentialOf_78_r : vc2 C (n + 1) [] (.code c_laws_FnExactPotentialOf_78 :: sk) e h R = (vc2 C n [] (.code c_laws_FnExactPotentialOf_15 :: .code c_laws_FnExactPotentialOf_77 :: sk) e h R) := nr rfl
@[simp, simp ↓] theorem c_laws_FnExactPotentialOf_79_r : vc2 C (n + 1) [] (.code c_laws_FnExactPotentialOf_79 :: sk) e h R = (vc2 C n [] (.code c_laws_FnExactPotentialOf_10 :: .code c_laws_FnExactPotentialOf_78 :: sk) e h R) := nr rfl
@[simp, simp ↓] theorem c_laws_FnExactPotentialOf_80_r : vc2 C (n + 1) [] (.code c_laws_FnExactPotentialOf_80 :: sk) e h R = (vc2 C n [] (.code c_laws_FnExactPotentialOf_9 :: .code c_laws_FnExactPotentialOf_79 :: sk) e h R) := nr rfl
@[simp, simp ↓] theorem c_laws_FnExactPotentialOf_81_r : vc2 C (n + 1) [] (.code c_laws_FnExactPotentialOf_81 :: sk) e h R = (vc2 C n [] (.code c_laws_FnExactPotentialOf_8 :: .code c_laws_FnExactPotentialOf_80 :: sk) e h R) := nr rfl
@[simp, simp ↓] theorem c_laws_FnExactPotentialOf_82_r : vc2 C (n + 1) [] (.code c_laws_FnExactPotentialOf_82 :: sk) e h R = (vc2 C n [] (.code c_laws_FnExactPotentialOf_7 :: .code c_laws_FnExactPotentialOf_81 :: sk) e h R) := nr rfl
@[simp, simp ↓] theorem c_laws_FnExactPotentialOf_83_r : vc2 C (n + 1) [] (.code c_laws_FnExactPotentialOf_83 :: sk) e h R = (vc2 C n [] (.code c_laws_FnExactPotentialOf_2 :: .code c_laws_FnExactPotentialOf_82 :: sk) e h R) := nr rfl
@[simp, simp ↓] theorem c_laws_FnExactPotentialOf_84_r : vc2 C (n + 1) [] (.code c_laws_FnExactPotentialOf_84 :: sk) e h R = (vc2 C n [] (.code c_laws_FnExactPotentialOf_1 :: .code c_laws_FnExactPotentialOf_83 :: sk) e h R) := nr rfl
@[simp, simp ↓] theorem c_laws_FnExactPotentialOf_85_r : vc2 C (n + 1) [] (.code c_laws_FnExactPotentialOf_85 :: sk) e h R = (vc2 C n [] (.code c_laws_FnExactPotentialOf_0 :: .code c_laws_FnExactPotentialOf_84 :: sk) e h R) := nr rfl
end
noncomputable def c_laws_FnExactPotentialOf_C (orc : Orc) : Cx := ⟨Try.prog, [6], 10, 96, [.tmp 2], orc⟩
@[simp] theorem c_laws_FnExactPotentialOf_C_P (orc : Orc) : (c_laws_FnExactPotentialOf_C orc).P = Try.prog := nr rfl
@[simp] theorem c_laws_FnExactPotentialOf_C_o (orc : Orc) : (c_laws_FnExactPotentialOf_C orc).orc = orc := nr rfl
@[simp] theorem c_laws_FnExactPotentialOf_C_r (orc : Orc) : (c_laws_FnExactPotentialOf_C orc).res = [.tmp 2] := nr rfl
theorem c_laws_FnExactPotentialOf_of {args : List AV} {h : Heap} {R : AV → Heap → Prop} {k : Nat} (ha : args.length = k) {orc : Orc} (hp : Pure Try.prog orc) (hk : Is (c_laws_FnExactPotentialOf_C orc) Try.f10 → Run2 (c_laws_FnExactPotentialOf_C orc) [.code c_laws_FnExactPotentialOf_85] (argEnv 0 args) h (Post R)) (hle : k ≤ 96 := by simp) : ACalls Try.prog 10 args h R :=
  contract2 [6] c_laws_FnExactPotentialOf_85 [.tmp 2] Try.func10 (by decide +kernel) rfl (by kernel_rfl) (by rw [ha]; exact hle) (by kernel_rfl) hp hk
theorem c_laws_FnExactPotentialOf_of0 {args : List AV} {h : Heap} {R : AV → Heap → Prop} {k : Nat} (ha : args.length = k) {orc : Orc} (hp : Pure Try.prog orc) (hk : Is (c_laws_FnExactPotentialOf_C orc) Try.f10 → Run2 (c_laws_FnExactPotentialOf_C orc) [.code c_laws_FnExactPotentialOf_85] (argEnv 0 args) h R) (hle : k ≤ 96 := by simp) : ACalls Try.prog 10 args h R :=
  contract20 [6] c_laws_FnExactPotentialOf_85 [.tmp 2] Try.func10 (by decide +kernel) rfl (by kernel_rfl) (by rw [ha]; exact hle) (by kernel_rfl) hp hk
theorem potential_law (x : Ph) (hx : x.wf) : ACalls Try.prog 10 [x.av] [] (fun v h' => v = .bool true ∧ h' = []) := by
  refine c_laws_FnExactPotentialOf_of rfl orcM_p fun I => ?_
  have hx2_x := hx.2
  refine Run2.of I 1000 ?_
  by_cases kx : (x.ts.length : Int) ≤ (1048576 : Int)
  · have hAx : ¬ (1048576 : Int) < x.ts.length := by omega
    have hBx : ¬ (1048576 : Int) - x.ts.length < 0 := by omega
    have hCx : (0 : Int) ≤ (1048576 : Int) - x.ts.length := by omega
    have lx : x.ts.length ≤ 1048576 := by omega
    have he := x.pres_len
    simp -implicitDefEqProofs [hx2_x, hAx, hBx, hCx]
    first | refine dcallK (toPhases_c x _ lx) ?_ | (refine (toPhases_c x _ lx).mono ?_; rintro v h' ⟨rfl, rfl⟩; refine gK.go ?_)
    simp -implicitDefEqProofs
    first | refine dcallK (specPot_c x _ hx.1 lx) ?_ | (refine (specPot_c x _ hx.1 lx).mono ?_; rintro v h' ⟨rfl, rfl⟩; refine gK.go ?_)
    simp -implicitDefEqProofs
    refine (toPhases_o x _ lx).monoN ?_
    rintro v0 h' ⟨g0, o0, d0, rfl⟩ n0
    obtain ⟨u0, rfl, ou0⟩ := id o0
    have c0 := ou0.cell
    refine gK.go ?_
    simp -implicitDefEqProofs [c0]
    simp only [List.append_nil] at n0
    have L0 := o0.lentIn (L := g0) (fun p hp => hp) n0
    refine (ACalls.gives g0 (fun p hp => hp) (S := fun v h' => ∃ w, v = .tup [w, .int .i64 x.pcode] ∧ OwnL iv 1 w x.pres h') ?_ ?_).monoN ?_
    · rw [lend_cons, lend_nil']
      exact ACalls.wk (.cons L0.wk .nil) (implPot_o x hx.1 lx)
    · rintro v h' ⟨w, rfl, ho⟩
      have := ho.own own_iv1
      exact ⟨by simp [own, owns, this.1], this.2⟩
    rintro v h' ⟨gg, ⟨w, rfl, og⟩, dg, rfl⟩ ng
    refine gK.go ?_
    simp -implicitDefEqProofs [c0]
    first | refine dcallK (eqI_own og (.snap x.pres) (fun p hp => List.mem_append_left _ hp) (show x.pres.length ≤ 1048576 by omega)) ?_ | (refine (eqI_own og (.snap x.pres) (fun p hp => List.mem_append_left _ hp) (show x.pres.length ≤ 1048576 by omega)).mono ?_; rintro v h' ⟨rfl, rfl⟩; refine gK.go ?_)
    simp -implicitDefEqProofs [c0]
    first | refine dcallK (toPhases_c x _ lx) ?_ | (refine (toPhases_c x _ lx).mono ?_; rintro v h' ⟨rfl, rfl⟩; refine gK.go ?_)
    simp -implicitDefEqProofs [c0]
    first | refine dcallK (eqPh_own o0 x.is (fun p hp => List.mem_append_right _ (hp)) lx) ?_ | (refine (eqPh_own o0 x.is (fun p hp => List.mem_append_right _ (hp)) lx).mono ?_; rintro v h' ⟨rfl, rfl⟩; refine gK.go ?_)
    simp -implicitDefEqProofs [c0]
    refine (markPh_drop o0 gg (fun p hp => List.mem_append_right _ (hp)) ?_ ?_ (1) (by omega) (by omega)).monoN ?_
    · simpa only [List.append_assoc] using keepL (a := gg) (b := g0) (by simpa only [List.append_assoc] using ng)
    · exact fun nd => nodupL (a := gg) (b := g0) (by simpa only [List.append_assoc] using nd)
    rintro _ _ ⟨e1, e2⟩ nk0
    rw [e1, e2]; rw [e2] at nk0
    refine gK.go ?_
    have hk : ¬ (1 + 3 * (x.ts.length : Int)) < 0 := by omega
    simp -implicitDefEqProofs [c0, hk]
    first | refine dcallK (eqI_own og (.snap x.pres) (fun p hp => hp) (show x.pres.length ≤ 1048576 by omega)) ?_ | (refine (eqI_own og (.snap x.pres) (fun p hp => hp) (show x.pres.length ≤ 1048576 by omega)).mono ?_; rintro v h' ⟨rfl, rfl⟩; refine gK.go ?_)
    simp -implicitDefEqProofs [c0]
    skip
    refine (markI_keep og [] (fun p hp => hp) keepN (fun _ => by simp [dom]) 1 (by omega) (by have := (show x.pres.length ≤ 1048576 by omega); omega)).mono ?_
    rintro _ _ ⟨gm, rfl, om, rfl⟩
    refine gK.go ?_
    simp -implicitDefEqProofs [c0]
    have hq : ¬ (1 + (x.pres.length : Int) < 0) := by omega
    first | refine dcallK (heldI_own om (fun p hp => hp) 1 (by omega) (by have := (show x.pres.length ≤ 1048576 by omega); simp; omega)) ?_ | (refine (heldI_own om (fun p hp => hp) 1 (by omega) (by have := (show x.pres.length ≤ 1048576 by omega); simp; omega)).mono ?_; rintro v h' ⟨rfl, rfl⟩; refine gK.go ?_)
    simp -implicitDefEqProofs [c0, hq]
    first | refine dcallK (toPhases_c x _ lx) ?_ | (refine (toPhases_c x _ lx).mono ?_; rintro v h' ⟨rfl, rfl⟩; refine gK.go ?_)
    simp -implicitDefEqProofs [c0]
    refine (ACalls.gives [] (by simp) (S := fun v h' => ∃ w, v = .tup [w, .int .i64 x.pcode] ∧ OwnL iv 1 w x.pres h') ?_ ?_).mono ?_
    · exact implPot_o x hx.1 lx
    · rintro v h' ⟨w, rfl, ho⟩
      have := ho.own own_iv1
      exact ⟨by simp [own, owns, this.1], this.2⟩
    rintro _ _ ⟨g9, ⟨w9, rfl, o9⟩, d9, rfl⟩
    refine gK.go ?_
    simp -implicitDefEqProofs [c0, hq]
    first | refine dcallK (eqI_own o9 (.snap x.pres) (fun p hp => List.mem_append_left _ hp) (show x.pres.length ≤ 1048576 by omega)) ?_ | (refine (eqI_own o9 (.snap x.pres) (fun p hp => List.mem_append_left _ hp) (show x.pres.length ≤ 1048576 by omega)).mono ?_; rintro v h' ⟨rfl, rfl⟩; refine gK.go ?_)
    simp -implicitDefEqProofs [c0, hq]
    first | refine dcallK (heldI_own om (fun p hp => List.mem_append_right _ hp) 1 (by omega) (by have := (show x.pres.length ≤ 1048576 by omega); simp; omega)) ?_ | (refine (heldI_own om (fun p hp => List.mem_append_right _ hp) 1 (by omega) (by have := (show x.pres.length ≤ 1048576 by omega); simp; omega)).mono ?_; rintro v h' ⟨rfl, rfl⟩; refine gK.go ?_)
    simp -implicitDefEqProofs [c0, hq]
    exact Post.none ⟨rfl, rfl⟩
  · have hAx : (1048576 : Int) < x.ts.length := by omega
    simp -implicitDefEqProofs [hx2_x, hAx]
    exact .base ⟨rfl, rfl⟩
end Go.AG
namespace Go.Proofs.Ytknonamjhdlmlaa
open Go.ChangeShapes Go.WideShapes Go.ChangeAt Go.RowKit Go.AG
theorem own : ownKnob Try.prog.godebug = none := by kernel_rfl
theorem laidOut : laidOutB Try.prog = true := by kernel_rfl
set_option maxRecDepth 100000 in
theorem fnExactPotentialOf_lifted (os : Os) (started : os.Started) (H : Type) (enc : TypeId × Value → H) :
    ReturnsInHanded {} Try.checked os 10 .any (Rows.fnExactPotentialOfSpec.pre6 enc Try.prog Try.f10 Rows.fnExactPotentialOfRow.domain false) (Rows.fnExactPotentialOfSpec.post enc Try.prog Try.f10 false true false false) := by
  refine returnsInHanded_of_change (C := Try.checked) own started (by kernel_rfl) Try.func10
    (ChangeSpec.witness6 (enc := enc) (C := Try.checked) false ⟨#[], #[.agg #[.int .i64 0, .int .i64 0, .slice none 0 0]], []⟩ 8 (by kernel_rfl) (by kernel_rfl) (by kernel_rfl) (by kernel_rfl)) ?_
  intro W base args ds gs before hval0 hW _ _
  have hval : ∀ (j : Nat) t v, Try.f10.params[j]? = some t → args[j]? = some v → Value.okWide Try.prog W .any base t v := hval0
  refine law_post (tys := [tyPh]) (tb := 4) laidOut rfl (by kernel_rfl) (by kernel_rfl) (by kernel_rfl) (by kernel_rfl) hval hW ?_ ?_
  · intro ds h
    match ds, h with
    | [a0], _ => rfl
  · rintro xs ⟨x0, r0, rfl, h0, hr⟩
    have hr0 : r0 = [] := hr
    subst hr0
    obtain ⟨p0, rfl, q0⟩ := Ph_of_shape h0
    exact potential_law p0 q0
theorem fnExactPotentialOf_holds : Rows.FnExactPotentialOfSaid :=
  OpenClaim.holds_of_wide 10 Try.f10 rfl rfl rfl rfl rfl rfl rfl ⟨rfl, rfl, rfl, rfl, rfl⟩ rfl rfl rfl rfl rfl (by kernel_rfl) Try.func10 (by kernel_rfl)
    (of_decide_eq_true (by kernel_rfl)) (by unfold Func.isWrapper; first | (rw [if_pos (by decide +kernel)]; kernel_rfl) | (rw [if_neg (by decide +kernel)]; exact ⟨rfl, rfl⟩))
    (fun os started H enc _ => fnExactPotentialOf_lifted os started H enc)
end Go.Proofs.Ytknonamjhdlmlaa
