/- The law FnExactGreedyRounds is true for every input: the program's GreedyRounds returns what the reference's returns. -/
import Derived.Test.YtlncpnefkpfojaaCtGS
import Derived.Test.YtlncpnefkpfojaaGrM
import Derived.Test.YtlncpnefkpfojaaISSM
namespace Go.AG
open Go.Proofs Go.Proofs.Ytlncpnefkpfojaa
set_option linter.unusedSimpArgs false
set_option linter.unusedVariables false
set_option maxRecDepth 4000
noncomputable def orcM : List (Nat × (List AV → Option (Prop × AV))) := (15, o_szGraph) :: (28, o_szInt64SS) :: []
theorem orcM_p : Pure Try.prog (lk orcM) := (lk_pure o_szGraph_k (lk_pure o_szInt64SS_k lk_pure0))
@[simp] theorem orcM_l (g : FuncId) (l : List AV) : lk orcM g l = if g = 15 then o_szGraph l else if g = 28 then o_szInt64SS l else none := nr rfl
abbrev c_laws_FnExactGreedyRounds_o0 : List AJ := [.o ⟨(some 1), none, false, .box false 2 (.t 0), none⟩, .o ⟨(some 2), none, false, .mv (.c (.bool false)), (some [1])⟩]
def c_laws_FnExactGreedyRounds_0 : ACode := .region c_laws_FnExactGreedyRounds_o0
abbrev c_laws_FnExactGreedyRounds_o1 : List AJ := [.o ⟨(some 3), none, false, .mv (.c (.int .i64 1048576)), (some [1, 3])⟩]
def c_laws_FnExactGreedyRounds_1 : ACode := .region c_laws_FnExactGreedyRounds_o1
abbrev c_laws_FnExactGreedyRounds_o2 : List AJ := [.o ⟨(some 14), none, false, .load 2 true (.t 1), none⟩, .o ⟨(some 15), none, false, .mv (.t 3), none⟩, .o ⟨(some 16), none, false, .call 15 [(.t 14), (.t 15)], none⟩, .o ⟨(some 3), none, false, .mv (.t 16), (some [1, 3])⟩]
def c_laws_FnExactGreedyRounds_2 : ACode := .region c_laws_FnExactGreedyRounds_o2
abbrev c_laws_FnExactGreedyRounds_o3 : List AJ := [.o ⟨(some 17), none, false, .mv (.t 3), none⟩, .o ⟨(some 18), none, false, .bin .lss (.t 17) (.c (.int .i64 0)), (some [1, 18])⟩]
def c_laws_FnExactGreedyRounds_3 : ACode := .region c_laws_FnExactGreedyRounds_o3
abbrev c_laws_FnExactGreedyRounds_o4 : List AJ := [.o ⟨(some 2), none, false, .mv (.c (.bool true)), (some [2])⟩]
def c_laws_FnExactGreedyRounds_4 : ACode := .region c_laws_FnExactGreedyRounds_o4
def c_laws_FnExactGreedyRounds_5 : ACode := .seq c_laws_FnExactGreedyRounds_4 .ret
def c_laws_FnExactGreedyRounds_6 : ACode := .cond (.t 18) c_laws_FnExactGreedyRounds_5 .skip
def c_laws_FnExactGreedyRounds_7 : ACode := .seq c_laws_FnExactGreedyRounds_3 c_laws_FnExactGreedyRounds_6
abbrev c_laws_FnExactGreedyRounds_o5 : List AJ := [.o ⟨(some 20), none, false, .load 2 true (.t 1), none⟩, .o ⟨(some 21), none, false, .call 17 [(.t 20)], none⟩, .o ⟨(some 22), none, false, .call 20 [(.t 21)], none⟩, .o ⟨(some 19), none, false, .mv (.t 22), none⟩, .o ⟨(some 23), none, false, .extract (.t 19) 0, none⟩, .o ⟨(some 24), none, false, .extract (.t 19) 1, none⟩, .o ⟨(some 4), none, false, .mv (.t 23), none⟩, .o ⟨(some 5), none, false, .mv (.t 24), (some [1, 4, 5])⟩]
def c_laws_FnExactGreedyRounds_8 : ACode := .region c_laws_FnExactGreedyRounds_o5
abbrev c_laws_FnExactGreedyRounds_o6 : List AJ := [.o ⟨(some 25), none, false, .load 2 true (.t 1), none⟩, .o ⟨(some 26), none, false, .call 17 [(.t 25)], none⟩, .v 6 2 (.agg [(.int .i64 0), .nilsl]) [] (.t 26) (some [1, 4, 5, 6])]
def c_laws_FnExactGreedyRounds_9 : ACode := .region c_laws_FnExactGreedyRounds_o6
abbrev c_laws_FnExactGreedyRounds_o7 : List AJ := [.o ⟨(some 28), none, false, .load 2 true (.t 6), none⟩, .o ⟨(some 29), none, false, .call 21 [(.t 28)], none⟩, .o ⟨(some 27), none, false, .mv (.t 29), none⟩, .o ⟨(some 30), none, false, .extract (.t 27) 0, none⟩, .o ⟨(some 31), none, false, .extract (.t 27) 1, none⟩, .o ⟨(some 7), none, false, .mv (.t 30), none⟩, .o ⟨(some 8), none, false, .mv (.t 31), (some [1, 4, 5, 6, 7, 8])⟩]
def c_laws_FnExactGreedyRounds_10 : ACode := .region c_laws_FnExactGreedyRounds_o7
abbrev c_laws_FnExactGreedyRounds_o8 : List AJ := [.o ⟨(some 32), none, false, .mv (.t 7), none⟩, .o ⟨(some 33), none, false, .mv (.t 4), none⟩, .o ⟨(some 34), none, false, .call 22 [(.t 32), (.t 33)], none⟩, .o ⟨(some 35), none, false, .un .not (.t 34), none⟩, .o ⟨(some 36), none, false, .mv (.t 35), none⟩, .o ⟨(some 37), (some (36, false)), false, .mv (.t 8), none⟩, .o ⟨(some 38), (some (36, false)), false, .mv (.t 5), none⟩, .o ⟨(some 39), (some (36, false)), false, .bin .neq (.t 37) (.t 38), none⟩, .o ⟨(some 40), none, false, .pick (.t 36) (.c (.bool true)) (.t 39), (some [1, 4, 5, 6, 7, 8, 40])⟩]
def c_laws_FnExactGreedyRounds_11 : ACode := .region c_laws_FnExactGreedyRounds_o8
abbrev c_laws_FnExactGreedyRounds_o9 : List AJ := [.o ⟨(some 2), none, false, .mv (.c (.bool false)), (some [2])⟩]
def c_laws_FnExactGreedyRounds_12 : ACode := .region c_laws_FnExactGreedyRounds_o9
def c_laws_FnExactGreedyRounds_13 : ACode := .seq c_laws_FnExactGreedyRounds_12 .ret
def c_laws_FnExactGreedyRounds_14 : ACode := .cond (.t 40) c_laws_FnExactGreedyRounds_13 .skip
def c_laws_FnExactGreedyRounds_15 : ACode := .seq c_laws_FnExactGreedyRounds_11 c_laws_FnExactGreedyRounds_14
abbrev c_laws_FnExactGreedyRounds_o10 : List AI := [⟨(some 41), none, false, .load 2 true (.t 6), none⟩, ⟨(some 42), none, false, .load 2 true (.t 1), none⟩, ⟨(some 43), none, false, .call 17 [(.t 42)], none⟩, ⟨(some 44), none, false, .call 19 [(.t 41), (.t 43)], none⟩, ⟨(some 45), none, false, .un .not (.t 44), (some [1, 4, 5, 6, 7, 8, 45])⟩]
def c_laws_FnExactGreedyRounds_16 : ACode := .draw c_laws_FnExactGreedyRounds_o10 [] rfl
abbrev c_laws_FnExactGreedyRounds_o11 : List AJ := [.o ⟨(some 2), none, false, .mv (.c (.bool false)), (some [2])⟩]
def c_laws_FnExactGreedyRounds_17 : ACode := .region c_laws_FnExactGreedyRounds_o11
def c_laws_FnExactGreedyRounds_18 : ACode := .seq c_laws_FnExactGreedyRounds_17 .ret
def c_laws_FnExactGreedyRounds_19 : ACode := .cond (.t 45) c_laws_FnExactGreedyRounds_18 .skip
def c_laws_FnExactGreedyRounds_20 : ACode := .seq c_laws_FnExactGreedyRounds_16 c_laws_FnExactGreedyRounds_19
abbrev c_laws_FnExactGreedyRounds_o12 : List AJ := [.o ⟨(some 9), none, false, .mv (.c (.int .i64 1)), (some [1, 4, 5, 6, 7, 8, 9])⟩]
def c_laws_FnExactGreedyRounds_21 : ACode := .region c_laws_FnExactGreedyRounds_o12
abbrev c_laws_FnExactGreedyRounds_o13 : List AJ := [.o ⟨(some 46), none, false, .load 2 true (.t 6), none⟩, .o ⟨(some 47), none, false, .mv (.t 9), none⟩, .o ⟨(some 48), none, false, .call 23 [(.t 46), (.t 47)], none⟩, .o ⟨(some 9), none, false, .mv (.t 48), (some [1, 4, 5, 7, 8, 9])⟩]
def c_laws_FnExactGreedyRounds_22 : ACode := .region c_laws_FnExactGreedyRounds_o13
abbrev c_laws_FnExactGreedyRounds_o14 : List AJ := [.o ⟨(some 49), none, false, .mv (.t 9), none⟩, .o ⟨(some 50), none, false, .bin .lss (.t 49) (.c (.int .i64 0)), none⟩, .o ⟨(some 51), none, false, .mv (.t 50), none⟩, .o ⟨(some 52), (some (51, false)), false, .mv (.t 7), none⟩, .o ⟨(some 53), (some (51, false)), false, .mv (.t 4), none⟩, .o ⟨(some 54), (some (51, false)), false, .call 22 [(.t 52), (.t 53)], none⟩, .o ⟨(some 55), (some (51, false)), false, .un .not (.t 54), none⟩, .o ⟨(some 56), none, false, .pick (.t 51) (.c (.bool true)) (.t 55), none⟩, .o ⟨(some 57), none, false, .mv (.t 56), none⟩, .o ⟨(some 58), (some (57, false)), false, .mv (.t 8), (some [1, 4, 5, 7, 57, 58])⟩, .o ⟨(some 59), (some (57, false)), false, .mv (.t 5), none⟩, .o ⟨(some 60), (some (57, false)), false, .bin .neq (.t 58) (.t 59), none⟩, .o ⟨(some 61), none, false, .pick (.t 57) (.c (.bool true)) (.t 60), (some [1, 4, 5, 7, 61])⟩]
def c_laws_FnExactGreedyRounds_23 : ACode := .region c_laws_FnExactGreedyRounds_o14
abbrev c_laws_FnExactGreedyRounds_o15 : List AJ := [.o ⟨(some 2), none, false, .mv (.c (.bool false)), (some [2])⟩]
def c_laws_FnExactGreedyRounds_24 : ACode := .region c_laws_FnExactGreedyRounds_o15
def c_laws_FnExactGreedyRounds_25 : ACode := .seq c_laws_FnExactGreedyRounds_24 .ret
def c_laws_FnExactGreedyRounds_26 : ACode := .cond (.t 61) c_laws_FnExactGreedyRounds_25 .skip
def c_laws_FnExactGreedyRounds_27 : ACode := .seq c_laws_FnExactGreedyRounds_23 c_laws_FnExactGreedyRounds_26
abbrev c_laws_FnExactGreedyRounds_o16 : List AJ := [.o ⟨(some 10), none, false, .mv (.c (.int .i64 1)), (some [1, 4, 5, 7, 10])⟩]
def c_laws_FnExactGreedyRounds_28 : ACode := .region c_laws_FnExactGreedyRounds_o16
abbrev c_laws_FnExactGreedyRounds_o17 : List AJ := [.o ⟨(some 62), none, false, .mv (.t 7), none⟩, .o ⟨(some 63), none, false, .mv (.t 10), none⟩, .o ⟨(some 64), none, false, .call 24 [(.t 62), (.t 63)], none⟩, .o ⟨(some 10), none, false, .mv (.t 64), (some [1, 4, 5, 7, 10])⟩]
def c_laws_FnExactGreedyRounds_29 : ACode := .region c_laws_FnExactGreedyRounds_o17
abbrev c_laws_FnExactGreedyRounds_o18 : List AJ := [.o ⟨(some 11), none, false, .mv (.c (.int .i64 1)), (some [1, 4, 5, 7, 10, 11])⟩]
def c_laws_FnExactGreedyRounds_30 : ACode := .region c_laws_FnExactGreedyRounds_o18
abbrev c_laws_FnExactGreedyRounds_o19 : List AJ := [.o ⟨(some 65), none, false, .mv (.t 7), none⟩, .o ⟨(some 66), none, false, .mv (.t 11), none⟩, .o ⟨(some 67), none, false, .call 25 [(.t 65), (.t 66)], none⟩, .o ⟨(some 11), none, false, .mv (.t 67), (some [1, 4, 5, 7, 10, 11])⟩]
def c_laws_FnExactGreedyRounds_31 : ACode := .region c_laws_FnExactGreedyRounds_o19
abbrev c_laws_FnExactGreedyRounds_o20 : List AJ := [.o ⟨(some 68), none, false, .mv (.t 11), none⟩, .o ⟨(some 69), none, false, .bin .lss (.t 68) (.c (.int .i64 0)), (some [1, 4, 5, 7, 10, 11, 69])⟩]
def c_laws_FnExactGreedyRounds_32 : ACode := .region c_laws_FnExactGreedyRounds_o20
abbrev c_laws_FnExactGreedyRounds_o21 : List AJ := [.o ⟨(some 2), none, false, .mv (.c (.bool false)), (some [2])⟩]
def c_laws_FnExactGreedyRounds_33 : ACode := .region c_laws_FnExactGreedyRounds_o21
def c_laws_FnExactGreedyRounds_34 : ACode := .seq c_laws_FnExactGreedyRounds_33 .ret
def c_laws_FnExactGreedyRounds_35 : ACode := .cond (.t 69) c_laws_FnExactGreedyRounds_34 .skip
def c_laws_FnExactGreedyRounds_36 : ACode := .seq c_laws_FnExactGreedyRounds_32 c_laws_FnExactGreedyRounds_35
abbrev c_laws_FnExactGreedyRounds_o22 : List AJ := [.o ⟨(some 70), none, false, .mv (.t 11), none⟩, .o ⟨(some 71), none, false, .mv (.t 10), none⟩, .o ⟨(some 72), none, false, .bin .neq (.t 70) (.t 71), (some [1, 4, 5, 7, 10, 72])⟩]
def c_laws_FnExactGreedyRounds_37 : ACode := .region c_laws_FnExactGreedyRounds_o22
abbrev c_laws_FnExactGreedyRounds_o23 : List AJ := [.o ⟨(some 2), none, false, .mv (.c (.bool false)), (some [2])⟩]
def c_laws_FnExactGreedyRounds_38 : ACode := .region c_laws_FnExactGreedyRounds_o23
def c_laws_FnExactGreedyRounds_39 : ACode := .seq c_laws_FnExactGreedyRounds_38 .ret
def c_laws_FnExactGreedyRounds_40 : ACode := .cond (.t 72) c_laws_FnExactGreedyRounds_39 .skip
def c_laws_FnExactGreedyRounds_41 : ACode := .seq c_laws_FnExactGreedyRounds_37 c_laws_FnExactGreedyRounds_40
abbrev c_laws_FnExactGreedyRounds_o24 : List AJ := [.o ⟨(some 74), none, false, .load 2 true (.t 1), none⟩, .o ⟨(some 75), none, false, .call 17 [(.t 74)], none⟩, .o ⟨(some 76), none, false, .call 21 [(.t 75)], none⟩, .o ⟨(some 73), none, false, .mv (.t 76), none⟩, .o ⟨(some 77), none, false, .extract (.t 73) 0, none⟩, .o ⟨(some 78), none, false, .extract (.t 73) 1, none⟩, .o ⟨(some 12), none, false, .mv (.t 77), none⟩, .o ⟨(some 13), none, false, .mv (.t 78), (some [4, 5, 7, 10, 12, 13])⟩]
def c_laws_FnExactGreedyRounds_42 : ACode := .region c_laws_FnExactGreedyRounds_o24
abbrev c_laws_FnExactGreedyRounds_o25 : List AJ := [.o ⟨(some 79), none, false, .mv (.t 12), none⟩, .o ⟨(some 80), none, false, .mv (.t 4), none⟩, .o ⟨(some 81), none, false, .call 22 [(.t 79), (.t 80)], none⟩, .o ⟨(some 82), none, false, .un .not (.t 81), none⟩, .o ⟨(some 83), none, false, .mv (.t 82), none⟩, .o ⟨(some 84), (some (83, false)), false, .mv (.t 13), none⟩, .o ⟨(some 85), (some (83, false)), false, .mv (.t 5), none⟩, .o ⟨(some 86), (some (83, false)), false, .bin .neq (.t 84) (.t 85), none⟩, .o ⟨(some 87), none, false, .pick (.t 83) (.c (.bool true)) (.t 86), (some [7, 10, 87])⟩]
def c_laws_FnExactGreedyRounds_43 : ACode := .region c_laws_FnExactGreedyRounds_o25
abbrev c_laws_FnExactGreedyRounds_o26 : List AJ := [.o ⟨(some 2), none, false, .mv (.c (.bool false)), (some [2])⟩]
def c_laws_FnExactGreedyRounds_44 : ACode := .region c_laws_FnExactGreedyRounds_o26
def c_laws_FnExactGreedyRounds_45 : ACode := .seq c_laws_FnExactGreedyRounds_44 .ret
def c_laws_FnExactGreedyRounds_46 : ACode := .cond (.t 87) c_laws_FnExactGreedyRounds_45 .skip
def c_laws_FnExactGreedyRounds_47 : ACode := .seq c_laws_FnExactGreedyRounds_43 c_laws_FnExactGreedyRounds_46
abbrev c_laws_FnExactGreedyRounds_o27 : List AJ := [.o ⟨(some 11), none, false, .mv (.c (.int .i64 1)), (some [7, 10, 11])⟩]
def c_laws_FnExactGreedyRounds_48 : ACode := .region c_laws_FnExactGreedyRounds_o27
abbrev c_laws_FnExactGreedyRounds_o28 : List AJ := [.o ⟨(some 88), none, false, .mv (.t 7), none⟩, .o ⟨(some 89), none, false, .mv (.t 11), none⟩, .o ⟨(some 90), none, false, .call 25 [(.t 88), (.t 89)], none⟩, .o ⟨(some 11), none, false, .mv (.t 90), (some [10, 11])⟩]
def c_laws_FnExactGreedyRounds_49 : ACode := .region c_laws_FnExactGreedyRounds_o28
abbrev c_laws_FnExactGreedyRounds_o29 : List AJ := [.o ⟨(some 91), none, false, .mv (.t 11), none⟩, .o ⟨(some 92), none, false, .bin .lss (.t 91) (.c (.int .i64 0)), (some [10, 11, 92])⟩]
def c_laws_FnExactGreedyRounds_50 : ACode := .region c_laws_FnExactGreedyRounds_o29
abbrev c_laws_FnExactGreedyRounds_o30 : List AJ := [.o ⟨(some 2), none, false, .mv (.c (.bool false)), (some [2])⟩]
def c_laws_FnExactGreedyRounds_51 : ACode := .region c_laws_FnExactGreedyRounds_o30
def c_laws_FnExactGreedyRounds_52 : ACode := .seq c_laws_FnExactGreedyRounds_51 .ret
def c_laws_FnExactGreedyRounds_53 : ACode := .cond (.t 92) c_laws_FnExactGreedyRounds_52 .skip
def c_laws_FnExactGreedyRounds_54 : ACode := .seq c_laws_FnExactGreedyRounds_50 c_laws_FnExactGreedyRounds_53
abbrev c_laws_FnExactGreedyRounds_o31 : List AJ := [.o ⟨(some 93), none, false, .mv (.t 11), none⟩, .o ⟨(some 94), none, false, .mv (.t 10), none⟩, .o ⟨(some 95), none, false, .bin .neq (.t 93) (.t 94), (some [95])⟩]
def c_laws_FnExactGreedyRounds_55 : ACode := .region c_laws_FnExactGreedyRounds_o31
abbrev c_laws_FnExactGreedyRounds_o32 : List AJ := [.o ⟨(some 2), none, false, .mv (.c (.bool false)), (some [2])⟩]
def c_laws_FnExactGreedyRounds_56 : ACode := .region c_laws_FnExactGreedyRounds_o32
def c_laws_FnExactGreedyRounds_57 : ACode := .seq c_laws_FnExactGreedyRounds_56 .ret
def c_laws_FnExactGreedyRounds_58 : ACode := .cond (.t 95) c_laws_FnExactGreedyRounds_57 .skip
def c_laws_FnExactGreedyRounds_59 : ACode := .seq c_laws_FnExactGreedyRounds_55 c_laws_FnExactGreedyRounds_58
abbrev c_laws_FnExactGreedyRounds_o33 : List AJ := [.o ⟨(some 2), none, false, .mv (.c (.bool true)), (some [2])⟩]
def c_laws_FnExactGreedyRounds_60 : ACode := .region c_laws_FnExactGreedyRounds_o33
def c_laws_FnExactGreedyRounds_61 : ACode := .seq c_laws_FnExactGreedyRounds_60 .ret
def c_laws_FnExactGreedyRounds_62 : ACode := .seq c_laws_FnExactGreedyRounds_59 c_laws_FnExactGreedyRounds_61
def c_laws_FnExactGreedyRounds_63 : ACode := .seq c_laws_FnExactGreedyRounds_54 c_laws_FnExactGreedyRounds_62
def c_laws_FnExactGreedyRounds_64 : ACode := .seq c_laws_FnExactGreedyRounds_49 c_laws_FnExactGreedyRounds_63
def c_laws_FnExactGreedyRounds_65 : ACode := .seq c_laws_FnExactGreedyRounds_48 c_laws_FnExactGreedyRounds_64
def c_laws_FnExactGreedyRounds_66 : ACode := .seq c_laws_FnExactGreedyRounds_47 c_laws_FnExactGreedyRounds_65
def c_laws_FnExactGreedyRounds_67 : ACode := .seq c_laws_FnExactGreedyRounds_42 c_laws_FnExactGreedyRounds_66
def c_laws_FnExactGreedyRounds_68 : ACode := .seq c_laws_FnExactGreedyRounds_41 c_laws_FnExactGreedyRounds_67
def c_laws_FnExactGreedyRounds_69 : ACode := .seq c_laws_FnExactGreedyRounds_36 c_laws_FnExactGreedyRounds_68
def c_laws_FnExactGreedyRounds_70 : ACode := .seq c_laws_FnExactGreedyRounds_31 c_laws_FnExactGreedyRounds_69
def c_laws_FnExactGreedyRounds_71 : ACode := .seq c_laws_FnExactGreedyRounds_30 c_laws_FnExactGreedyRounds_70
def c_laws_FnExactGreedyRounds_72 : ACode := .seq c_laws_FnExactGreedyRounds_29 c_laws_FnExactGreedyRounds_71
def c_laws_FnExactGreedyRounds_73 : ACode := .seq c_laws_FnExactGreedyRounds_28 c_laws_FnExactGreedyRounds_72
def c_laws_FnExactGreedyRounds_74 : ACode := .seq c_laws_FnExactGreedyRounds_27 c_laws_FnExactGreedyRounds_73
def c_laws_FnExactGreedyRounds_75 : ACode := .seq c_laws_FnExactGreedyRounds_22 c_laws_FnExactGreedyRounds_74
def c_laws_FnExactGreedyRounds_76 : ACode := .seq c_laws_FnExactGreedyRounds_21 c_laws_FnExactGreedyRounds_75
def c_laws_FnExactGreedyRounds_77 : ACode := .seq c_laws_FnExactGreedyRounds_20 c_laws_FnExactGreedyRounds_76
def c_laws_FnExactGreedyRounds_78 : ACode := .seq c_laws_FnExactGreedyRounds_15 c_laws_FnExactGreedyRounds_77
def c_laws_FnExactGreedyRounds_79 : ACode := .seq c_laws_FnExactGreedyRounds_10 c_laws_FnExactGreedyRounds_78
def c_laws_FnExactGreedyRounds_80 : ACode := .seq c_laws_FnExactGreedyRounds_9 c_laws_FnExactGreedyRounds_79
def c_laws_FnExactGreedyRounds_81 : ACode := .seq c_laws_FnExactGreedyRounds_8 c_laws_FnExactGreedyRounds_80
def c_laws_FnExactGreedyRounds_82 : ACode := .seq c_laws_FnExactGreedyRounds_7 c_laws_FnExactGreedyRounds_81
def c_laws_FnExactGreedyRounds_83 : ACode := .seq c_laws_FnExactGreedyRounds_2 c_laws_FnExactGreedyRounds_82
def c_laws_FnExactGreedyRounds_84 : ACode := .seq c_laws_FnExactGreedyRounds_1 c_laws_FnExactGreedyRounds_83
def c_laws_FnExactGreedyRounds_85 : ACode := .seq c_laws_FnExactGreedyRounds_0 c_laws_FnExactGreedyRounds_84
section
variable (C : Cx) (n : Nat) (sk : List AItem) (e : Env) (h : Heap) (R : AV → Heap → Prop)
@[simp, simp ↓] theorem c_laws_FnExactGreedyRounds_0_r : vc2 C (n + 1) [] (.code c_laws_FnExactGreedyRounds_0 :: sk) e h R = (vc2 C n c_laws_FnExactGreedyRounds_o0 sk e h R) := nr rfl
@[simp, simp ↓] theorem c_laws_FnExactGreedyRounds_1_r : vc2 C (n + 1) [] (.code c_laws_FnExactGreedyRounds_1 :: sk) e h R = (vc2 C n c_laws_FnExactGreedyRounds_o1 sk e h R) := nr rfl
@[simp, simp ↓] theorem c_laws_FnExactGreedyRounds_2_r : vc2 C (n + 1) [] (.code c_laws_FnExactGreedyRounds_2 :: sk) e h R = (vc2 C n c_laws_FnExactGreedyRounds_o2 sk e h R) := nr rfl
@[simp, simp ↓] theorem c_laws_FnExactGreedyRounds_3_r : vc2 C (n + 1) [] (.code c_laws_FnExactGreedyRounds_3 :: sk) e h R = (vc2 C n c_laws_FnExactGreedyRounds_o3 sk e h R) := nr rfl
@[simp, simp ↓] theorem c_laws_FnExactGreedyRounds_4_r : vc2 C (n + 1) [] (.code c_laws_FnExactGreedyRounds_4 :: sk) e h R = (vc2 C n c_laws_FnExactGreedyRounds_o4 sk e h R) := nr rfl
@[simp, simp ↓] theorem c_laws_FnExactGreedyRounds_5_r : vc2 C (n + 1) [] (.code c_laws_FnExactGreedyRounds_5 :: sk) e h R = (vc2 C n [] (.code c_laws_FnExactGreedyRounds_4 :: .code .ret :: sk) e h R) := nr rfl
@[simp, simp ↓] theorem c_laws_FnExactGreedyRounds_6_r : vc2 C (n + 1) [] (.code c_laws_FnExactGreedyRounds_6 :: sk) e h R = (condK (ev e (.t 18)) (vc2 C n [] (.code c_laws_FnExactGreedyRounds_5 :: sk) e h R) (vc2 C n [] (.code .skip :: sk) e h R)) := nr rfl
@[simp, simp ↓] theorem c_laws_FnExactGreedyRounds_7_r : vc2 C (n + 1) [] (.code c_laws_FnExactGreedyRounds_7 :: sk) e h R = (vc2 C n [] (.code c_laws_FnExactGreedyRounds_3 :: .code c_laws_FnExactGreedyRounds_6 :: sk) e h R) := nr rfl
@[simp, simp ↓] theorem c_laws_FnExactGreedyRounds_8_r : vc2 C (n + 1) [] (.code c_laws_FnExactGreedyRounds_8 :: sk) e h R = (vc2 C n c_laws_FnExactGreedyRounds_o5 sk e h R) := nr rfl
@[simp, simp ↓] theorem c_laws_FnExactGreedyRounds_9_r : vc2 C (n + 1) [] (.code c_laws_FnExactGreedyRounds_9 :: sk) e h R = (vc2 C n c_laws_FnExactGreedyRounds_o6 sk e h R) := nr rfl
@[simp, simp ↓] theorem c_laws_FnExactGreedyRounds_10_r : vc2 C (n + 1) [] (.code c_laws_FnExactGreedyRounds_10 :: sk) e h R = (vc2 C n c_laws_FnExactGreedyRounds_o7 sk e h R) := nr rfl
@[simp, simp ↓] theorem c_laws_FnExactGreedyRounds_11_r : vc2 C (n + 1) [] (.code c_laws_FnExactGreedyRounds_11 :: sk) e h R = (vc2 C n c_laws_FnExactGreedyRounds_o8 sk e h R) := nr rfl
@[simp, simp ↓] theorem c_laws_FnExactGreedyRounds_12_r : vc2 C (n + 1) [] (.code c_laws_FnExactGreedyRounds_12 :: sk) e h R = (vc2 C n c_laws_FnExactGreedyRounds_o9 sk e h R) := nr rfl
@[simp, simp ↓] theorem c_laws_FnExactGreedyRounds_13_r : vc2 C (n + 1) [] (.code c_laws_FnExactGreedyRounds_13 :: sk) e h R = (vc2 C n [] (.code c_laws_FnExactGreedyRounds_12 :: .code .ret :: sk) e h R) := nr rfl
@[simp, simp ↓] theorem c_laws_FnExactGreedyRounds_14_r : vc2 C (n + 1) [] (.code c_laws_FnExactGreedyRounds_14 :: sk) e h R = (condK (ev e (.t 40)) (vc2 C n [] (.code c_laws_FnExactGreedyRounds_13 :: sk) e h R) (vc2 C n [] (.code .skip :: sk) e h R)) := nr rfl
@[simp, simp ↓] theorem c_laws_FnExactGreedyRounds_15_r : vc2 C (n + 1) [] (.code c_laws_FnExactGreedyRounds_15 :: sk) e h R = (vc2 C n [] (.code c_laws_FnExactGreedyRounds_11 :: .code c_laws_FnExactGreedyRounds_14 :: sk) e h R) := nr rfl
@[simp, simp ↓] theorem c_laws_FnExactGreedyRounds_16_r : vc2 C (n + 1) [] (.code c_laws_FnExactGreedyRounds_16 :: sk) e h R = (draw2 C h (vK C n [] sk R h) c_laws_FnExactGreedyRounds_o10 e) := nr rfl
@[simp, simp ↓] theorem c_laws_FnExactGreedyRounds_17_r : vc2 C (n + 1) [] (.code c_laws_FnExactGreedyRounds_17 :: sk) e h R = (vc2 C n c_laws_FnExactGreedyRounds_o11 sk e h R) := nr rfl
@[simp, simp ↓] theorem c_laws_FnExactGreedyRounds_18_r : vc2 C (n + 1) [] (.code c_laws_FnExactGreedyRounds_18 :: sk) e h R = (vc2 C n [] (.code c_laws_FnExactGreedyRounds_17 :: .code .ret :: sk) e h R) := nr rfl
@[simp, simp ↓] theorem c_laws_FnExactGreedyRounds_19_r : vc2 C (n + 1) [] (.code c_laws_FnExactGreedyRounds_19 :: sk) e h R = (condK (ev e (.t 45)) (vc2 C n [] (.code c_laws_FnExactGreedyRounds_18 :: sk) e h R) (vc2 C n [] (.code .skip :: sk) e h R)) := nr rfl
@[simp, simp ↓] theorem c_laws_FnExactGreedyRounds_20_r : vc2 C (n + 1) [] (.code c_laws_FnExactGreedyRounds_20 :: sk) e h R = (vc2 C n [] (.code c_laws_FnExactGreedyRounds_16 :: .code c_laws_FnExactGreedyRounds_19 :: sk) e h R) := nr rfl
@[simp, simp ↓] theorem c_laws_FnExactGreedyRounds_21_r : vc2 C (n + 1) [] (.code c_laws_FnExactGreedyRounds_21 :: sk) e h R = (vc2 C n c_laws_FnExactGreedyRounds_o12 sk e h R) := nr rfl
@[simp, simp ↓] theorem c_laws_FnExactGreedyRounds_22_r : vc2 C (n + 1) [] (.code c_laws_FnExactGreedyRounds_22 :: sk) e h R = (vc2 C n c_laws_FnExactGreedyRounds_o13 sk e h R) := nr rfl
@[simp, simp ↓] theorem c_laws_FnExactGreedyRounds_23_r : vc2 C (n + 1) [] (.code c_laws_FnExactGreedyRounds_23 :: sk) e h R = (vc2 C n c_laws_FnExactGreedyRounds_o14 sk e h R) := nr rfl
@[simp, simp ↓] theorem c_laws_FnExactGreedyRounds_24_r : vc2 C (n + 1) [] (.code c_laws_FnExactGreedyRounds_24 :: sk) e h R = (vc2 C n c_laws_FnExactGreedyRounds_o15 sk e h R) := nr rfl
@[simp, simp ↓] theorem c_laws_FnExactGreedyRounds_25_r : vc2 C (n + 1) [] (.code c_laws_FnExactGreedyRounds_25 :: sk) e h R = (vc2 C n [] (.code c_laws_FnExactGreedyRounds_24 :: .code .ret :: sk) e h R) := nr rfl
@[simp, simp ↓] theorem c_laws_FnExactGreedyRounds_26_r : vc2 C (n + 1) [] (.code c_laws_FnExactGreedyRounds_26 :: sk) e h R = (condK (ev e (.t 61)) (vc2 C n [] (.code c_laws_FnExactGreedyRounds_25 :: sk) e h R) (vc2 C n [] (.code .skip :: sk) e h R)) := nr rfl
@[simp, simp ↓] theorem c_laws_FnExactGreedyRounds_27_r : vc2 C (n + 1) [] (.code c_laws_FnExactGreedyRounds_27 :: sk) e h R = (vc2 C n [] (.code c_laws_FnExactGreedyRounds_23 :: .code c_laws_FnExactGreedyRounds_26 :: sk) e h R) := nr rfl
@[simp, simp ↓] theorem c_laws_FnExactGreedyRounds_28_r : vc2 C (n + 1) [] (.code c_laws_FnExactGreedyRounds_28 :: sk) e h R = (vc2 C n c_laws_FnExactGreedyRounds_o16 sk e h R) := nr rfl
@[simp, simp ↓] theorem c_laws_FnExactGreedyRounds_29_r : vc2 C (n + 1) [] (.code c_laws_FnExactGreedyRounds_29 :: sk) e h R = (vc2 C n c_laws_FnExactGreedyRounds_o17 sk e h R) := nr rfl
@[simp, simp ↓] theorem c_laws_FnExactGreedyRounds_30_r : vc2 C (n + 1) [] (.code c_laws_FnExactGreedyRounds_30 :: sk) e h R = (vc2 C n c_laws_FnExactGreedyRounds_o18 sk e h R) := nr rfl
@[simp, simp ↓] theorem c_laws_FnExactGreedyRounds_31_r : vc2 C (n + 1) [] (.code c_laws_FnExactGreedyRounds_31 :: sk) e h R = (vc2 C n c_laws_FnExactGreedyRounds_o19 sk e h R) := nr rfl
@[simp, simp ↓] theorem c_laws_FnExactGreedyRounds_32_r : vc2 C (n + 1) [] (.code c_laws_FnExactGreedyRounds_32 :: sk) e h R = (vc2 C n c_laws_FnExactGreedyRounds_o20 sk e h R) := nr rfl
@[simp, simp ↓] theorem c_laws_FnExactGreedyRounds_33_r : vc2 C (n + 1) [] (.code c_laws_FnExactGreedyRounds_33 :: sk) e h R = (vc2 C n c_laws_FnExactGreedyRounds_o21 sk e h R) := nr rfl
@[simp, simp ↓] theorem c_laws_FnExactGreedyRounds_34_r : vc2 C (n + 1) [] (.code c_laws_FnExactGreedyRounds_34 :: sk) e h R = (vc2 C n [] (.code c_laws_FnExactGreedyRounds_33 :: .code .ret :: sk) e h R) := nr rfl
@[simp, simp ↓] theorem c_laws_FnExactGreedyRounds_35_r : vc2 C (n + 1) [] (.code c_laws_FnExactGreedyRounds_35 :: sk) e h R = (condK (ev e (.t 69)) (vc2 C n [] (.code c_laws_FnExactGreedyRounds_34 :: sk) e h R) (vc2 C n [] (.code .skip :: sk) e h R)) := nr rfl
@[simp, simp ↓] theorem c_laws_FnExactGreedyRounds_36_r : vc2 C (n + 1) [] (.code c_laws_FnExactGreedyRounds_36 :: sk) e h R = (vc2 C n [] (.code c_laws_FnExactGreedyRounds_32 :: .code c_laws_FnExactGreedyRounds_35 :: sk) e h R) := nr rfl
@[simp, simp ↓] theorem c_laws_FnExactGreedyRounds_37_r : vc2 C (n + 1) [] (.code c_laws_FnExactGreedyRounds_37 :: sk) e h R = (vc2 C n c_laws_FnExactGreedyRounds_o22 sk e h R) := nr rfl
@[simp, simp ↓] theorem c_laws_FnExactGreedyRounds_38_r : vc2 C (n + 1) [] (.code c_laws_FnExactGreedyRounds_38 :: sk) e h R = (vc2 C n c_laws_FnExactGreedyRounds_o23 sk e h R) := nr rfl
@[simp, simp ↓] theorem c_laws_FnExactGreedyRounds_39_r : vc2 C (n + 1) [] (.code c_laws_FnExactGreedyRounds_39 :: sk) e h R = (vc2 C n [] (.code c_laws_FnExactGreedyRounds_38 :: .code .ret :: sk) e h R) := nr rfl
@[simp, simp ↓] theorem c_laws_FnExactGreedyRounds_40_r : vc2 C (n + 1) [] (.code c_laws_FnExactGreedyRounds_40 :: sk) e h R = (condK (ev e (.t 72)) (vc2 C n [] (.code c_laws_FnExactGreedyRounds_39 :: sk) e h R) (vc2 C n [] (.code .skip :: sk) e h R)) := nr rfl
@[simp, simp ↓] theorem c_laws_FnExactGreedyRounds_41_r : vc2 C (n + 1) [] (.code c_laws_FnExactGreedyRounds_41 :: sk) e h R = (vc2 C n [] (.code c_laws_FnExactGreedyRounds_37 :: .code c_laws_FnExactGreedyRounds_40 :: sk) e h R) := nr rfl
@[simp, simp ↓] theorem c_laws_FnExactGreedyRounds_42_r : vc2 C (n + 1) [] (.code c_laws_FnExactGreedyRounds_42 :: sk) e h R = (vc2 C n c_laws_FnExactGreedyRounds_o24 sk e h R) := nr rfl
@[simp, simp ↓] theorem c_laws_FnExactGreedyRounds_43_r : vc2 C (n + 1) [] (.code c_laws_FnExactGreedyRounds_43 :: sk) e h R = (vc2 C n c_laws_FnExactGreedyRounds_o25 sk e h R) := nr rfl
@[simp, simp ↓] theorem c_laws_FnExactGreedyRounds_44_r : vc2 C (n + 1) [] (.code c_laws_FnExactGreedyRounds_44 :: sk) e h R = (vc2 C n c_laws_FnExactGreedyRounds_o26 sk e h R) := nr rfl
@[simp, simp ↓] theorem c_laws_FnExactGreedyRounds_45_r : vc2 C (n + 1) [] (.code c_laws_FnExactGreedyRounds_45 :: sk) e h R = (vc2 C n [] (.code c_laws_FnExactGreedyRounds_44 :: .code .ret :: sk) e h R) := nr rfl
@[simp, simp ↓] theorem c_laws_FnExactGreedyRounds_46_r : vc2 C (n + 1) [] (.code c_laws_FnExactGreedyRounds_46 :: sk) e h R = (condK (ev e (.t 87)) (vc2 C n [] (.code c_laws_FnExactGreedyRounds_45 :: sk) e h R) (vc2 C n [] (.code .skip :: sk) e h R)) := nr rfl
@[simp, simp ↓] theorem c_laws_FnExactGreedyRounds_47_r : vc2 C (n + 1) [] (.code c_laws_FnExactGreedyRounds_47 :: sk) e h R = (vc2 C n [] (.code c_laws_FnExactGreedyRounds_43 :: .code c_laws_FnExactGreedyRounds_46 :: sk) e h R) := nr rfl
@[simp, simp ↓] theorem c_laws_FnExactGreedyRounds_48_r : vc2 C (n + 1) [] (.code c_laws_FnExactGreedyRounds_48 :: sk) e h R = (vc2 C n c_laws_FnExactGreedyRounds_o27 sk e h R) := nr rfl
@[simp, simp ↓] theorem c_laws_FnExactGreedyRounds_49_r : vc2 C (n + 1) [] (.code c_laws_FnExactGreedyRounds_49 :: sk) e h R = (vc2 C n c_laws_FnExactGreedyRounds_o28 sk e h R) := nr rfl
@[simp, simp ↓] theorem c_laws_FnExactGreedyRounds_50_r : vc2 C (n + 1) [] (.code c_laws_FnExactGreedyRounds_50 :: sk) e h R = (vc2 C n c_laws_FnExactGreedyRounds_o29 sk e h R) := nr rfl
@[simp, simp ↓] theorem c_laws_FnExactGreedyRounds_51_r : vc2 C (n + 1) [] (.code c_laws_FnExactGreedyRounds_51 :: sk) e h R = (vc2 C n c_laws_FnExactGreedyRounds_o30 sk e h R) := nr rfl
@[simp, simp ↓] theorem c_laws_FnExactGreedyRounds_52_r : vc2 C (n + 1) [] (.code c_laws_FnExactGreedyRounds_52 :: sk) e h R = (vc2 C n [] (.code c_laws_FnExactGreedyRounds_51 :: .code .ret :: sk) e h R) := nr rfl
@[simp, simp ↓] theorem c_laws_FnExactGreedyRounds_53_r : vc2 C (n + 1) [] (.code c_laws_FnExactGreedyRounds_53 :: sk) e h R = (condK (ev e (.t 92)) (vc2 C n [] (.code c_laws_FnExactGreedyRounds_52 :: sk) e h R) (vc2 C n [] (.code .skip :: sk) e h R)) := nr rfl
@[simp, simp ↓] theorem c_laws_FnExactGreedyRounds_54_r : vc2 C (n + 1) [] (.code c_laws_FnExactGreedyRounds_54 :: sk) e h R = (vc2 C n [] (.code c_laws_FnExactGreedyRounds_50 :: .code c_laws_FnExactGreedyRounds_53 :: sk) e h R) := nr rfl
@[simp, simp ↓] theorem c_laws_FnExactGreedyRounds_55_r : vc2 C (n + 1) [] (.code c_laws_FnExactGreedyRounds_55 :: sk) e h R = (vc2 C n c_laws_FnExactGreedyRounds_o31 sk e h R) := nr rfl
@[simp, simp ↓] theorem c_laws_FnExactGreedyRounds_56_r : vc2 C (n + 1) [] (.code c_laws_FnExactGreedyRounds_56 :: sk) e h R = (vc2 C n c_laws_FnExactGreedyRounds_o32 sk e h R) := nr rfl
@[simp, simp ↓] theorem c_laws_FnExactGreedyRounds_57_r : vc2 C (n + 1) [] (.code c_laws_FnExactGreedyRounds_57 :: sk) e h R = (vc2 C n [] (.code c_laws_FnExactGreedyRounds_56 :: .code .ret :: sk) e h R) := nr rfl
@[simp, simp ↓] theorem c_laws_FnExactGreedyRounds_58_r : vc2 C (n + 1) [] (.code c_laws_FnExactGreedyRounds_58 :: sk) e h R = (condK (ev e (.t 95)) (vc2 C n [] (.code c_laws_FnExactGreedyRounds_57 :: sk) e h R) (vc2 C n [] (.code .skip :: sk) e h R)) := nr rfl
@[simp, simp ↓] theorem c_laws_FnExactGreedyRounds_59_r : vc2 C (n + 1) [] (.code c_laws_FnExactGreedyRounds_59 :: sk) e h R = (vc2 C n [] (.code c_laws_FnExactGreedyRounds_55 :: .code c_laws_FnExactGreedyRounds_58 :: sk) e h R) := nr rfl
@[simp, simp ↓] theorem c_laws_FnExactGreedyRounds_60_r : vc2 C (n + 1) [] (.code c_laws_FnExactGreedyRounds_60 :: sk) e h R = (vc2 C n c_laws_FnExactGreedyRounds_o33 sk e h R) := nr rfl
@[simp, simp ↓] theorem c_laws_FnExactGreedyRounds_61_r : vc2 C (n + 1) [] (.code c_laws_FnExactGreedyRounds_61 :: sk) e h R = (vc2 C n [] (.code c_laws_FnExactGreedyRounds_60 :: .code .ret :: sk) e h R) := nr rfl
@[simp, simp ↓] theorem c_laws_FnExactGreedyRounds_62_r : vc2 C (n + 1) [] (.code c_laws_FnExactGreedyRounds_62 :: sk) e h R = (vc2 C n [] (.code c_laws_FnExactGreedyRounds_59 :: .code c_laws_FnExactGreedyRounds_61 :: sk) e h R) := nr rfl
@[simp, simp ↓] theorem c_laws_FnExactGreedyRounds_63_r : vc2 C (n + 1) [] (.code c_laws_FnExactGreedyRounds_63 :: sk) e h R = (vc2 C n [] (.code c_laws_FnExactGreedyRounds_54 :: .code c_laws_FnExactGreedyRounds_62 :: sk) e h R) := nr rfl
@[simp, simp ↓] theorem c_laws_FnExactGreedyRounds_64_r : vc2 C (n + 1) [] (.code c_laws_FnExactGreedyRounds_64 :: sk) e h R = (vc2 C n [] (.code c_laws_FnExactGreedyRounds_49 :: .code c_laws_FnExactGreedyRounds_63 :: sk) e h R) := nr rfl
@[simp, simp ↓] theorem c_laws_FnExactGreedyRounds_65_r : vc2 C (n + 1) [] (.code c_laws_FnExactGreedyRounds_65 :: sk) e h R = (vc2 C n [] (.code c_laws_FnExactGreedyRounds_48 :: .code c_laws_FnExactGreedyRounds_64 :: sk) e h R) := nr rfl
@[simp, simp ↓] theorem c_laws_FnExactGreedyRounds_66_r : vc2 C (n + 1) [] (.code c_laws_FnExactGreedyRounds_66 :: sk) e h R = (vc2 C n [] (.code c_laws_FnExactGreedyRounds_47 :: .code c_laws_FnExactGreedyRounds_65 :: sk) e h R) := nr rfl
@[simp, simp ↓] theorem c_laws_FnExactGreedyRounds_67_r : vc2 C (n + 1) [] (.code c_laws_FnExactGreedyRounds_67 :: sk) e h R = (vc2 C n [] (.code c_laws_FnExactGreedyRounds_42 :: .code c_laws_FnExactGreedyRounds_66 :: sk) e h R) := nr rfl
@[simp, simp ↓] theorem c_laws_FnExactGreedyRounds_68_r : vc2 C (n + 1) [] (.code c_laws_FnExactGreedyRounds_68 :: sk) e h R = (vc2 C n [] (.code c_laws_FnExactGreedyRounds_41 :: .code c_laws_FnExactGreedyRounds_67 :: sk) e h R) := nr rfl
@[simp, simp ↓] theorem c_laws_FnExactGreedyRounds_69_r : vc2 C (n + 1) [] (.code c_laws_FnExactGreedyRounds_69 :: sk) e h R = (vc2 C n [] (.code c_laws_FnExactGreedyRounds_36 :: .code c_laws_FnExactGreedyRounds_68 :: sk) e h R) := nr rfl
@[simp, simp ↓] theorem c_laws_FnExactGreedyRounds_70_r : vc2 C (n + 1) [] (.code c_laws_FnExactGreedyRounds_70 :: sk) e h R = (vc2 C n [] (.code c_laws_FnExactGreedyRounds_31 :: .code c_laws_FnExactGreedyRounds_69 :: sk) e h R) := nr rfl
@[simp, simp ↓] theorem c_laws_FnExactGreedyRounds_71_r : vc2 C (n + 1) [] (.code c_laws_FnExactGreedyRounds_71 :: sk) e h R = (vc2 C n [] (.code c_laws_FnExactGreedyRounds_30 :: .code c_laws_FnExactGreedyRounds_70 :: sk) e h R) := nr rfl
@[simp, simp ↓] theorem c_laws_FnExactGreedyRounds_72_r : vc2 C (n + 1) [] (.code c_laws_FnExactGreedyRounds_72 :: sk) e h R = (vc2 C n [] (.code c_laws_FnExactGreedyRounds_29 :: .code c_laws_FnExactGreedyRounds_71 :: sk) e h R) := nr rfl
@[simp, simp ↓] theorem c_laws_FnExactGreedyRounds_73_r : vc2 C (n + 1) [] (.code c_laws_FnExactGreedyRounds_73 :: sk) e h R = (vc2 C n [] (.code c_laws_FnExactGreedyRounds_28 :: .code c_laws_FnExactGreedyRounds_72 :: sk) e h R) := nr rfl
@[simp, simp ↓] theorem c_laws_FnExactGreedyRounds_74_r : vc2 C (n + 1) [] (.code c_laws_FnExactGreedyRounds_74 :: sk) e h R = (vc2 C n [] (.code c_laws_FnExactGreedyRounds_27 :: .code c_laws_FnExactGreedyRounds_73 :: sk) e h R) := nr rfl
@[simp, simp ↓] theorem c_laws_FnExactGreedyRounds_75_r : vc2 C (n + 1) [] (.code c_laws_FnExactGreedyRounds_75 :: sk) e h R = (vc2 C n [] (.code c_laws_FnExactGreedyRounds_22 :: .code c_laws_FnExactGreedyRounds_74 :: sk) e h R) := nr rfl
@[simp, simp ↓] theorem c_laws_FnExactGreedyRounds_76_r : vc2 C (n + 1) [] (.code c_laws_FnExactGreedyRounds_76 :: sk) e h R = (vc2 C n [] (.code c_laws_FnExactGreedyRounds_21 :: .code c_laws_FnExactGreedyRounds_75 :: sk) e h R) := nr rfl
@[simp, simp ↓] theorem c_laws_FnExactGreedyRounds_77_r : vc2 C (n + 1) [] (.code c_laws_FnExactGreedyRounds_77 :: sk) e h R = (vc2 C n [] (.code c_laws_FnExactGreedyRounds_20 :: .code c_laws_FnExactGreedyRounds_76 :: sk) e h R) := nr rfl
@[simp, simp ↓] theorem c_laws_FnExactGreedyRounds_78_r : vc2 C (n + 1) [] (.code c_laws_FnExactGreedyRounds_78 :: sk) e h R = (vc2 C n [] (.code c_laws_FnExactGreedyRounds_15 :: .code c_laws_FnExactGreedyRounds_77 :: sk) e h R) := nr rfl
@[simp, simp ↓] theorem c_laws_FnExactGreedyRounds_79_r : vc2 C (n + 1) [] (.code c_laws_FnExactGreedyRounds_79 :: sk) e h R = (vc2 C n [] (.code c_laws_FnExactGreedyRounds_10 :: .code c_laws_FnExactGreedyRounds_78 :: sk) e h R) := nr rfl
@[simp, simp ↓] theorem c_laws_FnExactGreedyRounds_80_r : vc2 C (n + 1) [] (.code c_laws_FnExactGreedyRounds_80 :: sk) e h R = (vc2 C n [] (.code c_laws_FnExactGreedyRounds_9 :: .code c_laws_FnExactGreedyRounds_79 :: sk) e h R) := nr rfl
@[simp, simp ↓] theorem c_laws_FnExactGreedyRounds_81_r : vc2 C (n + 1) [] (.code c_laws_FnExactGreedyRounds_81 :: sk) e h R = (vc2 C n [] (.code c_laws_FnExactGreedyRounds_8 :: .code c_laws_FnExactGreedyRounds_80 :: sk) e h R) := nr rfl
@[simp, simp ↓] theorem c_laws_FnExactGreedyRounds_82_r : vc2 C (n + 1) [] (.code c_laws_FnExactGreedyRounds_82 :: sk) e h R = (vc2 C n [] (.code c_laws_FnExactGreedyRounds_7 :: .code c_laws_FnExactGreedyRounds_81 :: sk) e h R) := nr rfl
@[simp, simp ↓] theorem c_laws_FnExactGreedyRounds_83_r : vc2 C (n + 1) [] (.code c_laws_FnExactGreedyRounds_83 :: sk) e h R = (vc2 C n [] (.code c_laws_FnExactGreedyRounds_2 :: .code c_laws_FnExactGreedyRounds_82 :: sk) e h R) := nr rfl
@[simp, simp ↓] theorem c_laws_FnExactGreedyRounds_84_r : vc2 C (n + 1) [] (.code c_laws_FnExactGreedyRounds_84 :: sk) e h R = (vc2 C n [] (.code c_laws_FnExactGreedyRounds_1 :: .code c_laws_FnExactGreedyRounds_83 :: sk) e h R) := nr rfl
@[simp, simp ↓] theorem c_laws_FnExactGreedyRounds_85_r : vc2 C (n + 1) [] (.code c_laws_FnExactGreedyRounds_85 :: sk) e h R = (vc2 C n [] (.code c_laws_FnExactGreedyRounds_0 :: .code c_laws_FnExactGreedyRounds_84 :: sk) e h R) := nr rfl
end
noncomputable def c_laws_FnExactGreedyRounds_C (orc : Orc) : Cx := ⟨Try.prog, [6], 4, 96, [.tmp 2], orc⟩
@[simp] theorem c_laws_FnExactGreedyRounds_C_P (orc : Orc) : (c_laws_FnExactGreedyRounds_C orc).P = Try.prog := nr rfl
@[simp] theorem c_laws_FnExactGreedyRounds_C_o (orc : Orc) : (c_laws_FnExactGreedyRounds_C orc).orc = orc := nr rfl
@[simp] theorem c_laws_FnExactGreedyRounds_C_r (orc : Orc) : (c_laws_FnExactGreedyRounds_C orc).res = [.tmp 2] := nr rfl
theorem c_laws_FnExactGreedyRounds_of {args : List AV} {h : Heap} {R : AV → Heap → Prop} {k : Nat} (ha : args.length = k) {orc : Orc} (hp : Pure Try.prog orc) (hk : Is (c_laws_FnExactGreedyRounds_C orc) Try.f4 → Run2 (c_laws_FnExactGreedyRounds_C orc) [.code c_laws_FnExactGreedyRounds_85] (argEnv 0 args) h (Post R)) (hle : k ≤ 96 := by simp) : ACalls Try.prog 4 args h R :=
  contract2 [6] c_laws_FnExactGreedyRounds_85 [.tmp 2] Try.func4 (by decide +kernel) rfl (by kernel_rfl) (by rw [ha]; exact hle) (by kernel_rfl) hp hk
theorem c_laws_FnExactGreedyRounds_of0 {args : List AV} {h : Heap} {R : AV → Heap → Prop} {k : Nat} (ha : args.length = k) {orc : Orc} (hp : Pure Try.prog orc) (hk : Is (c_laws_FnExactGreedyRounds_C orc) Try.f4 → Run2 (c_laws_FnExactGreedyRounds_C orc) [.code c_laws_FnExactGreedyRounds_85] (argEnv 0 args) h R) (hle : k ≤ 96 := by simp) : ACalls Try.prog 4 args h R :=
  contract20 [6] c_laws_FnExactGreedyRounds_85 [.tmp 2] Try.func4 (by decide +kernel) rfl (by kernel_rfl) (by rw [ha]; exact hle) (by kernel_rfl) hp hk
theorem g_law (x : Gr) (hx : x.wf) : ACalls Try.prog 4 [x.av] [] (fun v h' => v = .bool true ∧ h' = []) := by
  refine c_laws_FnExactGreedyRounds_of rfl orcM_p fun I => ?_
  have hx2_x := hx.2
  refine Run2.of I 1000 ?_
  by_cases kx : (x.ts.length : Int) ≤ (1048576 : Int)
  · have hAx : ¬ (1048576 : Int) < x.ts.length := by omega
    have hBx : ¬ (1048576 : Int) - x.ts.length < 0 := by omega
    have hCx : (0 : Int) ≤ (1048576 : Int) - x.ts.length := by omega
    have lx : x.ts.length ≤ 1048576 := by omega
    have hDx : (1048576 : Int) - x.ts.length ≤ 1048576 := by omega
    have ht := x.gL_tot
    simp -implicitDefEqProofs [hx2_x, hAx, hBx, hCx, hDx, kx]
    first | refine dcallK (toGraph_c x _ lx) ?_ | (refine (toGraph_c x _ lx).mono ?_; rintro v h' ⟨rfl, rfl⟩; refine gK.go ?_)
    simp -implicitDefEqProofs
    first | refine dcallK (specG_o x lx hx.1 _) ?_ | (refine (specG_o x lx hx.1 _).mono ?_; rintro v h' ⟨rfl, rfl⟩; refine gK.go ?_)
    simp -implicitDefEqProofs
    refine (toGraph_o x _ lx).monoN ?_
    rintro v0 h' ⟨g0, o0, d0, rfl⟩ n0
    obtain ⟨u0, rfl, ou0⟩ := id o0
    have c0 := ou0.cell
    refine gK.go ?_
    simp -implicitDefEqProofs [c0]
    simp only [List.append_nil] at n0
    have L0 := o0.lentIn (L := g0) (fun p hp => hp) n0
    refine (ACalls.gives g0 (fun p hp => hp) (S := fun v h' => ∃ w, v = .tup [w, .int .i64 x.gCode] ∧ OwnLL w x.gL h') ?_ ?_).monoN ?_
    · rw [lend_cons, lend_nil']
      exact ACalls.wk (.cons L0.wk .nil) (implG_o x lx hx.1)
    · rintro v h' ⟨w, rfl, ho⟩
      have := ho.own
      exact ⟨by simp [own, owns, this.1], this.2⟩
    rintro v h' ⟨gg, ⟨w, rfl, og⟩, dg, rfl⟩ ng
    refine gK.go ?_
    simp -implicitDefEqProofs [c0]
    first | refine dcallK (eqL_own og (.is x.gL) (fun p hp => List.mem_append_left _ hp) (show ssTot x.gL ≤ 1048576 by omega)) ?_ | (refine (eqL_own og (.is x.gL) (fun p hp => List.mem_append_left _ hp) (show ssTot x.gL ≤ 1048576 by omega)).mono ?_; rintro v h' ⟨rfl, rfl⟩; refine gK.go ?_)
    simp -implicitDefEqProofs [c0]
    first | refine dcallK (toGraph_c x _ lx) ?_ | (refine (toGraph_c x _ lx).mono ?_; rintro v h' ⟨rfl, rfl⟩; refine gK.go ?_)
    simp -implicitDefEqProofs [c0]
    first | refine dcallK (eqG_own o0 x.is (fun p hp => List.mem_append_right _ (hp)) lx) ?_ | (refine (eqG_own o0 x.is (fun p hp => List.mem_append_right _ (hp)) lx).mono ?_; rintro v h' ⟨rfl, rfl⟩; refine gK.go ?_)
    simp -implicitDefEqProofs [c0]
    refine (markG_drop o0 gg (fun p hp => List.mem_append_right _ (hp)) ?_ ?_ (1) (by omega) (by omega)).monoN ?_
    · simpa only [List.append_assoc] using keepL (a := gg) (b := g0) (by simpa only [List.append_assoc] using ng)
    · exact fun nd => nodupL (a := gg) (b := g0) (by simpa only [List.append_assoc] using nd)
    rintro _ _ ⟨e1, e2⟩ nk0
    rw [e1, e2]; rw [e2] at nk0
    refine gK.go ?_
    have hk : ¬ (1 + 3 * (x.ts.length : Int)) < 0 := by omega
    simp -implicitDefEqProofs [c0, hk]
    first | refine dcallK (eqL_own og (.is x.gL) (fun p hp => hp) (show ssTot x.gL ≤ 1048576 by omega)) ?_ | (refine (eqL_own og (.is x.gL) (fun p hp => hp) (show ssTot x.gL ≤ 1048576 by omega)).mono ?_; rintro v h' ⟨rfl, rfl⟩; refine gK.go ?_)
    simp -implicitDefEqProofs [c0]
    skip
    refine (markL_keep og [] (fun p hp => hp) keepN (fun _ => by simp [dom]) 1 (by omega) (by have := (show ssTot x.gL ≤ 1048576 by omega); omega)).mono ?_
    rintro _ _ ⟨gm, rfl, om, rfl⟩
    refine gK.go ?_
    simp -implicitDefEqProofs [c0]
    have hq : ¬ (1 + (sumL x.gL : Int) < 0) := by omega
    first | refine dcallK (heldL_own om (fun p hp => hp) 1 (by omega) (by have := (show ssTot x.gL ≤ 1048576 by omega); simp; omega)) ?_ | (refine (heldL_own om (fun p hp => hp) 1 (by omega) (by have := (show ssTot x.gL ≤ 1048576 by omega); simp; omega)).mono ?_; rintro v h' ⟨rfl, rfl⟩; refine gK.go ?_)
    simp -implicitDefEqProofs [c0, hq]
    first | refine dcallK (toGraph_c x _ lx) ?_ | (refine (toGraph_c x _ lx).mono ?_; rintro v h' ⟨rfl, rfl⟩; refine gK.go ?_)
    simp -implicitDefEqProofs [c0]
    refine (ACalls.gives [] (by simp) (S := fun v h' => ∃ w, v = .tup [w, .int .i64 x.gCode] ∧ OwnLL w x.gL h') ?_ ?_).mono ?_
    · exact implG_o x lx hx.1
    · rintro v h' ⟨w, rfl, ho⟩
      have := ho.own
      exact ⟨by simp [own, owns, this.1], this.2⟩
    rintro _ _ ⟨g9, ⟨w9, rfl, o9⟩, d9, rfl⟩
    refine gK.go ?_
    simp -implicitDefEqProofs [c0, hq]
    first | refine dcallK (eqL_own o9 (.is x.gL) (fun p hp => List.mem_append_left _ hp) (show ssTot x.gL ≤ 1048576 by omega)) ?_ | (refine (eqL_own o9 (.is x.gL) (fun p hp => List.mem_append_left _ hp) (show ssTot x.gL ≤ 1048576 by omega)).mono ?_; rintro v h' ⟨rfl, rfl⟩; refine gK.go ?_)
    simp -implicitDefEqProofs [c0, hq]
    first | refine dcallK (heldL_own om (fun p hp => List.mem_append_right _ hp) 1 (by omega) (by have := (show ssTot x.gL ≤ 1048576 by omega); simp; omega)) ?_ | (refine (heldL_own om (fun p hp => List.mem_append_right _ hp) 1 (by omega) (by have := (show ssTot x.gL ≤ 1048576 by omega); simp; omega)).mono ?_; rintro v h' ⟨rfl, rfl⟩; refine gK.go ?_)
    simp -implicitDefEqProofs [c0, hq]
    exact Post.none ⟨rfl, rfl⟩
  · have hAx : (1048576 : Int) < x.ts.length := by omega
    simp -implicitDefEqProofs [hx2_x, hAx]
    exact .base ⟨rfl, rfl⟩
end Go.AG
namespace Go.Proofs.Ytlncpnefkpfojaa
open Go.ChangeShapes Go.WideShapes Go.ChangeAt Go.RowKit Go.AG
theorem own : ownKnob Try.prog.godebug = none := by kernel_rfl
theorem laidOut : laidOutB Try.prog = true := by kernel_rfl
set_option maxRecDepth 100000 in
theorem fnExactGreedyRounds_lifted (os : Os) (started : os.Started) (H : Type) (enc : TypeId × Value → H) :
    ReturnsInHanded {} Try.checked os 4 .any (Rows.fnExactGreedyRoundsSpec.pre6 enc Try.prog Try.f4 Rows.fnExactGreedyRoundsRow.domain false) (Rows.fnExactGreedyRoundsSpec.post enc Try.prog Try.f4 false true false false) := by
  refine returnsInHanded_of_change (C := Try.checked) own started (by kernel_rfl) Try.func4
    (ChangeSpec.witness6 (enc := enc) (C := Try.checked) false ⟨#[], #[.agg #[.int .i64 0, .slice none 0 0]], []⟩ 8 (by kernel_rfl) (by kernel_rfl) (by kernel_rfl) (by kernel_rfl)) ?_
  intro W base args ds gs before hval0 hW _ _
  have hval : ∀ (j : Nat) t v, Try.f4.params[j]? = some t → args[j]? = some v → Value.okWide Try.prog W .any base t v := hval0
  refine law_post (tys := [tyG]) (tb := 4) laidOut rfl (by kernel_rfl) (by kernel_rfl) (by kernel_rfl) (by kernel_rfl) hval hW ?_ ?_
  · intro ds h
    match ds, h with
    | [a0], _ => rfl
  · rintro xs ⟨x0, r0, rfl, h0, hr⟩
    have hr0 : r0 = [] := hr
    subst hr0
    obtain ⟨p0, rfl, q0⟩ := Gr_of_shape h0
    exact g_law p0 q0
theorem fnExactGreedyRounds_holds : Rows.FnExactGreedyRoundsSaid :=
  OpenClaim.holds_of_wide 4 Try.f4 rfl rfl rfl rfl rfl rfl rfl ⟨rfl, rfl, rfl, rfl, rfl⟩ rfl rfl rfl rfl rfl (by kernel_rfl) Try.func4 (by kernel_rfl)
    (of_decide_eq_true (by kernel_rfl)) (by unfold Func.isWrapper; first | (rw [if_pos (by decide +kernel)]; kernel_rfl) | (rw [if_neg (by decide +kernel)]; exact ⟨rfl, rfl⟩))
    (fun os started H enc _ => fnExactGreedyRounds_lifted os started H enc)
end Go.Proofs.Ytlncpnefkpfojaa
