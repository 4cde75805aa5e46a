/- The law FnExactTurnRounds is true for every input: the program's TurnRounds returns what the reference's returns. -/
import Derived.Test.YtlncpnefkpfojaaCtTu
import Derived.Test.YtlncpnefkpfojaaGrM
import Derived.Test.YtlncpnefkpfojaaISSM
namespace Go.AG
open Go.Proofs Go.Proofs.Ytlncpnefkpfojaa
set_option linter.unusedSimpArgs false
set_option linter.unusedVariables false
set_option maxRecDepth 4000
noncomputable def orcM : List (Nat × (List AV → Option (Prop × AV))) := (15, o_szGraph) :: (28, o_szInt64SS) :: []
theorem orcM_p : Pure Try.prog (lk orcM) := (lk_pure o_szGraph_k (lk_pure o_szInt64SS_k lk_pure0))
@[simp] theorem orcM_l (g : FuncId) (l : List AV) : lk orcM g l = if g = 15 then o_szGraph l else if g = 28 then o_szInt64SS l else none := nr rfl
abbrev c_laws_FnExactTurnRounds_o0 : List AJ := [.o ⟨(some 3), none, false, .box false 2 (.t 0), none⟩, .o ⟨(some 6), none, false, .mv (.c (.bool false)), (some [1, 2, 3])⟩]
def c_laws_FnExactTurnRounds_0 : ACode := .region c_laws_FnExactTurnRounds_o0
abbrev c_laws_FnExactTurnRounds_o1 : List AJ := [.o ⟨(some 7), none, false, .mv (.c (.int .i64 1048576)), (some [1, 2, 3, 7])⟩]
def c_laws_FnExactTurnRounds_1 : ACode := .region c_laws_FnExactTurnRounds_o1
abbrev c_laws_FnExactTurnRounds_o2 : List AJ := [.o ⟨(some 19), none, false, .load 2 true (.t 3), none⟩, .o ⟨(some 20), none, false, .mv (.t 7), none⟩, .o ⟨(some 21), none, false, .call 15 [(.t 19), (.t 20)], none⟩, .o ⟨(some 7), none, false, .mv (.t 21), (some [1, 2, 3, 7])⟩]
def c_laws_FnExactTurnRounds_2 : ACode := .region c_laws_FnExactTurnRounds_o2
abbrev c_laws_FnExactTurnRounds_o3 : List AJ := [.o ⟨(some 22), none, false, .mv (.t 7), none⟩, .o ⟨(some 23), none, false, .bin .lss (.t 22) (.c (.int .i64 0)), (some [1, 2, 3, 7, 23])⟩]
def c_laws_FnExactTurnRounds_3 : ACode := .region c_laws_FnExactTurnRounds_o3
abbrev c_laws_FnExactTurnRounds_o4 : List AJ := [.o ⟨(some 6), none, false, .mv (.c (.bool true)), (some [6])⟩]
def c_laws_FnExactTurnRounds_4 : ACode := .region c_laws_FnExactTurnRounds_o4
def c_laws_FnExactTurnRounds_5 : ACode := .seq c_laws_FnExactTurnRounds_4 .ret
def c_laws_FnExactTurnRounds_6 : ACode := .cond (.t 23) c_laws_FnExactTurnRounds_5 .skip
def c_laws_FnExactTurnRounds_7 : ACode := .seq c_laws_FnExactTurnRounds_3 c_laws_FnExactTurnRounds_6
abbrev c_laws_FnExactTurnRounds_o5 : List AJ := [.o ⟨(some 24), none, false, .mv (.t 1), none⟩, .o ⟨(some 25), none, false, .mv (.t 7), none⟩, .o ⟨(some 26), none, false, .call 28 [(.t 24), (.t 25)], none⟩, .o ⟨(some 7), none, false, .mv (.t 26), (some [1, 2, 3, 7])⟩]
def c_laws_FnExactTurnRounds_8 : ACode := .region c_laws_FnExactTurnRounds_o5
abbrev c_laws_FnExactTurnRounds_o6 : List AJ := [.o ⟨(some 27), none, false, .mv (.t 7), none⟩, .o ⟨(some 28), none, false, .bin .lss (.t 27) (.c (.int .i64 0)), (some [1, 2, 3, 28])⟩]
def c_laws_FnExactTurnRounds_9 : ACode := .region c_laws_FnExactTurnRounds_o6
abbrev c_laws_FnExactTurnRounds_o7 : List AJ := [.o ⟨(some 6), none, false, .mv (.c (.bool true)), (some [6])⟩]
def c_laws_FnExactTurnRounds_10 : ACode := .region c_laws_FnExactTurnRounds_o7
def c_laws_FnExactTurnRounds_11 : ACode := .seq c_laws_FnExactTurnRounds_10 .ret
def c_laws_FnExactTurnRounds_12 : ACode := .cond (.t 28) c_laws_FnExactTurnRounds_11 .skip
def c_laws_FnExactTurnRounds_13 : ACode := .seq c_laws_FnExactTurnRounds_9 c_laws_FnExactTurnRounds_12
abbrev c_laws_FnExactTurnRounds_o8 : List AJ := [.o ⟨(some 30), none, false, .load 2 true (.t 3), none⟩, .o ⟨(some 31), none, false, .call 17 [(.t 30)], none⟩, .o ⟨(some 32), none, false, .mv (.t 1), none⟩, .o ⟨(some 33), none, false, .call 30 [(.t 32)], none⟩, .o ⟨(some 34), none, false, .mv (.t 2), none⟩, .o ⟨(some 35), none, false, .call 44 [(.t 31), (.t 33), (.t 34)], none⟩, .o ⟨(some 29), none, false, .mv (.t 35), none⟩, .o ⟨(some 36), none, false, .extract (.t 29) 0, none⟩, .o ⟨(some 37), none, false, .extract (.t 29) 1, none⟩, .o ⟨(some 8), none, false, .mv (.t 36), none⟩, .o ⟨(some 9), none, false, .mv (.t 37), (some [1, 2, 3, 8, 9])⟩]
def c_laws_FnExactTurnRounds_14 : ACode := .region c_laws_FnExactTurnRounds_o8
abbrev c_laws_FnExactTurnRounds_o9 : List AJ := [.o ⟨(some 38), none, false, .load 2 true (.t 3), none⟩, .o ⟨(some 39), none, false, .call 17 [(.t 38)], none⟩, .v 10 2 (.agg [(.int .i64 0), .nilsl]) [] (.t 39) (some [1, 2, 3, 8, 9, 10])]
def c_laws_FnExactTurnRounds_15 : ACode := .region c_laws_FnExactTurnRounds_o9
abbrev c_laws_FnExactTurnRounds_o10 : List AJ := [.o ⟨(some 40), none, false, .mv (.t 1), none⟩, .o ⟨(some 41), none, false, .call 30 [(.t 40)], none⟩, .o ⟨(some 11), none, false, .mv (.t 41), (some [1, 2, 3, 8, 9, 10, 11])⟩]
def c_laws_FnExactTurnRounds_16 : ACode := .region c_laws_FnExactTurnRounds_o10
abbrev c_laws_FnExactTurnRounds_o11 : List AJ := [.o ⟨(some 43), none, false, .load 2 true (.t 10), none⟩, .o ⟨(some 44), none, false, .mv (.t 11), none⟩, .o ⟨(some 45), none, false, .mv (.t 2), none⟩, .o ⟨(some 46), none, false, .call 45 [(.t 43), (.t 44), (.t 45)], none⟩, .o ⟨(some 42), none, false, .mv (.t 46), none⟩, .o ⟨(some 47), none, false, .extract (.t 42) 0, none⟩, .o ⟨(some 48), none, false, .extract (.t 42) 1, none⟩, .o ⟨(some 12), none, false, .mv (.t 47), none⟩, .o ⟨(some 13), none, false, .mv (.t 48), (some [1, 2, 3, 8, 9, 10, 11, 12, 13])⟩]
def c_laws_FnExactTurnRounds_17 : ACode := .region c_laws_FnExactTurnRounds_o11
abbrev c_laws_FnExactTurnRounds_o12 : List AJ := [.o ⟨(some 49), none, false, .mv (.t 12), none⟩, .o ⟨(some 50), none, false, .mv (.t 8), none⟩, .o ⟨(some 51), none, false, .call 22 [(.t 49), (.t 50)], none⟩, .o ⟨(some 52), none, false, .un .not (.t 51), none⟩, .o ⟨(some 53), none, false, .mv (.t 52), none⟩, .o ⟨(some 54), (some (53, false)), false, .mv (.t 13), none⟩, .o ⟨(some 55), (some (53, false)), false, .mv (.t 9), none⟩, .o ⟨(some 56), (some (53, false)), false, .bin .neq (.t 54) (.t 55), none⟩, .o ⟨(some 57), none, false, .pick (.t 53) (.c (.bool true)) (.t 56), (some [1, 2, 3, 8, 9, 10, 11, 12, 13, 57])⟩]
def c_laws_FnExactTurnRounds_18 : ACode := .region c_laws_FnExactTurnRounds_o12
abbrev c_laws_FnExactTurnRounds_o13 : List AJ := [.o ⟨(some 6), none, false, .mv (.c (.bool false)), (some [6])⟩]
def c_laws_FnExactTurnRounds_19 : ACode := .region c_laws_FnExactTurnRounds_o13
def c_laws_FnExactTurnRounds_20 : ACode := .seq c_laws_FnExactTurnRounds_19 .ret
def c_laws_FnExactTurnRounds_21 : ACode := .cond (.t 57) c_laws_FnExactTurnRounds_20 .skip
def c_laws_FnExactTurnRounds_22 : ACode := .seq c_laws_FnExactTurnRounds_18 c_laws_FnExactTurnRounds_21
abbrev c_laws_FnExactTurnRounds_o14 : List AI := [⟨(some 58), none, false, .load 2 true (.t 10), none⟩, ⟨(some 59), none, false, .load 2 true (.t 3), none⟩, ⟨(some 60), none, false, .call 17 [(.t 59)], none⟩, ⟨(some 61), none, false, .call 19 [(.t 58), (.t 60)], none⟩, ⟨(some 62), none, false, .un .not (.t 61), (some [1, 2, 3, 8, 9, 10, 11, 12, 13, 62])⟩]
def c_laws_FnExactTurnRounds_23 : ACode := .draw c_laws_FnExactTurnRounds_o14 [] rfl
abbrev c_laws_FnExactTurnRounds_o15 : List AJ := [.o ⟨(some 6), none, false, .mv (.c (.bool false)), (some [6])⟩]
def c_laws_FnExactTurnRounds_24 : ACode := .region c_laws_FnExactTurnRounds_o15
def c_laws_FnExactTurnRounds_25 : ACode := .seq c_laws_FnExactTurnRounds_24 .ret
def c_laws_FnExactTurnRounds_26 : ACode := .cond (.t 62) c_laws_FnExactTurnRounds_25 .skip
def c_laws_FnExactTurnRounds_27 : ACode := .seq c_laws_FnExactTurnRounds_23 c_laws_FnExactTurnRounds_26
abbrev c_laws_FnExactTurnRounds_o16 : List AJ := [.o ⟨(some 63), none, false, .mv (.t 11), none⟩, .o ⟨(some 64), none, false, .mv (.t 1), none⟩, .o ⟨(some 65), none, false, .call 30 [(.t 64)], none⟩, .o ⟨(some 66), none, false, .call 22 [(.t 63), (.t 65)], none⟩, .o ⟨(some 67), none, false, .un .not (.t 66), (some [1, 2, 3, 8, 9, 10, 11, 12, 13, 67])⟩]
def c_laws_FnExactTurnRounds_28 : ACode := .region c_laws_FnExactTurnRounds_o16
abbrev c_laws_FnExactTurnRounds_o17 : List AJ := [.o ⟨(some 6), none, false, .mv (.c (.bool false)), (some [6])⟩]
def c_laws_FnExactTurnRounds_29 : ACode := .region c_laws_FnExactTurnRounds_o17
def c_laws_FnExactTurnRounds_30 : ACode := .seq c_laws_FnExactTurnRounds_29 .ret
def c_laws_FnExactTurnRounds_31 : ACode := .cond (.t 67) c_laws_FnExactTurnRounds_30 .skip
def c_laws_FnExactTurnRounds_32 : ACode := .seq c_laws_FnExactTurnRounds_28 c_laws_FnExactTurnRounds_31
abbrev c_laws_FnExactTurnRounds_o18 : List AJ := [.o ⟨(some 14), none, false, .mv (.c (.int .i64 1)), (some [1, 2, 3, 8, 9, 10, 11, 12, 13, 14])⟩]
def c_laws_FnExactTurnRounds_33 : ACode := .region c_laws_FnExactTurnRounds_o18
abbrev c_laws_FnExactTurnRounds_o19 : List AJ := [.o ⟨(some 68), none, false, .load 2 true (.t 10), none⟩, .o ⟨(some 69), none, false, .mv (.t 14), none⟩, .o ⟨(some 70), none, false, .call 23 [(.t 68), (.t 69)], none⟩, .o ⟨(some 14), none, false, .mv (.t 70), (some [1, 2, 3, 8, 9, 11, 12, 13, 14])⟩]
def c_laws_FnExactTurnRounds_34 : ACode := .region c_laws_FnExactTurnRounds_o19
abbrev c_laws_FnExactTurnRounds_o20 : List AJ := [.o ⟨(some 71), none, false, .mv (.t 11), none⟩, .o ⟨(some 72), none, false, .mv (.t 14), none⟩, .o ⟨(some 73), none, false, .call 24 [(.t 71), (.t 72)], none⟩, .o ⟨(some 14), none, false, .mv (.t 73), (some [1, 2, 3, 8, 9, 12, 13, 14])⟩]
def c_laws_FnExactTurnRounds_35 : ACode := .region c_laws_FnExactTurnRounds_o20
abbrev c_laws_FnExactTurnRounds_o21 : List AJ := [.o ⟨(some 74), none, false, .mv (.t 14), none⟩, .o ⟨(some 75), none, false, .bin .lss (.t 74) (.c (.int .i64 0)), none⟩, .o ⟨(some 76), none, false, .mv (.t 75), none⟩, .o ⟨(some 77), (some (76, false)), false, .mv (.t 12), none⟩, .o ⟨(some 78), (some (76, false)), false, .mv (.t 8), none⟩, .o ⟨(some 79), (some (76, false)), false, .call 22 [(.t 77), (.t 78)], none⟩, .o ⟨(some 80), (some (76, false)), false, .un .not (.t 79), none⟩, .o ⟨(some 81), none, false, .pick (.t 76) (.c (.bool true)) (.t 80), none⟩, .o ⟨(some 82), none, false, .mv (.t 81), none⟩, .o ⟨(some 83), (some (82, false)), false, .mv (.t 13), (some [1, 2, 3, 8, 9, 12, 82, 83])⟩, .o ⟨(some 84), (some (82, false)), false, .mv (.t 9), none⟩, .o ⟨(some 85), (some (82, false)), false, .bin .neq (.t 83) (.t 84), none⟩, .o ⟨(some 86), none, false, .pick (.t 82) (.c (.bool true)) (.t 85), (some [1, 2, 3, 8, 9, 12, 86])⟩]
def c_laws_FnExactTurnRounds_36 : ACode := .region c_laws_FnExactTurnRounds_o21
abbrev c_laws_FnExactTurnRounds_o22 : List AJ := [.o ⟨(some 6), none, false, .mv (.c (.bool false)), (some [6])⟩]
def c_laws_FnExactTurnRounds_37 : ACode := .region c_laws_FnExactTurnRounds_o22
def c_laws_FnExactTurnRounds_38 : ACode := .seq c_laws_FnExactTurnRounds_37 .ret
def c_laws_FnExactTurnRounds_39 : ACode := .cond (.t 86) c_laws_FnExactTurnRounds_38 .skip
def c_laws_FnExactTurnRounds_40 : ACode := .seq c_laws_FnExactTurnRounds_36 c_laws_FnExactTurnRounds_39
abbrev c_laws_FnExactTurnRounds_o23 : List AJ := [.o ⟨(some 15), none, false, .mv (.c (.int .i64 1)), (some [1, 2, 3, 8, 9, 12, 15])⟩]
def c_laws_FnExactTurnRounds_41 : ACode := .region c_laws_FnExactTurnRounds_o23
abbrev c_laws_FnExactTurnRounds_o24 : List AJ := [.o ⟨(some 87), none, false, .mv (.t 12), none⟩, .o ⟨(some 88), none, false, .mv (.t 15), none⟩, .o ⟨(some 89), none, false, .call 24 [(.t 87), (.t 88)], none⟩, .o ⟨(some 15), none, false, .mv (.t 89), (some [1, 2, 3, 8, 9, 12, 15])⟩]
def c_laws_FnExactTurnRounds_42 : ACode := .region c_laws_FnExactTurnRounds_o24
abbrev c_laws_FnExactTurnRounds_o25 : List AJ := [.o ⟨(some 16), none, false, .mv (.c (.int .i64 1)), (some [1, 2, 3, 8, 9, 12, 15, 16])⟩]
def c_laws_FnExactTurnRounds_43 : ACode := .region c_laws_FnExactTurnRounds_o25
abbrev c_laws_FnExactTurnRounds_o26 : List AJ := [.o ⟨(some 90), none, false, .mv (.t 12), none⟩, .o ⟨(some 91), none, false, .mv (.t 16), none⟩, .o ⟨(some 92), none, false, .call 25 [(.t 90), (.t 91)], none⟩, .o ⟨(some 16), none, false, .mv (.t 92), (some [1, 2, 3, 8, 9, 12, 15, 16])⟩]
def c_laws_FnExactTurnRounds_44 : ACode := .region c_laws_FnExactTurnRounds_o26
abbrev c_laws_FnExactTurnRounds_o27 : List AJ := [.o ⟨(some 93), none, false, .mv (.t 16), none⟩, .o ⟨(some 94), none, false, .bin .lss (.t 93) (.c (.int .i64 0)), (some [1, 2, 3, 8, 9, 12, 15, 16, 94])⟩]
def c_laws_FnExactTurnRounds_45 : ACode := .region c_laws_FnExactTurnRounds_o27
abbrev c_laws_FnExactTurnRounds_o28 : List AJ := [.o ⟨(some 6), none, false, .mv (.c (.bool false)), (some [6])⟩]
def c_laws_FnExactTurnRounds_46 : ACode := .region c_laws_FnExactTurnRounds_o28
def c_laws_FnExactTurnRounds_47 : ACode := .seq c_laws_FnExactTurnRounds_46 .ret
def c_laws_FnExactTurnRounds_48 : ACode := .cond (.t 94) c_laws_FnExactTurnRounds_47 .skip
def c_laws_FnExactTurnRounds_49 : ACode := .seq c_laws_FnExactTurnRounds_45 c_laws_FnExactTurnRounds_48
abbrev c_laws_FnExactTurnRounds_o29 : List AJ := [.o ⟨(some 95), none, false, .mv (.t 16), none⟩, .o ⟨(some 96), none, false, .mv (.t 15), none⟩, .o ⟨(some 97), none, false, .bin .neq (.t 95) (.t 96), (some [1, 2, 3, 8, 9, 12, 15, 97])⟩]
def c_laws_FnExactTurnRounds_50 : ACode := .region c_laws_FnExactTurnRounds_o29
abbrev c_laws_FnExactTurnRounds_o30 : List AJ := [.o ⟨(some 6), none, false, .mv (.c (.bool false)), (some [6])⟩]
def c_laws_FnExactTurnRounds_51 : ACode := .region c_laws_FnExactTurnRounds_o30
def c_laws_FnExactTurnRounds_52 : ACode := .seq c_laws_FnExactTurnRounds_51 .ret
def c_laws_FnExactTurnRounds_53 : ACode := .cond (.t 97) c_laws_FnExactTurnRounds_52 .skip
def c_laws_FnExactTurnRounds_54 : ACode := .seq c_laws_FnExactTurnRounds_50 c_laws_FnExactTurnRounds_53
abbrev c_laws_FnExactTurnRounds_o31 : List AJ := [.o ⟨(some 99), none, false, .load 2 true (.t 3), none⟩, .o ⟨(some 100), none, false, .call 17 [(.t 99)], none⟩, .o ⟨(some 101), none, false, .mv (.t 1), none⟩, .o ⟨(some 102), none, false, .call 30 [(.t 101)], none⟩, .o ⟨(some 103), none, false, .mv (.t 2), none⟩, .o ⟨(some 104), none, false, .call 45 [(.t 100), (.t 102), (.t 103)], none⟩, .o ⟨(some 98), none, false, .mv (.t 104), none⟩, .o ⟨(some 105), none, false, .extract (.t 98) 0, none⟩, .o ⟨(some 106), none, false, .extract (.t 98) 1, none⟩, .o ⟨(some 17), none, false, .mv (.t 105), none⟩, .o ⟨(some 18), none, false, .mv (.t 106), (some [8, 9, 12, 15, 17, 18])⟩]
def c_laws_FnExactTurnRounds_55 : ACode := .region c_laws_FnExactTurnRounds_o31
abbrev c_laws_FnExactTurnRounds_o32 : List AJ := [.o ⟨(some 107), none, false, .mv (.t 17), none⟩, .o ⟨(some 108), none, false, .mv (.t 8), none⟩, .o ⟨(some 109), none, false, .call 22 [(.t 107), (.t 108)], none⟩, .o ⟨(some 110), none, false, .un .not (.t 109), none⟩, .o ⟨(some 111), none, false, .mv (.t 110), none⟩, .o ⟨(some 112), (some (111, false)), false, .mv (.t 18), none⟩, .o ⟨(some 113), (some (111, false)), false, .mv (.t 9), none⟩, .o ⟨(some 114), (some (111, false)), false, .bin .neq (.t 112) (.t 113), none⟩, .o ⟨(some 115), none, false, .pick (.t 111) (.c (.bool true)) (.t 114), (some [12, 15, 115])⟩]
def c_laws_FnExactTurnRounds_56 : ACode := .region c_laws_FnExactTurnRounds_o32
abbrev c_laws_FnExactTurnRounds_o33 : List AJ := [.o ⟨(some 6), none, false, .mv (.c (.bool false)), (some [6])⟩]
def c_laws_FnExactTurnRounds_57 : ACode := .region c_laws_FnExactTurnRounds_o33
def c_laws_FnExactTurnRounds_58 : ACode := .seq c_laws_FnExactTurnRounds_57 .ret
def c_laws_FnExactTurnRounds_59 : ACode := .cond (.t 115) c_laws_FnExactTurnRounds_58 .skip
def c_laws_FnExactTurnRounds_60 : ACode := .seq c_laws_FnExactTurnRounds_56 c_laws_FnExactTurnRounds_59
abbrev c_laws_FnExactTurnRounds_o34 : List AJ := [.o ⟨(some 16), none, false, .mv (.c (.int .i64 1)), (some [12, 15, 16])⟩]
def c_laws_FnExactTurnRounds_61 : ACode := .region c_laws_FnExactTurnRounds_o34
abbrev c_laws_FnExactTurnRounds_o35 : List AJ := [.o ⟨(some 116), none, false, .mv (.t 12), none⟩, .o ⟨(some 117), none, false, .mv (.t 16), none⟩, .o ⟨(some 118), none, false, .call 25 [(.t 116), (.t 117)], none⟩, .o ⟨(some 16), none, false, .mv (.t 118), (some [15, 16])⟩]
def c_laws_FnExactTurnRounds_62 : ACode := .region c_laws_FnExactTurnRounds_o35
abbrev c_laws_FnExactTurnRounds_o36 : List AJ := [.o ⟨(some 119), none, false, .mv (.t 16), none⟩, .o ⟨(some 120), none, false, .bin .lss (.t 119) (.c (.int .i64 0)), (some [15, 16, 120])⟩]
def c_laws_FnExactTurnRounds_63 : ACode := .region c_laws_FnExactTurnRounds_o36
abbrev c_laws_FnExactTurnRounds_o37 : List AJ := [.o ⟨(some 6), none, false, .mv (.c (.bool false)), (some [6])⟩]
def c_laws_FnExactTurnRounds_64 : ACode := .region c_laws_FnExactTurnRounds_o37
def c_laws_FnExactTurnRounds_65 : ACode := .seq c_laws_FnExactTurnRounds_64 .ret
def c_laws_FnExactTurnRounds_66 : ACode := .cond (.t 120) c_laws_FnExactTurnRounds_65 .skip
def c_laws_FnExactTurnRounds_67 : ACode := .seq c_laws_FnExactTurnRounds_63 c_laws_FnExactTurnRounds_66
abbrev c_laws_FnExactTurnRounds_o38 : List AJ := [.o ⟨(some 121), none, false, .mv (.t 16), none⟩, .o ⟨(some 122), none, false, .mv (.t 15), none⟩, .o ⟨(some 123), none, false, .bin .neq (.t 121) (.t 122), (some [123])⟩]
def c_laws_FnExactTurnRounds_68 : ACode := .region c_laws_FnExactTurnRounds_o38
abbrev c_laws_FnExactTurnRounds_o39 : List AJ := [.o ⟨(some 6), none, false, .mv (.c (.bool false)), (some [6])⟩]
def c_laws_FnExactTurnRounds_69 : ACode := .region c_laws_FnExactTurnRounds_o39
def c_laws_FnExactTurnRounds_70 : ACode := .seq c_laws_FnExactTurnRounds_69 .ret
def c_laws_FnExactTurnRounds_71 : ACode := .cond (.t 123) c_laws_FnExactTurnRounds_70 .skip
def c_laws_FnExactTurnRounds_72 : ACode := .seq c_laws_FnExactTurnRounds_68 c_laws_FnExactTurnRounds_71
abbrev c_laws_FnExactTurnRounds_o40 : List AJ := [.o ⟨(some 6), none, false, .mv (.c (.bool true)), (some [6])⟩]
def c_laws_FnExactTurnRounds_73 : ACode := .region c_laws_FnExactTurnRounds_o40
def c_laws_FnExactTurnRounds_74 : ACode := .seq c_laws_FnExactTurnRounds_73 .ret
def c_laws_FnExactTurnRounds_75 : ACode := .seq c_laws_FnExactTurnRounds_72 c_laws_FnExactTurnRounds_74
def c_laws_FnExactTurnRounds_76 : ACode := .seq c_laws_FnExactTurnRounds_67 c_laws_FnExactTurnRounds_75
def c_laws_FnExactTurnRounds_77 : ACode := .seq c_laws_FnExactTurnRounds_62 c_laws_FnExactTurnRounds_76
def c_laws_FnExactTurnRounds_78 : ACode := .seq c_laws_FnExactTurnRounds_61 c_laws_FnExactTurnRounds_77
def c_laws_FnExactTurnRounds_79 : ACode := .seq c_laws_FnExactTurnRounds_60 c_laws_FnExactTurnRounds_78
def c_laws_FnExactTurnRounds_80 : ACode := .seq c_laws_FnExactTurnRounds_55 c_laws_FnExactTurnRounds_79
def c_laws_FnExactTurnRounds_81 : ACode := .seq c_laws_FnExactTurnRounds_54 c_laws_FnExactTurnRounds_80
def c_laws_FnExactTurnRounds_82 : ACode := .seq c_laws_FnExactTurnRounds_49 c_laws_FnExactTurnRounds_81
def c_laws_FnExactTurnRounds_83 : ACode := .seq c_laws_FnExactTurnRounds_44 c_laws_FnExactTurnRounds_82
def c_laws_FnExactTurnRounds_84 : ACode := .seq c_laws_FnExactTurnRounds_43 c_laws_FnExactTurnRounds_83
def c_laws_FnExactTurnRounds_85 : ACode := .seq c_laws_FnExactTurnRounds_42 c_laws_FnExactTurnRounds_84
def c_laws_FnExactTurnRounds_86 : ACode := .seq c_laws_FnExactTurnRounds_41 c_laws_FnExactTurnRounds_85
def c_laws_FnExactTurnRounds_87 : ACode := .seq c_laws_FnExactTurnRounds_40 c_laws_FnExactTurnRounds_86
def c_laws_FnExactTurnRounds_88 : ACode := .seq c_laws_FnExactTurnRounds_35 c_laws_FnExactTurnRounds_87
def c_laws_FnExactTurnRounds_89 : ACode := .seq c_laws_FnExactTurnRounds_34 c_laws_FnExactTurnRounds_88
def c_laws_FnExactTurnRounds_90 : ACode := .seq c_laws_FnExactTurnRounds_33 c_laws_FnExactTurnRounds_89
def c_laws_FnExactTurnRounds_91 : ACode := .seq c_laws_FnExactTurnRounds_32 c_laws_FnExactTurnRounds_90
def c_laws_FnExactTurnRounds_92 : ACode := .seq c_laws_FnExactTurnRounds_27 c_laws_FnExactTurnRounds_91
def c_laws_FnExactTurnRounds_93 : ACode := .seq c_laws_FnExactTurnRounds_22 c_laws_FnExactTurnRounds_92
def c_laws_FnExactTurnRounds_94 : ACode := .seq c_laws_FnExactTurnRounds_17 c_laws_FnExactTurnRounds_93
def c_laws_FnExactTurnRounds_95 : ACode := .seq c_laws_FnExactTurnRounds_16 c_laws_FnExactTurnRounds_94
def c_laws_FnExactTurnRounds_96 : ACode := .seq c_laws_FnExactTurnRounds_15 c_laws_FnExactTurnRounds_95
def c_laws_FnExactTurnRounds_97 : ACode := .seq c_laws_FnExactTurnRounds_14 c_laws_FnExactTurnRounds_96
def c_laws_FnExactTurnRounds_98 : ACode := .seq c_laws_FnExactTurnRounds_13 c_laws_FnExactTurnRounds_97
def c_laws_FnExactTurnRounds_99 : ACode := .seq c_laws_FnExactTurnRounds_8 c_laws_FnExactTurnRounds_98
def c_laws_FnExactTurnRounds_100 : ACode := .seq c_laws_FnExactTurnRounds_7 c_laws_FnExactTurnRounds_99
def c_laws_FnExactTurnRounds_101 : ACode := .seq c_laws_FnExactTurnRounds_2 c_laws_FnExactTurnRounds_100
def c_laws_FnExactTurnRounds_102 : ACode := .seq c_laws_FnExactTurnRounds_1 c_laws_FnExactTurnRounds_101
def c_laws_FnExactTurnRounds_103 : ACode := .seq c_laws_FnExactTurnRounds_0 c_laws_FnExactTurnRounds_102
section
variable (C : Cx) (n : Nat) (sk : List AItem) (e : Env) (h : Heap) (R : AV → Heap → Prop)
@[simp, simp ↓] theorem c_laws_FnExactTurnRounds_0_r : vc2 C (n + 1) [] (.code c_laws_FnExactTurnRounds_0 :: sk) e h R = (vc2 C n c_laws_FnExactTurnRounds_o0 sk e h R) := nr rfl
@[simp, simp ↓] theorem c_laws_FnExactTurnRounds_1_r : vc2 C (n + 1) [] (.code c_laws_FnExactTurnRounds_1 :: sk) e h R = (vc2 C n c_laws_FnExactTurnRounds_o1 sk e h R) := nr rfl
@[simp, simp ↓] theorem c_laws_FnExactTurnRounds_2_r : vc2 C (n + 1) [] (.code c_laws_FnExactTurnRounds_2 :: sk) e h R = (vc2 C n c_laws_FnExactTurnRounds_o2 sk e h R) := nr rfl
@[simp, simp ↓] theorem c_laws_FnExactTurnRounds_3_r : vc2 C (n + 1) [] (.code c_laws_FnExactTurnRounds_3 :: sk) e h R = (vc2 C n c_laws_FnExactTurnRounds_o3 sk e h R) := nr rfl
@[simp, simp ↓] theorem c_laws_FnExactTurnRounds_4_r : vc2 C (n + 1) [] (.code c_laws_FnExactTurnRounds_4 :: sk) e h R = (vc2 C n c_laws_FnExactTurnRounds_o4 sk e h R) := nr rfl
@[simp, simp ↓] theorem c_laws_FnExactTurnRounds_5_r : vc2 C (n + 1) [] (.code c_laws_FnExactTurnRounds_5 :: sk) e h R = (vc2 C n [] (.code c_laws_FnExactTurnRounds_4 :: .code .ret :: sk) e h R) := nr rfl
@[simp, simp ↓] theorem c_laws_FnExactTurnRounds_6_r : vc2 C (n + 1) [] (.code c_laws_FnExactTurnRounds_6 :: sk) e h R = (condK (ev e (.t 23)) (vc2 C n [] (.code c_laws_FnExactTurnRounds_5 :: sk) e h R) (vc2 C n [] (.code .skip :: sk) e h R)) := nr rfl
@[simp, simp ↓] theorem c_laws_FnExactTurnRounds_7_r : vc2 C (n + 1) [] (.code c_laws_FnExactTurnRounds_7 :: sk) e h R = (vc2 C n [] (.code c_laws_FnExactTurnRounds_3 :: .code c_laws_FnExactTurnRounds_6 :: sk) e h R) := nr rfl
@[simp, simp ↓] theorem c_laws_FnExactTurnRounds_8_r : vc2 C (n + 1) [] (.code c_laws_FnExactTurnRounds_8 :: sk) e h R = (vc2 C n c_laws_FnExactTurnRounds_o5 sk e h R) := nr rfl
@[simp, simp ↓] theorem c_laws_FnExactTurnRounds_9_r : vc2 C (n + 1) [] (.code c_laws_FnExactTurnRounds_9 :: sk) e h R = (vc2 C n c_laws_FnExactTurnRounds_o6 sk e h R) := nr rfl
@[simp, simp ↓] theorem c_laws_FnExactTurnRounds_10_r : vc2 C (n + 1) [] (.code c_laws_FnExactTurnRounds_10 :: sk) e h R = (vc2 C n c_laws_FnExactTurnRounds_o7 sk e h R) := nr rfl
@[simp, simp ↓] theorem c_laws_FnExactTurnRounds_11_r : vc2 C (n + 1) [] (.code c_laws_FnExactTurnRounds_11 :: sk) e h R = (vc2 C n [] (.code c_laws_FnExactTurnRounds_10 :: .code .ret :: sk) e h R) := nr rfl
@[simp, simp ↓] theorem c_laws_FnExactTurnRounds_12_r : vc2 C (n + 1) [] (.code c_laws_FnExactTurnRounds_12 :: sk) e h R = (condK (ev e (.t 28)) (vc2 C n [] (.code c_laws_FnExactTurnRounds_11 :: sk) e h R) (vc2 C n [] (.code .skip :: sk) e h R)) := nr rfl
@[simp, simp ↓] theorem c_laws_FnExactTurnRounds_13_r : vc2 C (n + 1) [] (.code c_laws_FnExactTurnRounds_13 :: sk) e h R = (vc2 C n [] (.code c_laws_FnExactTurnRounds_9 :: .code c_laws_FnExactTurnRounds_12 :: sk) e h R) := nr rfl
@[simp, simp ↓] theorem c_laws_FnExactTurnRounds_14_r : vc2 C (n + 1) [] (.code c_laws_FnExactTurnRounds_14 :: sk) e h R = (vc2 C n c_laws_FnExactTurnRounds_o8 sk e h R) := nr rfl
@[simp, simp ↓] theorem c_laws_FnExactTurnRounds_15_r : vc2 C (n + 1) [] (.code c_laws_FnExactTurnRounds_15 :: sk) e h R = (vc2 C n c_laws_FnExactTurnRounds_o9 sk e h R) := nr rfl
@[simp, simp ↓] theorem c_laws_FnExactTurnRounds_16_r : vc2 C (n + 1) [] (.code c_laws_FnExactTurnRounds_16 :: sk) e h R = (vc2 C n c_laws_FnExactTurnRounds_o10 sk e h R) := nr rfl
@[simp, simp ↓] theorem c_laws_FnExactTurnRounds_17_r : vc2 C (n + 1) [] (.code c_laws_FnExactTurnRounds_17 :: sk) e h R = (vc2 C n c_laws_FnExactTurnRounds_o11 sk e h R) := nr rfl
@[simp, simp ↓] theorem c_laws_FnExactTurnRounds_18_r : vc2 C (n + 1) [] (.code c_laws_FnExactTurnRounds_18 :: sk) e h R = (vc2 C n c_laws_FnExactTurnRounds_o12 sk e h R) := nr rfl
@[simp, simp ↓] theorem c_laws_FnExactTurnRounds_19_r : vc2 C (n + 1) [] (.code c_laws_FnExactTurnRounds_19 :: sk) e h R = (vc2 C n c_laws_FnExactTurnRounds_o13 sk e h R) := nr rfl
@[simp, simp ↓] theorem c_laws_FnExactTurnRounds_20_r : vc2 C (n + 1) [] (.code c_laws_FnExactTurnRounds_20 :: sk) e h R = (vc2 C n [] (.code c_laws_FnExactTurnRounds_19 :: .code .ret :: sk) e h R) := nr rfl
@[simp, simp ↓] theorem c_laws_FnExactTurnRounds_21_r : vc2 C (n + 1) [] (.code c_laws_FnExactTurnRounds_21 :: sk) e h R = (condK (ev e (.t 57)) (vc2 C n [] (.code c_laws_FnExactTurnRounds_20 :: sk) e h R) (vc2 C n [] (.code .skip :: sk) e h R)) := nr rfl
@[simp, simp ↓] theorem c_laws_FnExactTurnRounds_22_r : vc2 C (n + 1) [] (.code c_laws_FnExactTurnRounds_22 :: sk) e h R = (vc2 C n [] (.code c_laws_FnExactTurnRounds_18 :: .code c_laws_FnExactTurnRounds_21 :: sk) e h R) := nr rfl
@[simp, simp ↓] theorem c_laws_FnExactTurnRounds_23_r : vc2 C (n + 1) [] (.code c_laws_FnExactTurnRounds_23 :: sk) e h R = (draw2 C h (vK C n [] sk R h) c_laws_FnExactTurnRounds_o14 e) := nr rfl
@[simp, simp ↓] theorem c_laws_FnExactTurnRounds_24_r : vc2 C (n + 1) [] (.code c_laws_FnExactTurnRounds_24 :: sk) e h R = (vc2 C n c_laws_FnExactTurnRounds_o15 sk e h R) := nr rfl
@[simp, simp ↓] theorem c_laws_FnExactTurnRounds_25_r : vc2 C (n + 1) [] (.code c_laws_FnExactTurnRounds_25 :: sk) e h R = (vc2 C n [] (.code c_laws_FnExactTurnRounds_24 :: .code .ret :: sk) e h R) := nr rfl
@[simp, simp ↓] theorem c_laws_FnExactTurnRounds_26_r : vc2 C (n + 1) [] (.code c_laws_FnExactTurnRounds_26 :: sk) e h R = (condK (ev e (.t 62)) (vc2 C n [] (.code c_laws_FnExactTurnRounds_25 :: sk) e h R) (vc2 C n [] (.code .skip :: sk) e h R)) := nr rfl
@[simp, simp ↓] theorem c_laws_FnExactTurnRounds_27_r : vc2 C (n + 1) [] (.code c_laws_FnExactTurnRounds_27 :: sk) e h R = (vc2 C n [] (.code c_laws_FnExactTurnRounds_23 :: .code c_laws_FnExactTurnRounds_26 :: sk) e h R) := nr rfl
@[simp, simp ↓] theorem c_laws_FnExactTurnRounds_28_r : vc2 C (n + 1) [] (.code c_laws_FnExactTurnRounds_28 :: sk) e h R = (vc2 C n c_laws_FnExactTurnRounds_o16 sk e h R) := nr rfl
@[simp, simp ↓] theorem c_laws_FnExactTurnRounds_29_r : vc2 C (n + 1) [] (.code c_laws_FnExactTurnRounds_29 :: sk) e h R = (vc2 C n c_laws_FnExactTurnRounds_o17 sk e h R) := nr rfl
@[simp, simp ↓] theorem c_laws_FnExactTurnRounds_30_r : vc2 C (n + 1) [] (.code c_laws_FnExactTurnRounds_30 :: sk) e h R = (vc2 C n [] (.code c_laws_FnExactTurnRounds_29 :: .code .ret :: sk) e h R) := nr rfl
@[simp, simp ↓] theorem c_laws_FnExactTurnRounds_31_r : vc2 C (n + 1) [] (.code c_laws_FnExactTurnRounds_31 :: sk) e h R = (condK (ev e (.t 67)) (vc2 C n [] (.code c_laws_FnExactTurnRounds_30 :: sk) e h R) (vc2 C n [] (.code .skip :: sk) e h R)) := nr rfl
@[simp, simp ↓] theorem c_laws_FnExactTurnRounds_32_r : vc2 C (n + 1) [] (.code c_laws_FnExactTurnRounds_32 :: sk) e h R = (vc2 C n [] (.code c_laws_FnExactTurnRounds_28 :: .code c_laws_FnExactTurnRounds_31 :: sk) e h R) := nr rfl
@[simp, simp ↓] theorem c_laws_FnExactTurnRounds_33_r : vc2 C (n + 1) [] (.code c_laws_FnExactTurnRounds_33 :: sk) e h R = (vc2 C n c_laws_FnExactTurnRounds_o18 sk e h R) := nr rfl
@[simp, simp ↓] theorem c_laws_FnExactTurnRounds_34_r : vc2 C (n + 1) [] (.code c_laws_FnExactTurnRounds_34 :: sk) e h R = (vc2 C n c_laws_FnExactTurnRounds_o19 sk e h R) := nr rfl
@[simp, simp ↓] theorem c_laws_FnExactTurnRounds_35_r : vc2 C (n + 1) [] (.code c_laws_FnExactTurnRounds_35 :: sk) e h R = (vc2 C n c_laws_FnExactTurnRounds_o20 sk e h R) := nr rfl
@[simp, simp ↓] theorem c_laws_FnExactTurnRounds_36_r : vc2 C (n + 1) [] (.code c_laws_FnExactTurnRounds_36 :: sk) e h R = (vc2 C n c_laws_FnExactTurnRounds_o21 sk e h R) := nr rfl
@[simp, simp ↓] theorem c_laws_FnExactTurnRounds_37_r : vc2 C (n + 1) [] (.code c_laws_FnExactTurnRounds_37 :: sk) e h R = (vc2 C n c_laws_FnExactTurnRounds_o22 sk e h R) := nr rfl
@[simp, simp ↓] theorem c_laws_FnExactTurnRounds_38_r : vc2 C (n + 1) [] (.code c_laws_FnExactTurnRounds_38 :: sk) e h R = (vc2 C n [] (.code c_laws_FnExactTurnRounds_37 :: .code .ret :: sk) e h R) := nr rfl
@[simp, simp ↓] theorem c_laws_FnExactTurnRounds_39_r : vc2 C (n + 1) [] (.code c_laws_FnExactTurnRounds_39 :: sk) e h R = (condK (ev e (.t 86)) (vc2 C n [] (.code c_laws_FnExactTurnRounds_38 :: sk) e h R) (vc2 C n [] (.code .skip :: sk) e h R)) := nr rfl
@[simp, simp ↓] theorem c_laws_FnExactTurnRounds_40_r : vc2 C (n + 1) [] (.code c_laws_FnExactTurnRounds_40 :: sk) e h R = (vc2 C n [] (.code c_laws_FnExactTurnRounds_36 :: .code c_laws_FnExactTurnRounds_39 :: sk) e h R) := nr rfl
@[simp, simp ↓] theorem c_laws_FnExactTurnRounds_41_r : vc2 C (n + 1) [] (.code c_laws_FnExactTurnRounds_41 :: sk) e h R = (vc2 C n c_laws_FnExactTurnRounds_o23 sk e h R) := nr rfl
@[simp, simp ↓] theorem c_laws_FnExactTurnRounds_42_r : vc2 C (n + 1) [] (.code c_laws_FnExactTurnRounds_42 :: sk) e h R = (vc2 C n c_laws_FnExactTurnRounds_o24 sk e h R) := nr rfl
@[simp, simp ↓] theorem c_laws_FnExactTurnRounds_43_r : vc2 C (n + 1) [] (.code c_laws_FnExactTurnRounds_43 :: sk) e h R = (vc2 C n c_laws_FnExactTurnRounds_o25 sk e h R) := nr rfl
@[simp, simp ↓] theorem c_laws_FnExactTurnRounds_44_r : vc2 C (n + 1) [] (.code c_laws_FnExactTurnRounds_44 :: sk) e h R = (vc2 C n c_laws_FnExactTurnRounds_o26 sk e h R) := nr rfl
@[simp, simp ↓] theorem c_laws_FnExactTurnRounds_45_r : vc2 C (n + 1) [] (.code c_laws_FnExactTurnRounds_45 :: sk) e h R = (vc2 C n c_laws_FnExactTurnRounds_o27 sk e h R) := nr rfl
@[simp, simp ↓] theorem c_laws_FnExactTurnRounds_46_r : vc2 C (n + 1) [] (.code c_laws_FnExactTurnRounds_46 :: sk) e h R = (vc2 C n c_laws_FnExactTurnRounds_o28 sk e h R) := nr rfl
@[simp, simp ↓] theorem c_laws_FnExactTurnRounds_47_r : vc2 C (n + 1) [] (.code c_laws_FnExactTurnRounds_47 :: sk) e h R = (vc2 C n [] (.code c_laws_FnExactTurnRounds_46 :: .code .ret :: sk) e h R) := nr rfl
@[simp, simp ↓] theorem c_laws_FnExactTurnRounds_48_r : vc2 C (n + 1) [] (.code c_laws_FnExactTurnRounds_48 :: sk) e h R = (condK (ev e (.t 94)) (vc2 C n [] (.code c_laws_FnExactTurnRounds_47 :: sk) e h R) (vc2 C n [] (.code .skip :: sk) e h R)) := nr rfl
@[simp, simp ↓] theorem c_laws_FnExactTurnRounds_49_r : vc2 C (n + 1) [] (.code c_laws_FnExactTurnRounds_49 :: sk) e h R = (vc2 C n [] (.code c_laws_FnExactTurnRounds_45 :: .code c_laws_FnExactTurnRounds_48 :: sk) e h R) := nr rfl
@[simp, simp ↓] theorem c_laws_FnExactTurnRounds_50_r : vc2 C (n + 1) [] (.code c_laws_FnExactTurnRounds_50 :: sk) e h R = (vc2 C n c_laws_FnExactTurnRounds_o29 sk e h R) := nr rfl
@[simp, simp ↓] theorem c_laws_FnExactTurnRounds_51_r : vc2 C (n + 1) [] (.code c_laws_FnExactTurnRounds_51 :: sk) e h R = (vc2 C n c_laws_FnExactTurnRounds_o30 sk e h R) := nr rfl
@[simp, simp ↓] theorem c_laws_FnExactTurnRounds_52_r : vc2 C (n + 1) [] (.code c_laws_FnExactTurnRounds_52 :: sk) e h R = (vc2 C n [] (.code c_laws_FnExactTurnRounds_51 :: .code .ret :: sk) e h R) := nr rfl
@[simp, simp ↓] theorem c_laws_FnExactTurnRounds_53_r : vc2 C (n + 1) [] (.code c_laws_FnExactTurnRounds_53 :: sk) e h R = (condK (ev e (.t 97)) (vc2 C n [] (.code c_laws_FnExactTurnRounds_52 :: sk) e h R) (vc2 C n [] (.code .skip :: sk) e h R)) := nr rfl
@[simp, simp ↓] theorem c_laws_FnExactTurnRounds_54_r : vc2 C (n + 1) [] (.code c_laws_FnExactTurnRounds_54 :: sk) e h R = (vc2 C n [] (.code c_laws_FnExactTurnRounds_50 :: .code c_laws_FnExactTurnRounds_53 :: sk) e h R) := nr rfl
@[simp, simp ↓] theorem c_laws_FnExactTurnRounds_55_r : vc2 C (n + 1) [] (.code c_laws_FnExactTurnRounds_55 :: sk) e h R = (vc2 C n c_laws_FnExactTurnRounds_o31 sk e h R) := nr rfl
@[simp, simp ↓] theorem c_laws_FnExactTurnRounds_56_r : vc2 C (n + 1) [] (.code c_laws_FnExactTurnRounds_56 :: sk) e h R = (vc2 C n c_laws_FnExactTurnRounds_o32 sk e h R) := nr rfl
@[simp, simp ↓] theorem c_laws_FnExactTurnRounds_57_r : vc2 C (n + 1) [] (.code c_laws_FnExactTurnRounds_57 :: sk) e h R = (vc2 C n c_laws_FnExactTurnRounds_o33 sk e h R) := nr rfl
@[simp, simp ↓] theorem c_laws_FnExactTurnRounds_58_r : vc2 C (n + 1) [] (.code c_laws_FnExactTurnRounds_58 :: sk) e h R = (vc2 C n [] (.code c_laws_FnExactTurnRounds_57 :: .code .ret :: sk) e h R) := nr rfl
@[simp, simp ↓] theorem c_laws_FnExactTurnRounds_59_r : vc2 C (n + 1) [] (.code c_laws_FnExactTurnRounds_59 :: sk) e h R = (condK (ev e (.t 115)) (vc2 C n [] (.code c_laws_FnExactTurnRounds_58 :: sk) e h R) (vc2 C n [] (.code .skip :: sk) e h R)) := nr rfl
@[simp, simp ↓] theorem c_laws_FnExactTurnRounds_60_r : vc2 C (n + 1) [] (.code c_laws_FnExactTurnRounds_60 :: sk) e h R = (vc2 C n [] (.code c_laws_FnExactTurnRounds_56 :: .code c_laws_FnExactTurnRounds_59 :: sk) e h R) := nr rfl
@[simp, simp ↓] theorem c_laws_FnExactTurnRounds_61_r : vc2 C (n + 1) [] (.code c_laws_FnExactTurnRounds_61 :: sk) e h R = (vc2 C n c_laws_FnExactTurnRounds_o34 sk e h R) := nr rfl
@[simp, simp ↓] theorem c_laws_FnExactTurnRounds_62_r : vc2 C (n + 1) [] (.code c_laws_FnExactTurnRounds_62 :: sk) e h R = (vc2 C n c_laws_FnExactTurnRounds_o35 sk e h R) := nr rfl
@[simp, simp ↓] theorem c_laws_FnExactTurnRounds_63_r : vc2 C (n + 1) [] (.code c_laws_FnExactTurnRounds_63 :: sk) e h R = (vc2 C n c_laws_FnExactTurnRounds_o36 sk e h R) := nr rfl
@[simp, simp ↓] theorem c_laws_FnExactTurnRounds_64_r : vc2 C (n + 1) [] (.code c_laws_FnExactTurnRounds_64 :: sk) e h R = (vc2 C n c_laws_FnExactTurnRounds_o37 sk e h R) := nr rfl
@[simp, simp ↓] theorem c_laws_FnExactTurnRounds_65_r : vc2 C (n + 1) [] (.code c_laws_FnExactTurnRounds_65 :: sk) e h R = (vc2 C n [] (.code c_laws_FnExactTurnRounds_64 :: .code .ret :: sk) e h R) := nr rfl
@[simp, simp ↓] theorem c_laws_FnExactTurnRounds_66_r : vc2 C (n + 1) [] (.code c_laws_FnExactTurnRounds_66 :: sk) e h R = (condK (ev e (.t 120)) (vc2 C n [] (.code c_laws_FnExactTurnRounds_65 :: sk) e h R) (vc2 C n [] (.code .skip :: sk) e h R)) := nr rfl
@[simp, simp ↓] theorem c_laws_FnExactTurnRounds_67_r : vc2 C (n + 1) [] (.code c_laws_FnExactTurnRounds_67 :: sk) e h R = (vc2 C n [] (.code c_laws_FnExactTurnRounds_63 :: .code c_laws_FnExactTurnRounds_66 :: sk) e h R) := nr rfl
@[simp, simp ↓] theorem c_laws_FnExactTurnRounds_68_r : vc2 C (n + 1) [] (.code c_laws_FnExactTurnRounds_68 :: sk) e h R = (vc2 C n c_laws_FnExactTurnRounds_o38 sk e h R) := nr rfl
@[simp, simp ↓] theorem c_laws_FnExactTurnRounds_69_r : vc2 C (n + 1) [] (.code c_laws_FnExactTurnRounds_69 :: sk) e h R = (vc2 C n c_laws_FnExactTurnRounds_o39 sk e h R) := nr rfl
@[simp, simp ↓] theorem c_laws_FnExactTurnRounds_70_r : vc2 C (n + 1) [] (.code c_laws_FnExactTurnRounds_70 :: sk) e h R = (vc2 C n [] (.code c_laws_FnExactTurnRounds_69 :: .code .ret :: sk) e h R) := nr rfl
@[simp, simp ↓] theorem c_laws_FnExactTurnRounds_71_r : vc2 C (n + 1) [] (.code c_laws_FnExactTurnRounds_71 :: sk) e h R = (condK (ev e (.t 123)) (vc2 C n [] (.code c_laws_FnExactTurnRounds_70 :: sk) e h R) (vc2 C n [] (.code .skip :: sk) e h R)) := nr rfl
@[simp, simp ↓] theorem c_laws_FnExactTurnRounds_72_r : vc2 C (n + 1) [] (.code c_laws_FnExactTurnRounds_72 :: sk) e h R = (vc2 C n [] (.code c_laws_FnExactTurnRounds_68 :: .code c_laws_FnExactTurnRounds_71 :: sk) e h R) := nr rfl
@[simp, simp ↓] theorem c_laws_FnExactTurnRounds_73_r : vc2 C (n + 1) [] (.code c_laws_FnExactTurnRounds_73 :: sk) e h R = (vc2 C n c_laws_FnExactTurnRounds_o40 sk e h R) := nr rfl
@[simp, simp ↓] theorem c_laws_FnExactTurnRounds_74_r : vc2 C (n + 1) [] (.code c_laws_FnExactTurnRounds_74 :: sk) e h R = (vc2 C n [] (.code c_laws_FnExactTurnRounds_73 :: .code .ret :: sk) e h R) := nr rfl
@[simp, simp ↓] theorem c_laws_FnExactTurnRounds_75_r : vc2 C (n + 1) [] (.code c_laws_FnExactTurnRounds_75 :: sk) e h R = (vc2 C n [] (.code c_laws_FnExactTurnRounds_72 :: .code c_laws_FnExactTurnRounds_74 :: sk) e h R) := nr rfl
@[simp, simp ↓] theorem c_laws_FnExactTurnRounds_76_r : vc2 C (n + 1) [] (.code c_laws_FnExactTurnRounds_76 :: sk) e h R = (vc2 C n [] (.code c_laws_FnExactTurnRounds_67 :: .code c_laws_FnExactTurnRounds_75 :: sk) e h R) := nr rfl
@[simp, simp ↓] theorem c_laws_FnExactTurnRounds_77_r : vc2 C (n + 1) [] (.code c_laws_FnExactTurnRounds_77 :: sk) e h R = (vc2 C n [] (.code c_laws_FnExactTurnRounds_62 :: .code c_laws_FnExactTurnRounds_76 :: sk) e h R) := nr rfl
@[simp, simp ↓] theorem c_laws_FnExactTurnRounds_78_r : vc2 C (n + 1) [] (.code c_laws_FnExactTurnRounds_78 :: sk) e h R = (vc2 C n [] (.code c_laws_FnExactTurnRounds_61 :: .code c_laws_FnExactTurnRounds_77 :: sk) e h R) := nr rfl
@[simp, simp ↓] theorem c_laws_FnExactTurnRounds_79_r : vc2 C (n + 1) [] (.code c_laws_FnExactTurnRounds_79 :: sk) e h R = (vc2 C n [] (.code c_laws_FnExactTurnRounds_60 :: .code c_laws_FnExactTurnRounds_78 :: sk) e h R) := nr rfl
@[simp, simp ↓] theorem c_laws_FnExactTurnRounds_80_r : vc2 C (n + 1) [] (.code c_laws_FnExactTurnRounds_80 :: sk) e h R = (vc2 C n [] (.code c_laws_FnExactTurnRounds_55 :: .code c_laws_FnExactTurnRounds_79 :: sk) e h R) := nr rfl
@[simp, simp ↓] theorem c_laws_FnExactTurnRounds_81_r : vc2 C (n + 1) [] (.code c_laws_FnExactTurnRounds_81 :: sk) e h R = (vc2 C n [] (.code c_laws_FnExactTurnRounds_54 :: .code c_laws_FnExactTurnRounds_80 :: sk) e h R) := nr rfl
@[simp, simp ↓] theorem c_laws_FnExactTurnRounds_82_r : vc2 C (n + 1) [] (.code c_laws_FnExactTurnRounds_82 :: sk) e h R = (vc2 C n [] (.code c_laws_FnExactTurnRounds_49 :: .code c_laws_FnExactTurnRounds_81 :: sk) e h R) := nr rfl
@[simp, simp ↓] theorem c_laws_FnExactTurnRounds_83_r : vc2 C (n + 1) [] (.code c_laws_FnExactTurnRounds_83 :: sk) e h R = (vc2 C n [] (.code c_laws_FnExactTurnRounds_44 :: .code c_laws_FnExactTurnRounds_82 :: sk) e h R) := nr rfl
@[simp, simp ↓] theorem c_laws_FnExactTurnRounds_84_r : vc2 C (n + 1) [] (.code c_laws_FnExactTurnRounds_84 :: sk) e h R = (vc2 C n [] (.code c_laws_FnExactTurnRounds_43 :: .code c_laws_FnExactTurnRounds_83 :: sk) e h R) := nr rfl
@[simp, simp ↓] theorem c_laws_FnExactTurnRounds_85_r : vc2 C (n + 1) [] (.code c_laws_FnExactTurnRounds_85 :: sk) e h R = (vc2 C n [] (.code c_laws_FnExactTurnRounds_42 :: .code c_laws_FnExactTurnRounds_84 :: sk) e h R) := nr rfl
@[simp, simp ↓] theorem c_laws_FnExactTurnRounds_86_r : vc2 C (n + 1) [] (.code c_laws_FnExactTurnRounds_86 :: sk) e h R = (vc2 C n [] (.code c_laws_FnExactTurnRounds_41 :: .code c_laws_FnExactTurnRounds_85 :: sk) e h R) := nr rfl
@[simp, simp ↓] theorem c_laws_FnExactTurnRounds_87_r : vc2 C (n + 1) [] (.code c_laws_FnExactTurnRounds_87 :: sk) e h R = (vc2 C n [] (.code c_laws_FnExactTurnRounds_40 :: .code c_laws_FnExactTurnRounds_86 :: sk) e h R) := nr rfl
@[simp, simp ↓] theorem c_laws_FnExactTurnRounds_88_r : vc2 C (n + 1) [] (.code c_laws_FnExactTurnRounds_88 :: sk) e h R = (vc2 C n [] (.code c_laws_FnExactTurnRounds_35 :: .code c_laws_FnExactTurnRounds_87 :: sk) e h R) := nr rfl
@[simp, simp ↓] theorem c_laws_FnExactTurnRounds_89_r : vc2 C (n + 1) [] (.code c_laws_FnExactTurnRounds_89 :: sk) e h R = (vc2 C n [] (.code c_laws_FnExactTurnRounds_34 :: .code c_laws_FnExactTurnRounds_88 :: sk) e h R) := nr rfl
@[simp, simp ↓] theorem c_laws_FnExactTurnRounds_90_r : vc2 C (n + 1) [] (.code c_laws_FnExactTurnRounds_90 :: sk) e h R = (vc2 C n [] (.code c_laws_FnExactTurnRounds_33 :: .code c_laws_FnExactTurnRounds_89 :: sk) e h R) := nr rfl
@[simp, simp ↓] theorem c_laws_FnExactTurnRounds_91_r : vc2 C (n + 1) [] (.code c_laws_FnExactTurnRounds_91 :: sk) e h R = (vc2 C n [] (.code c_laws_FnExactTurnRounds_32 :: .code c_laws_FnExactTurnRounds_90 :: sk) e h R) := nr rfl
@[simp, simp ↓] theorem c_laws_FnExactTurnRounds_92_r : vc2 C (n + 1) [] (.code c_laws_FnExactTurnRounds_92 :: sk) e h R = (vc2 C n [] (.code c_laws_FnExactTurnRounds_27 :: .code c_laws_FnExactTurnRounds_91 :: sk) e h R) := nr rfl
@[simp, simp ↓] theorem c_laws_FnExactTurnRounds_93_r : vc2 C (n + 1) [] (.code c_laws_FnExactTurnRounds_93 :: sk) e h R = (vc2 C n [] (.code c_laws_FnExactTurnRounds_22 :: .code c_laws_FnExactTurnRounds_92 :: sk) e h R) := nr rfl
@[simp, simp ↓] theorem c_laws_FnExactTurnRounds_94_r : vc2 C (n + 1) [] (.code c_laws_FnExactTurnRounds_94 :: sk) e h R = (vc2 C n [] (.code c_laws_FnExactTurnRounds_17 :: .code c_laws_FnExactTurnRounds_93 :: sk) e h R) := nr rfl
@[simp, simp ↓] theorem c_laws_FnExactTurnRounds_95_r : vc2 C (n + 1) [] (.code c_laws_FnExactTurnRounds_95 :: sk) e h R = (vc2 C n [] (.code c_laws_FnExactTurnRounds_16 :: .code c_laws_FnExactTurnRounds_94 :: sk) e h R) := nr rfl
@[simp, simp ↓] theorem c_laws_FnExactTurnRounds_96_r : vc2 C (n + 1) [] (.code c_laws_FnExactTurnRounds_96 :: sk) e h R = (vc2 C n [] (.code c_laws_FnExactTurnRounds_15 :: .code c_laws_FnExactTurnRounds_95 :: sk) e h R) := nr rfl
@[simp, simp ↓] theorem c_laws_FnExactTurnRounds_97_r : vc2 C (n + 1) [] (.code c_laws_FnExactTurnRounds_97 :: sk) e h R = (vc2 C n [] (.code c_laws_FnExactTurnRounds_14 :: .code c_laws_FnExactTurnRounds_96 :: sk) e h R) := nr rfl
@[simp, simp ↓] theorem c_laws_FnExactTurnRounds_98_r : vc2 C (n + 1) [] (.code c_laws_FnExactTurnRounds_98 :: sk) e h R = (vc2 C n [] (.code c_laws_FnExactTurnRounds_13 :: .code c_laws_FnExactTurnRounds_97 :: sk) e h R) := nr rfl
@[simp, simp ↓] theorem c_laws_FnExactTurnRounds_99_r : vc2 C (n + 1) [] (.code c_laws_FnExactTurnRounds_99 :: sk) e h R = (vc2 C n [] (.code c_laws_FnExactTurnRounds_8 :: .code c_laws_FnExactTurnRounds_98 :: sk) e h R) := nr rfl
@[simp, simp ↓] theorem c_laws_FnExactTurnRounds_100_r : vc2 C (n + 1) [] (.code c_laws_FnExactTurnRounds_100 :: sk) e h R = (vc2 C n [] (.code c_laws_FnExactTurnRounds_7 :: .code c_laws_FnExactTurnRounds_99 :: sk) e h R) := nr rfl
@[simp, simp ↓] theorem c_laws_FnExactTurnRounds_101_r : vc2 C (n + 1) [] (.code c_laws_FnExactTurnRounds_101 :: sk) e h R = (vc2 C n [] (.code c_laws_FnExactTurnRounds_2 :: .code c_laws_FnExactTurnRounds_100 :: sk) e h R) := nr rfl
@[simp, simp ↓] theorem c_laws_FnExactTurnRounds_102_r : vc2 C (n + 1) [] (.code c_laws_FnExactTurnRounds_102 :: sk) e h R = (vc2 C n [] (.code c_laws_FnExactTurnRounds_1 :: .code c_laws_FnExactTurnRounds_101 :: sk) e h R) := nr rfl
@[simp, simp ↓] theorem c_laws_FnExactTurnRounds_103_r : vc2 C (n + 1) [] (.code c_laws_FnExactTurnRounds_103 :: sk) e h R = (vc2 C n [] (.code c_laws_FnExactTurnRounds_0 :: .code c_laws_FnExactTurnRounds_102 :: sk) e h R) := nr rfl
end
noncomputable def c_laws_FnExactTurnRounds_C (orc : Orc) : Cx := ⟨Try.prog, [10], 11, 124, [.tmp 6], orc⟩
@[simp] theorem c_laws_FnExactTurnRounds_C_P (orc : Orc) : (c_laws_FnExactTurnRounds_C orc).P = Try.prog := nr rfl
@[simp] theorem c_laws_FnExactTurnRounds_C_o (orc : Orc) : (c_laws_FnExactTurnRounds_C orc).orc = orc := nr rfl
@[simp] theorem c_laws_FnExactTurnRounds_C_r (orc : Orc) : (c_laws_FnExactTurnRounds_C orc).res = [.tmp 6] := nr rfl
theorem c_laws_FnExactTurnRounds_of {args : List AV} {h : Heap} {R : AV → Heap → Prop} {k : Nat} (ha : args.length = k) {orc : Orc} (hp : Pure Try.prog orc) (hk : Is (c_laws_FnExactTurnRounds_C orc) Try.f11 → Run2 (c_laws_FnExactTurnRounds_C orc) [.code c_laws_FnExactTurnRounds_103] (argEnv 0 args) h (Post R)) (hle : k ≤ 124 := by simp) : ACalls Try.prog 11 args h R :=
  contract2 [10] c_laws_FnExactTurnRounds_103 [.tmp 6] Try.func11 (by decide +kernel) rfl (by kernel_rfl) (by rw [ha]; exact hle) (by kernel_rfl) hp hk
theorem c_laws_FnExactTurnRounds_of0 {args : List AV} {h : Heap} {R : AV → Heap → Prop} {k : Nat} (ha : args.length = k) {orc : Orc} (hp : Pure Try.prog orc) (hk : Is (c_laws_FnExactTurnRounds_C orc) Try.f11 → Run2 (c_laws_FnExactTurnRounds_C orc) [.code c_laws_FnExactTurnRounds_103] (argEnv 0 args) h R) (hle : k ≤ 124 := by simp) : ACalls Try.prog 11 args h R :=
  contract20 [10] c_laws_FnExactTurnRounds_103 [.tmp 6] Try.func11 (by decide +kernel) rfl (by kernel_rfl) (by rw [ha]; exact hle) (by kernel_rfl) hp hk
theorem tr_law (x : Gr) (hx : x.wf) (r : LS) (hr : wfSS r) (k : Int) (hk : in64 k) : ACalls Try.prog 11 [x.av, (.snap 1 (r.map il)), (.int .i64 k)] [] (fun v h' => v = .bool true ∧ h' = []) := by
  refine c_laws_FnExactTurnRounds_of rfl orcM_p fun I => ?_
  have hx2_x := hx.2
  have hx2_r := hr
  refine Run2.of I 1000 ?_
  by_cases kx : (x.ts.length : Int) ≤ (1048576 : Int)
  · have hAx : ¬ (1048576 : Int) < x.ts.length := by omega
    have hBx : ¬ (1048576 : Int) - x.ts.length < 0 := by omega
    have hCx : (0 : Int) ≤ (1048576 : Int) - x.ts.length := by omega
    have lx : x.ts.length ≤ 1048576 := by omega
    have hDx : (1048576 : Int) - x.ts.length ≤ 1048576 := by omega
    by_cases kr : ((ssTot r) : Int) ≤ ((1048576 : Int) - x.ts.length)
    · have hAr : ¬ ((1048576 : Int) - x.ts.length) < (ssTot r) := by omega
      have hBr : ¬ ((1048576 : Int) - x.ts.length) - (ssTot r) < 0 := by omega
      have hCr : (0 : Int) ≤ ((1048576 : Int) - x.ts.length) - (ssTot r) := by omega
      have lr : (ssTot r) ≤ 1048576 := by omega
      have hDr : ((1048576 : Int) - x.ts.length) - (ssTot r) ≤ 1048576 := by omega
      have ht := x.tL_tot r k
      have hsr := (show sumL r ≤ ssTot r by unfold ssTot; omega)
      simp -implicitDefEqProofs [hx2_x, hx2_r, hAx, hBx, hCx, hDx, kx, hAr, hBr, hCr, hDr, kr]
      first | refine dcallK (toGraph_c x _ lx) ?_ | (refine (toGraph_c x _ lx).mono ?_; rintro v h' ⟨rfl, rfl⟩; refine gK.go ?_)
      simp -implicitDefEqProofs
      first | refine dcallK (toInt64SS_t r _ lr) ?_ | (refine (toInt64SS_t r _ lr).mono ?_; rintro v h' ⟨rfl, rfl⟩; refine gK.go ?_)
      simp -implicitDefEqProofs
      first | refine dcallK (specTR_c x r k _ lx hx.1 lr) ?_ | (refine (specTR_c x r k _ lx hx.1 lr).mono ?_; rintro v h' ⟨rfl, rfl⟩; refine gK.go ?_)
      simp -implicitDefEqProofs
      refine (toGraph_o x _ lx).monoN ?_
      rintro v0 h' ⟨g0, o0, d0, rfl⟩ n0
      obtain ⟨u0, rfl, ou0⟩ := id o0
      have c0 := ou0.cell
      refine gK.go ?_
      simp -implicitDefEqProofs [c0]
      refine (toInt64SS_n r _ lr).monoN ?_
      rintro v1 h' ⟨g1, o1, d1, rfl⟩ n1
      refine gK.go ?_
      simp -implicitDefEqProofs [c0]
      have L0 := o0.lentIn (L := (g1 ++ g0)) (fun p hp => List.mem_append_right _ (hp)) n1
      have L1 := o1.lentMid (A := []) (B := g0) (by simpa only [List.nil_append, List.append_nil, List.append_assoc] using n1)
      refine (ACalls.gives (g1 ++ g0) (fun p hp => hp) (S := fun v h' => ∃ w, v = .tup [w, .int .i64 (x.tCode r k)] ∧ OwnLL w (x.tL r k) h') ?_ ?_).monoN ?_
      · rw [lend_cons, lend_cons, lend_cons, lend_nil', lend1_cold (g1 ++ g0) (x := (.int .i64 k)) rfl]
        exact ACalls.wk (.cons L0.wk (.cons L1.wk (.cons (.refl _) .nil))) (implTR_o x r k lx hx.1 lr)
      · rintro v h' ⟨w, rfl, ho⟩
        have := ho.own
        exact ⟨by simp [own, owns, this.1], this.2⟩
      rintro v h' ⟨gg, ⟨w, rfl, og⟩, dg, rfl⟩ ng
      refine gK.go ?_
      simp -implicitDefEqProofs [c0]
      first | refine dcallK (eqL_own og (.is (x.tL r k)) (fun p hp => List.mem_append_left _ hp) (show ssTot (x.tL r k) ≤ 1048576 by omega)) ?_ | (refine (eqL_own og (.is (x.tL r k)) (fun p hp => List.mem_append_left _ hp) (show ssTot (x.tL r k) ≤ 1048576 by omega)).mono ?_; rintro v h' ⟨rfl, rfl⟩; refine gK.go ?_)
      simp -implicitDefEqProofs [c0]
      first | refine dcallK (toGraph_c x _ lx) ?_ | (refine (toGraph_c x _ lx).mono ?_; rintro v h' ⟨rfl, rfl⟩; refine gK.go ?_)
      simp -implicitDefEqProofs [c0]
      first | refine dcallK (eqG_own o0 x.is (fun p hp => List.mem_append_right _ (List.mem_append_right _ (hp))) lx) ?_ | (refine (eqG_own o0 x.is (fun p hp => List.mem_append_right _ (List.mem_append_right _ (hp))) lx).mono ?_; rintro v h' ⟨rfl, rfl⟩; refine gK.go ?_)
      simp -implicitDefEqProofs [c0]
      first | refine dcallK (toInt64SS_t r _ lr) ?_ | (refine (toInt64SS_t r _ lr).mono ?_; rintro v h' ⟨rfl, rfl⟩; refine gK.go ?_)
      simp -implicitDefEqProofs [c0]
      first | refine dcallK (eqL_own o1 (.is r) (fun p hp => List.mem_append_right _ (List.mem_append_left _ hp)) lr) ?_ | (refine (eqL_own o1 (.is r) (fun p hp => List.mem_append_right _ (List.mem_append_left _ hp)) lr).mono ?_; rintro v h' ⟨rfl, rfl⟩; refine gK.go ?_)
      simp -implicitDefEqProofs [c0]
      refine (markG_drop o0 (gg ++ g1) (fun p hp => List.mem_append_right _ (List.mem_append_right _ (hp))) ?_ ?_ (1) (by omega) (by omega)).monoN ?_
      · simpa only [List.append_assoc] using keepL (a := (gg ++ g1)) (b := g0) (by simpa only [List.append_assoc] using ng)
      · exact fun nd => nodupL (a := (gg ++ g1)) (b := g0) (by simpa only [List.append_assoc] using nd)
      rintro _ _ ⟨e1, e2⟩ nk0
      rw [e1, e2]; rw [e2] at nk0
      refine gK.go ?_
      simp -implicitDefEqProofs [c0]
      refine (markL_drop o1 gg (fun p hp => List.mem_append_right _ (hp)) ?_ ?_ (1 + 3 * (x.ts.length : Int)) (by omega) (by omega)).monoN ?_
      · simpa only [List.append_assoc] using keepL (a := gg) (b := g1) (by simpa only [List.append_assoc] using nk0)
      · exact fun nd => nodupL (a := gg) (b := g1) (by simpa only [List.append_assoc] using nd)
      rintro _ _ ⟨e1, e2⟩ nk1
      rw [e1, e2]; rw [e2] at nk1
      refine gK.go ?_
      have hk : ¬ (1 + 3 * (x.ts.length : Int) + (sumL r : Int)) < 0 := by omega
      simp -implicitDefEqProofs [c0, hk]
      first | refine dcallK (eqL_own og (.is (x.tL r k)) (fun p hp => hp) (show ssTot (x.tL r k) ≤ 1048576 by omega)) ?_ | (refine (eqL_own og (.is (x.tL r k)) (fun p hp => hp) (show ssTot (x.tL r k) ≤ 1048576 by omega)).mono ?_; rintro v h' ⟨rfl, rfl⟩; refine gK.go ?_)
      simp -implicitDefEqProofs [c0]
      skip
      refine (markL_keep og [] (fun p hp => hp) keepN (fun _ => by simp [dom]) 1 (by omega) (by have := (show ssTot (x.tL r k) ≤ 1048576 by omega); omega)).mono ?_
      rintro _ _ ⟨gm, rfl, om, rfl⟩
      refine gK.go ?_
      simp -implicitDefEqProofs [c0]
      have hq : ¬ (1 + (sumL (x.tL r k) : Int) < 0) := by omega
      first | refine dcallK (heldL_own om (fun p hp => hp) 1 (by omega) (by have := (show ssTot (x.tL r k) ≤ 1048576 by omega); simp; omega)) ?_ | (refine (heldL_own om (fun p hp => hp) 1 (by omega) (by have := (show ssTot (x.tL r k) ≤ 1048576 by omega); simp; omega)).mono ?_; rintro v h' ⟨rfl, rfl⟩; refine gK.go ?_)
      simp -implicitDefEqProofs [c0, hq]
      first | refine dcallK (toGraph_c x _ lx) ?_ | (refine (toGraph_c x _ lx).mono ?_; rintro v h' ⟨rfl, rfl⟩; refine gK.go ?_)
      simp -implicitDefEqProofs [c0]
      first | refine dcallK (toInt64SS_t r _ lr) ?_ | (refine (toInt64SS_t r _ lr).mono ?_; rintro v h' ⟨rfl, rfl⟩; refine gK.go ?_)
      simp -implicitDefEqProofs [c0]
      refine (ACalls.gives [] (by simp) (S := fun v h' => ∃ w, v = .tup [w, .int .i64 (x.tCode r k)] ∧ OwnLL w (x.tL r k) h') ?_ ?_).mono ?_
      · exact implTR_o x r k lx hx.1 lr
      · rintro v h' ⟨w, rfl, ho⟩
        have := ho.own
        exact ⟨by simp [own, owns, this.1], this.2⟩
      rintro _ _ ⟨g9, ⟨w9, rfl, o9⟩, d9, rfl⟩
      refine gK.go ?_
      simp -implicitDefEqProofs [c0, hq]
      first | refine dcallK (eqL_own o9 (.is (x.tL r k)) (fun p hp => List.mem_append_left _ hp) (show ssTot (x.tL r k) ≤ 1048576 by omega)) ?_ | (refine (eqL_own o9 (.is (x.tL r k)) (fun p hp => List.mem_append_left _ hp) (show ssTot (x.tL r k) ≤ 1048576 by omega)).mono ?_; rintro v h' ⟨rfl, rfl⟩; refine gK.go ?_)
      simp -implicitDefEqProofs [c0, hq]
      first | refine dcallK (heldL_own om (fun p hp => List.mem_append_right _ hp) 1 (by omega) (by have := (show ssTot (x.tL r k) ≤ 1048576 by omega); simp; omega)) ?_ | (refine (heldL_own om (fun p hp => List.mem_append_right _ hp) 1 (by omega) (by have := (show ssTot (x.tL r k) ≤ 1048576 by omega); simp; omega)).mono ?_; rintro v h' ⟨rfl, rfl⟩; refine gK.go ?_)
      simp -implicitDefEqProofs [c0, hq]
      exact Post.none ⟨rfl, rfl⟩
    · have hAr : ((1048576 : Int) - x.ts.length) < (ssTot r) := by omega
      simp -implicitDefEqProofs [hx2_x, hx2_r, hAx, hBx, hCx, hDx, kx, hAr]
      exact .base ⟨rfl, rfl⟩
  · have hAx : (1048576 : Int) < x.ts.length := by omega
    simp -implicitDefEqProofs [hx2_x, hx2_r, hAx]
    exact .base ⟨rfl, rfl⟩
end Go.AG
namespace Go.Proofs.Ytlncpnefkpfojaa
open Go.ChangeShapes Go.WideShapes Go.ChangeAt Go.RowKit Go.AG
theorem own : ownKnob Try.prog.godebug = none := by kernel_rfl
theorem laidOut : laidOutB Try.prog = true := by kernel_rfl
set_option maxRecDepth 100000 in
theorem fnExactTurnRounds_lifted (os : Os) (started : os.Started) (H : Type) (enc : TypeId × Value → H) :
    ReturnsInHanded {} Try.checked os 11 .any (Rows.fnExactTurnRoundsSpec.pre6 enc Try.prog Try.f11 Rows.fnExactTurnRoundsRow.domain false) (Rows.fnExactTurnRoundsSpec.post enc Try.prog Try.f11 false true false false) := by
  refine returnsInHanded_of_change (C := Try.checked) own started (by kernel_rfl) Try.func11
    (ChangeSpec.witness6 (enc := enc) (C := Try.checked) false ⟨#[], #[.agg #[.int .i64 0, .slice none 0 0], .slice none 0 0, .int .i64 0], []⟩ 8 (by kernel_rfl) (by kernel_rfl) (by kernel_rfl) (by kernel_rfl)) ?_
  intro W base args ds gs before hval0 hW _ _
  have hval : ∀ (j : Nat) t v, Try.f11.params[j]? = some t → args[j]? = some v → Value.okWide Try.prog W .any base t v := hval0
  refine law_post (tys := [tyG, tySS, (.int .i64)]) (tb := 4) laidOut rfl (by kernel_rfl) (by kernel_rfl) (by kernel_rfl) (by kernel_rfl) hval hW ?_ ?_
  · intro ds h
    match ds, h with
    | [a0, a1, a2], _ => rfl
  · rintro xs ⟨x0, r0, rfl, h0, x1, r1, rfl, h1, x2, r2, rfl, h2, hr⟩
    have hr0 : r2 = [] := hr
    subst hr0
    obtain ⟨p0, rfl, q0⟩ := Gr_of_shape h0
    obtain ⟨p1, rfl, q1⟩ := Lists_of_shape h1
    obtain ⟨p2, rfl, q2⟩ := Int_of_shape h2
    exact tr_law p0 q0 p1 q1 p2 q2
theorem fnExactTurnRounds_holds : Rows.FnExactTurnRoundsSaid :=
  OpenClaim.holds_of_wide 11 Try.f11 rfl rfl rfl rfl rfl rfl rfl ⟨rfl, rfl, rfl, rfl, rfl⟩ rfl rfl rfl rfl rfl (by kernel_rfl) Try.func11 (by kernel_rfl)
    (of_decide_eq_true (by kernel_rfl)) (by unfold Func.isWrapper; first | (rw [if_pos (by decide +kernel)]; kernel_rfl) | (rw [if_neg (by decide +kernel)]; exact ⟨rfl, rfl⟩))
    (fun os started H enc _ => fnExactTurnRounds_lifted os started H enc)
end Go.Proofs.Ytlncpnefkpfojaa
