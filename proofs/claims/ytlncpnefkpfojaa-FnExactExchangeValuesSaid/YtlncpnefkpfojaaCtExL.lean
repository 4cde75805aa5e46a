/- The law FnExactExchangeValues is true for every input: the program's ExchangeValues returns what the reference's returns. -/
import Derived.Test.YtlncpnefkpfojaaCtEx
import Derived.Test.YtlncpnefkpfojaaGrM
namespace Go.AG
open Go.Proofs Go.Proofs.Ytlncpnefkpfojaa
set_option linter.unusedSimpArgs false
set_option linter.unusedVariables false
set_option maxRecDepth 4000
noncomputable def orcM : List (Nat × (List AV → Option (Prop × AV))) := (15, o_szGraph) :: (28, o_szInt64SS) :: []
theorem orcM_p : Pure Try.prog (lk orcM) := (lk_pure o_szGraph_k (lk_pure o_szInt64SS_k lk_pure0))
@[simp] theorem orcM_l (g : FuncId) (l : List AV) : lk orcM g l = if g = 15 then o_szGraph l else if g = 28 then o_szInt64SS l else none := nr rfl
abbrev c_laws_FnExactExchangeValues_o0 : List AJ := [.o ⟨(some 4), none, false, .box false 2 (.t 0), none⟩, .o ⟨(some 8), none, false, .mv (.c (.bool false)), (some [1, 2, 3, 4])⟩]
def c_laws_FnExactExchangeValues_0 : ACode := .region c_laws_FnExactExchangeValues_o0
abbrev c_laws_FnExactExchangeValues_o1 : List AJ := [.o ⟨(some 22), none, false, .mv (.t 2), none⟩, .o ⟨(some 23), none, false, .len (.t 22), none⟩, .o ⟨(some 24), none, false, .bin .gtr (.t 23) (.c (.int .i64 1048576)), (some [1, 2, 3, 4, 24])⟩]
def c_laws_FnExactExchangeValues_1 : ACode := .region c_laws_FnExactExchangeValues_o1
abbrev c_laws_FnExactExchangeValues_o2 : List AJ := [.o ⟨(some 8), none, false, .mv (.c (.bool true)), (some [8])⟩]
def c_laws_FnExactExchangeValues_2 : ACode := .region c_laws_FnExactExchangeValues_o2
def c_laws_FnExactExchangeValues_3 : ACode := .seq c_laws_FnExactExchangeValues_2 .ret
def c_laws_FnExactExchangeValues_4 : ACode := .cond (.t 24) c_laws_FnExactExchangeValues_3 .skip
def c_laws_FnExactExchangeValues_5 : ACode := .seq c_laws_FnExactExchangeValues_1 c_laws_FnExactExchangeValues_4
abbrev c_laws_FnExactExchangeValues_o3 : List AJ := [.o ⟨(some 9), none, false, .mv (.c (.int .i64 1048576)), (some [1, 2, 3, 4, 9])⟩]
def c_laws_FnExactExchangeValues_6 : ACode := .region c_laws_FnExactExchangeValues_o3
abbrev c_laws_FnExactExchangeValues_o4 : List AJ := [.o ⟨(some 25), none, false, .load 2 true (.t 4), none⟩, .o ⟨(some 26), none, false, .mv (.t 9), none⟩, .o ⟨(some 27), none, false, .call 15 [(.t 25), (.t 26)], none⟩, .o ⟨(some 9), none, false, .mv (.t 27), (some [1, 2, 3, 4, 9])⟩]
def c_laws_FnExactExchangeValues_7 : ACode := .region c_laws_FnExactExchangeValues_o4
abbrev c_laws_FnExactExchangeValues_o5 : List AJ := [.o ⟨(some 28), none, false, .mv (.t 9), none⟩, .o ⟨(some 29), none, false, .bin .lss (.t 28) (.c (.int .i64 0)), (some [1, 2, 3, 4, 9, 29])⟩]
def c_laws_FnExactExchangeValues_8 : ACode := .region c_laws_FnExactExchangeValues_o5
abbrev c_laws_FnExactExchangeValues_o6 : List AJ := [.o ⟨(some 8), none, false, .mv (.c (.bool true)), (some [8])⟩]
def c_laws_FnExactExchangeValues_9 : ACode := .region c_laws_FnExactExchangeValues_o6
def c_laws_FnExactExchangeValues_10 : ACode := .seq c_laws_FnExactExchangeValues_9 .ret
def c_laws_FnExactExchangeValues_11 : ACode := .cond (.t 29) c_laws_FnExactExchangeValues_10 .skip
def c_laws_FnExactExchangeValues_12 : ACode := .seq c_laws_FnExactExchangeValues_8 c_laws_FnExactExchangeValues_11
abbrev c_laws_FnExactExchangeValues_o7 : List AJ := [.o ⟨(some 30), none, false, .mv (.t 1), none⟩, .o ⟨(some 31), none, false, .mv (.t 9), none⟩, .o ⟨(some 32), none, false, .call 28 [(.t 30), (.t 31)], none⟩, .o ⟨(some 9), none, false, .mv (.t 32), (some [1, 2, 3, 4, 9])⟩]
def c_laws_FnExactExchangeValues_13 : ACode := .region c_laws_FnExactExchangeValues_o7
abbrev c_laws_FnExactExchangeValues_o8 : List AJ := [.o ⟨(some 33), none, false, .mv (.t 9), none⟩, .o ⟨(some 34), none, false, .bin .lss (.t 33) (.c (.int .i64 0)), (some [1, 2, 3, 4, 34])⟩]
def c_laws_FnExactExchangeValues_14 : ACode := .region c_laws_FnExactExchangeValues_o8
abbrev c_laws_FnExactExchangeValues_o9 : List AJ := [.o ⟨(some 8), none, false, .mv (.c (.bool true)), (some [8])⟩]
def c_laws_FnExactExchangeValues_15 : ACode := .region c_laws_FnExactExchangeValues_o9
def c_laws_FnExactExchangeValues_16 : ACode := .seq c_laws_FnExactExchangeValues_15 .ret
def c_laws_FnExactExchangeValues_17 : ACode := .cond (.t 34) c_laws_FnExactExchangeValues_16 .skip
def c_laws_FnExactExchangeValues_18 : ACode := .seq c_laws_FnExactExchangeValues_14 c_laws_FnExactExchangeValues_17
abbrev c_laws_FnExactExchangeValues_o10 : List AJ := [.o ⟨(some 36), none, false, .load 2 true (.t 4), none⟩, .o ⟨(some 37), none, false, .call 17 [(.t 36)], none⟩, .o ⟨(some 38), none, false, .mv (.t 1), none⟩, .o ⟨(some 39), none, false, .call 30 [(.t 38)], none⟩, .o ⟨(some 40), none, false, .mv (.t 2), none⟩, .o ⟨(some 41), none, false, .call 42 [(.t 40)], none⟩, .o ⟨(some 42), none, false, .mv (.t 3), none⟩, .o ⟨(some 43), none, false, .call 41 [(.t 37), (.t 39), (.t 41), (.t 42)], none⟩, .o ⟨(some 35), none, false, .mv (.t 43), none⟩, .o ⟨(some 44), none, false, .extract (.t 35) 0, none⟩, .o ⟨(some 45), none, false, .extract (.t 35) 1, none⟩, .o ⟨(some 10), none, false, .mv (.t 44), none⟩, .o ⟨(some 11), none, false, .mv (.t 45), (some [1, 2, 3, 4, 10, 11])⟩]
def c_laws_FnExactExchangeValues_19 : ACode := .region c_laws_FnExactExchangeValues_o10
abbrev c_laws_FnExactExchangeValues_o11 : List AJ := [.o ⟨(some 46), none, false, .load 2 true (.t 4), none⟩, .o ⟨(some 47), none, false, .call 17 [(.t 46)], none⟩, .v 12 2 (.agg [(.int .i64 0), .nilsl]) [] (.t 47) (some [1, 2, 3, 4, 10, 11, 12])]
def c_laws_FnExactExchangeValues_20 : ACode := .region c_laws_FnExactExchangeValues_o11
abbrev c_laws_FnExactExchangeValues_o12 : List AJ := [.o ⟨(some 48), none, false, .mv (.t 1), none⟩, .o ⟨(some 49), none, false, .call 30 [(.t 48)], none⟩, .o ⟨(some 13), none, false, .mv (.t 49), (some [1, 2, 3, 4, 10, 11, 12, 13])⟩]
def c_laws_FnExactExchangeValues_21 : ACode := .region c_laws_FnExactExchangeValues_o12
abbrev c_laws_FnExactExchangeValues_o13 : List AJ := [.o ⟨(some 50), none, false, .mv (.t 2), none⟩, .o ⟨(some 51), none, false, .call 42 [(.t 50)], none⟩, .o ⟨(some 14), none, false, .mv (.t 51), (some [1, 2, 3, 4, 10, 11, 12, 13, 14])⟩]
def c_laws_FnExactExchangeValues_22 : ACode := .region c_laws_FnExactExchangeValues_o13
abbrev c_laws_FnExactExchangeValues_o14 : List AJ := [.o ⟨(some 53), none, false, .load 2 true (.t 12), none⟩, .o ⟨(some 54), none, false, .mv (.t 13), none⟩, .o ⟨(some 55), none, false, .mv (.t 14), none⟩, .o ⟨(some 56), none, false, .mv (.t 3), none⟩, .o ⟨(some 57), none, false, .call 43 [(.t 53), (.t 54), (.t 55), (.t 56)], none⟩, .o ⟨(some 52), none, false, .mv (.t 57), none⟩, .o ⟨(some 58), none, false, .extract (.t 52) 0, none⟩, .o ⟨(some 59), none, false, .extract (.t 52) 1, none⟩, .o ⟨(some 15), none, false, .mv (.t 58), none⟩, .o ⟨(some 16), none, false, .mv (.t 59), (some [1, 2, 3, 4, 10, 11, 12, 13, 14, 15, 16])⟩]
def c_laws_FnExactExchangeValues_23 : ACode := .region c_laws_FnExactExchangeValues_o14
abbrev c_laws_FnExactExchangeValues_o15 : List AJ := [.o ⟨(some 60), none, false, .mv (.t 15), none⟩, .o ⟨(some 61), none, false, .mv (.t 10), none⟩, .o ⟨(some 62), none, false, .call 36 [(.t 60), (.t 61)], none⟩, .o ⟨(some 63), none, false, .un .not (.t 62), none⟩, .o ⟨(some 64), none, false, .mv (.t 63), none⟩, .o ⟨(some 65), (some (64, false)), false, .mv (.t 16), none⟩, .o ⟨(some 66), (some (64, false)), false, .mv (.t 11), none⟩, .o ⟨(some 67), (some (64, false)), false, .bin .neq (.t 65) (.t 66), none⟩, .o ⟨(some 68), none, false, .pick (.t 64) (.c (.bool true)) (.t 67), (some [1, 2, 3, 4, 10, 11, 12, 13, 14, 15, 16, 68])⟩]
def c_laws_FnExactExchangeValues_24 : ACode := .region c_laws_FnExactExchangeValues_o15
abbrev c_laws_FnExactExchangeValues_o16 : List AJ := [.o ⟨(some 8), none, false, .mv (.c (.bool false)), (some [8])⟩]
def c_laws_FnExactExchangeValues_25 : ACode := .region c_laws_FnExactExchangeValues_o16
def c_laws_FnExactExchangeValues_26 : ACode := .seq c_laws_FnExactExchangeValues_25 .ret
def c_laws_FnExactExchangeValues_27 : ACode := .cond (.t 68) c_laws_FnExactExchangeValues_26 .skip
def c_laws_FnExactExchangeValues_28 : ACode := .seq c_laws_FnExactExchangeValues_24 c_laws_FnExactExchangeValues_27
abbrev c_laws_FnExactExchangeValues_o17 : List AI := [⟨(some 69), none, false, .load 2 true (.t 12), none⟩, ⟨(some 70), none, false, .load 2 true (.t 4), none⟩, ⟨(some 71), none, false, .call 17 [(.t 70)], none⟩, ⟨(some 72), none, false, .call 19 [(.t 69), (.t 71)], none⟩, ⟨(some 73), none, false, .un .not (.t 72), (some [1, 2, 3, 4, 10, 11, 12, 13, 14, 15, 16, 73])⟩]
def c_laws_FnExactExchangeValues_29 : ACode := .draw c_laws_FnExactExchangeValues_o17 [] rfl
abbrev c_laws_FnExactExchangeValues_o18 : List AJ := [.o ⟨(some 8), none, false, .mv (.c (.bool false)), (some [8])⟩]
def c_laws_FnExactExchangeValues_30 : ACode := .region c_laws_FnExactExchangeValues_o18
def c_laws_FnExactExchangeValues_31 : ACode := .seq c_laws_FnExactExchangeValues_30 .ret
def c_laws_FnExactExchangeValues_32 : ACode := .cond (.t 73) c_laws_FnExactExchangeValues_31 .skip
def c_laws_FnExactExchangeValues_33 : ACode := .seq c_laws_FnExactExchangeValues_29 c_laws_FnExactExchangeValues_32
abbrev c_laws_FnExactExchangeValues_o19 : List AJ := [.o ⟨(some 74), none, false, .mv (.t 13), none⟩, .o ⟨(some 75), none, false, .mv (.t 1), none⟩, .o ⟨(some 76), none, false, .call 30 [(.t 75)], none⟩, .o ⟨(some 77), none, false, .call 22 [(.t 74), (.t 76)], none⟩, .o ⟨(some 78), none, false, .un .not (.t 77), (some [1, 2, 3, 4, 10, 11, 12, 13, 14, 15, 16, 78])⟩]
def c_laws_FnExactExchangeValues_34 : ACode := .region c_laws_FnExactExchangeValues_o19
abbrev c_laws_FnExactExchangeValues_o20 : List AJ := [.o ⟨(some 8), none, false, .mv (.c (.bool false)), (some [8])⟩]
def c_laws_FnExactExchangeValues_35 : ACode := .region c_laws_FnExactExchangeValues_o20
def c_laws_FnExactExchangeValues_36 : ACode := .seq c_laws_FnExactExchangeValues_35 .ret
def c_laws_FnExactExchangeValues_37 : ACode := .cond (.t 78) c_laws_FnExactExchangeValues_36 .skip
def c_laws_FnExactExchangeValues_38 : ACode := .seq c_laws_FnExactExchangeValues_34 c_laws_FnExactExchangeValues_37
abbrev c_laws_FnExactExchangeValues_o21 : List AJ := [.o ⟨(some 79), none, false, .mv (.t 14), none⟩, .o ⟨(some 80), none, false, .mv (.t 2), none⟩, .o ⟨(some 81), none, false, .call 42 [(.t 80)], none⟩, .o ⟨(some 82), none, false, .call 36 [(.t 79), (.t 81)], none⟩, .o ⟨(some 83), none, false, .un .not (.t 82), (some [1, 2, 3, 4, 10, 11, 12, 13, 14, 15, 16, 83])⟩]
def c_laws_FnExactExchangeValues_39 : ACode := .region c_laws_FnExactExchangeValues_o21
abbrev c_laws_FnExactExchangeValues_o22 : List AJ := [.o ⟨(some 8), none, false, .mv (.c (.bool false)), (some [8])⟩]
def c_laws_FnExactExchangeValues_40 : ACode := .region c_laws_FnExactExchangeValues_o22
def c_laws_FnExactExchangeValues_41 : ACode := .seq c_laws_FnExactExchangeValues_40 .ret
def c_laws_FnExactExchangeValues_42 : ACode := .cond (.t 83) c_laws_FnExactExchangeValues_41 .skip
def c_laws_FnExactExchangeValues_43 : ACode := .seq c_laws_FnExactExchangeValues_39 c_laws_FnExactExchangeValues_42
abbrev c_laws_FnExactExchangeValues_o23 : List AJ := [.o ⟨(some 17), none, false, .mv (.c (.int .i64 1)), (some [1, 2, 3, 4, 10, 11, 12, 13, 14, 15, 16, 17])⟩]
def c_laws_FnExactExchangeValues_44 : ACode := .region c_laws_FnExactExchangeValues_o23
abbrev c_laws_FnExactExchangeValues_o24 : List AJ := [.o ⟨(some 84), none, false, .load 2 true (.t 12), none⟩, .o ⟨(some 85), none, false, .mv (.t 17), none⟩, .o ⟨(some 86), none, false, .call 23 [(.t 84), (.t 85)], none⟩, .o ⟨(some 17), none, false, .mv (.t 86), (some [1, 2, 3, 4, 10, 11, 13, 14, 15, 16, 17])⟩]
def c_laws_FnExactExchangeValues_45 : ACode := .region c_laws_FnExactExchangeValues_o24
abbrev c_laws_FnExactExchangeValues_o25 : List AJ := [.o ⟨(some 87), none, false, .mv (.t 13), none⟩, .o ⟨(some 88), none, false, .mv (.t 17), none⟩, .o ⟨(some 89), none, false, .call 24 [(.t 87), (.t 88)], none⟩, .o ⟨(some 17), none, false, .mv (.t 89), (some [1, 2, 3, 4, 10, 11, 14, 15, 16, 17])⟩]
def c_laws_FnExactExchangeValues_46 : ACode := .region c_laws_FnExactExchangeValues_o25
abbrev c_laws_FnExactExchangeValues_o26 : List AJ := [.o ⟨(some 90), none, false, .mv (.t 14), none⟩, .o ⟨(some 91), none, false, .mv (.t 17), none⟩, .o ⟨(some 92), none, false, .call 37 [(.t 90), (.t 91)], none⟩, .o ⟨(some 17), none, false, .mv (.t 92), (some [1, 2, 3, 4, 10, 11, 15, 16, 17])⟩]
def c_laws_FnExactExchangeValues_47 : ACode := .region c_laws_FnExactExchangeValues_o26
abbrev c_laws_FnExactExchangeValues_o27 : List AJ := [.o ⟨(some 93), none, false, .mv (.t 17), none⟩, .o ⟨(some 94), none, false, .bin .lss (.t 93) (.c (.int .i64 0)), none⟩, .o ⟨(some 95), none, false, .mv (.t 94), none⟩, .o ⟨(some 96), (some (95, false)), false, .mv (.t 15), none⟩, .o ⟨(some 97), (some (95, false)), false, .mv (.t 10), none⟩, .o ⟨(some 98), (some (95, false)), false, .call 36 [(.t 96), (.t 97)], none⟩, .o ⟨(some 99), (some (95, false)), false, .un .not (.t 98), none⟩, .o ⟨(some 100), none, false, .pick (.t 95) (.c (.bool true)) (.t 99), none⟩, .o ⟨(some 101), none, false, .mv (.t 100), none⟩, .o ⟨(some 102), (some (101, false)), false, .mv (.t 16), (some [1, 2, 3, 4, 10, 11, 15, 101, 102])⟩, .o ⟨(some 103), (some (101, false)), false, .mv (.t 11), none⟩, .o ⟨(some 104), (some (101, false)), false, .bin .neq (.t 102) (.t 103), none⟩, .o ⟨(some 105), none, false, .pick (.t 101) (.c (.bool true)) (.t 104), (some [1, 2, 3, 4, 10, 11, 15, 105])⟩]
def c_laws_FnExactExchangeValues_48 : ACode := .region c_laws_FnExactExchangeValues_o27
abbrev c_laws_FnExactExchangeValues_o28 : List AJ := [.o ⟨(some 8), none, false, .mv (.c (.bool false)), (some [8])⟩]
def c_laws_FnExactExchangeValues_49 : ACode := .region c_laws_FnExactExchangeValues_o28
def c_laws_FnExactExchangeValues_50 : ACode := .seq c_laws_FnExactExchangeValues_49 .ret
def c_laws_FnExactExchangeValues_51 : ACode := .cond (.t 105) c_laws_FnExactExchangeValues_50 .skip
def c_laws_FnExactExchangeValues_52 : ACode := .seq c_laws_FnExactExchangeValues_48 c_laws_FnExactExchangeValues_51
abbrev c_laws_FnExactExchangeValues_o29 : List AJ := [.o ⟨(some 18), none, false, .mv (.c (.int .i64 1)), (some [1, 2, 3, 4, 10, 11, 15, 18])⟩]
def c_laws_FnExactExchangeValues_53 : ACode := .region c_laws_FnExactExchangeValues_o29
abbrev c_laws_FnExactExchangeValues_o30 : List AJ := [.o ⟨(some 106), none, false, .mv (.t 15), none⟩, .o ⟨(some 107), none, false, .mv (.t 18), none⟩, .o ⟨(some 108), none, false, .call 37 [(.t 106), (.t 107)], none⟩, .o ⟨(some 18), none, false, .mv (.t 108), (some [1, 2, 3, 4, 10, 11, 15, 18])⟩]
def c_laws_FnExactExchangeValues_54 : ACode := .region c_laws_FnExactExchangeValues_o30
abbrev c_laws_FnExactExchangeValues_o31 : List AJ := [.o ⟨(some 19), none, false, .mv (.c (.int .i64 1)), (some [1, 2, 3, 4, 10, 11, 15, 18, 19])⟩]
def c_laws_FnExactExchangeValues_55 : ACode := .region c_laws_FnExactExchangeValues_o31
abbrev c_laws_FnExactExchangeValues_o32 : List AJ := [.o ⟨(some 109), none, false, .mv (.t 15), none⟩, .o ⟨(some 110), none, false, .mv (.t 19), none⟩, .o ⟨(some 111), none, false, .call 38 [(.t 109), (.t 110)], none⟩, .o ⟨(some 19), none, false, .mv (.t 111), (some [1, 2, 3, 4, 10, 11, 15, 18, 19])⟩]
def c_laws_FnExactExchangeValues_56 : ACode := .region c_laws_FnExactExchangeValues_o32
abbrev c_laws_FnExactExchangeValues_o33 : List AJ := [.o ⟨(some 112), none, false, .mv (.t 19), none⟩, .o ⟨(some 113), none, false, .bin .lss (.t 112) (.c (.int .i64 0)), (some [1, 2, 3, 4, 10, 11, 15, 18, 19, 113])⟩]
def c_laws_FnExactExchangeValues_57 : ACode := .region c_laws_FnExactExchangeValues_o33
abbrev c_laws_FnExactExchangeValues_o34 : List AJ := [.o ⟨(some 8), none, false, .mv (.c (.bool false)), (some [8])⟩]
def c_laws_FnExactExchangeValues_58 : ACode := .region c_laws_FnExactExchangeValues_o34
def c_laws_FnExactExchangeValues_59 : ACode := .seq c_laws_FnExactExchangeValues_58 .ret
def c_laws_FnExactExchangeValues_60 : ACode := .cond (.t 113) c_laws_FnExactExchangeValues_59 .skip
def c_laws_FnExactExchangeValues_61 : ACode := .seq c_laws_FnExactExchangeValues_57 c_laws_FnExactExchangeValues_60
abbrev c_laws_FnExactExchangeValues_o35 : List AJ := [.o ⟨(some 114), none, false, .mv (.t 19), none⟩, .o ⟨(some 115), none, false, .mv (.t 18), none⟩, .o ⟨(some 116), none, false, .bin .neq (.t 114) (.t 115), (some [1, 2, 3, 4, 10, 11, 15, 18, 116])⟩]
def c_laws_FnExactExchangeValues_62 : ACode := .region c_laws_FnExactExchangeValues_o35
abbrev c_laws_FnExactExchangeValues_o36 : List AJ := [.o ⟨(some 8), none, false, .mv (.c (.bool false)), (some [8])⟩]
def c_laws_FnExactExchangeValues_63 : ACode := .region c_laws_FnExactExchangeValues_o36
def c_laws_FnExactExchangeValues_64 : ACode := .seq c_laws_FnExactExchangeValues_63 .ret
def c_laws_FnExactExchangeValues_65 : ACode := .cond (.t 116) c_laws_FnExactExchangeValues_64 .skip
def c_laws_FnExactExchangeValues_66 : ACode := .seq c_laws_FnExactExchangeValues_62 c_laws_FnExactExchangeValues_65
abbrev c_laws_FnExactExchangeValues_o37 : List AJ := [.o ⟨(some 118), none, false, .load 2 true (.t 4), none⟩, .o ⟨(some 119), none, false, .call 17 [(.t 118)], none⟩, .o ⟨(some 120), none, false, .mv (.t 1), none⟩, .o ⟨(some 121), none, false, .call 30 [(.t 120)], none⟩, .o ⟨(some 122), none, false, .mv (.t 2), none⟩, .o ⟨(some 123), none, false, .call 42 [(.t 122)], none⟩, .o ⟨(some 124), none, false, .mv (.t 3), none⟩, .o ⟨(some 125), none, false, .call 43 [(.t 119), (.t 121), (.t 123), (.t 124)], none⟩, .o ⟨(some 117), none, false, .mv (.t 125), none⟩, .o ⟨(some 126), none, false, .extract (.t 117) 0, none⟩, .o ⟨(some 127), none, false, .extract (.t 117) 1, none⟩, .o ⟨(some 20), none, false, .mv (.t 126), none⟩, .o ⟨(some 21), none, false, .mv (.t 127), (some [10, 11, 15, 18, 20, 21])⟩]
def c_laws_FnExactExchangeValues_67 : ACode := .region c_laws_FnExactExchangeValues_o37
abbrev c_laws_FnExactExchangeValues_o38 : List AJ := [.o ⟨(some 128), none, false, .mv (.t 20), none⟩, .o ⟨(some 129), none, false, .mv (.t 10), none⟩, .o ⟨(some 130), none, false, .call 36 [(.t 128), (.t 129)], none⟩, .o ⟨(some 131), none, false, .un .not (.t 130), none⟩, .o ⟨(some 132), none, false, .mv (.t 131), none⟩, .o ⟨(some 133), (some (132, false)), false, .mv (.t 21), none⟩, .o ⟨(some 134), (some (132, false)), false, .mv (.t 11), none⟩, .o ⟨(some 135), (some (132, false)), false, .bin .neq (.t 133) (.t 134), none⟩, .o ⟨(some 136), none, false, .pick (.t 132) (.c (.bool true)) (.t 135), (some [15, 18, 136])⟩]
def c_laws_FnExactExchangeValues_68 : ACode := .region c_laws_FnExactExchangeValues_o38
abbrev c_laws_FnExactExchangeValues_o39 : List AJ := [.o ⟨(some 8), none, false, .mv (.c (.bool false)), (some [8])⟩]
def c_laws_FnExactExchangeValues_69 : ACode := .region c_laws_FnExactExchangeValues_o39
def c_laws_FnExactExchangeValues_70 : ACode := .seq c_laws_FnExactExchangeValues_69 .ret
def c_laws_FnExactExchangeValues_71 : ACode := .cond (.t 136) c_laws_FnExactExchangeValues_70 .skip
def c_laws_FnExactExchangeValues_72 : ACode := .seq c_laws_FnExactExchangeValues_68 c_laws_FnExactExchangeValues_71
abbrev c_laws_FnExactExchangeValues_o40 : List AJ := [.o ⟨(some 19), none, false, .mv (.c (.int .i64 1)), (some [15, 18, 19])⟩]
def c_laws_FnExactExchangeValues_73 : ACode := .region c_laws_FnExactExchangeValues_o40
abbrev c_laws_FnExactExchangeValues_o41 : List AJ := [.o ⟨(some 137), none, false, .mv (.t 15), none⟩, .o ⟨(some 138), none, false, .mv (.t 19), none⟩, .o ⟨(some 139), none, false, .call 38 [(.t 137), (.t 138)], none⟩, .o ⟨(some 19), none, false, .mv (.t 139), (some [18, 19])⟩]
def c_laws_FnExactExchangeValues_74 : ACode := .region c_laws_FnExactExchangeValues_o41
abbrev c_laws_FnExactExchangeValues_o42 : List AJ := [.o ⟨(some 140), none, false, .mv (.t 19), none⟩, .o ⟨(some 141), none, false, .bin .lss (.t 140) (.c (.int .i64 0)), (some [18, 19, 141])⟩]
def c_laws_FnExactExchangeValues_75 : ACode := .region c_laws_FnExactExchangeValues_o42
abbrev c_laws_FnExactExchangeValues_o43 : List AJ := [.o ⟨(some 8), none, false, .mv (.c (.bool false)), (some [8])⟩]
def c_laws_FnExactExchangeValues_76 : ACode := .region c_laws_FnExactExchangeValues_o43
def c_laws_FnExactExchangeValues_77 : ACode := .seq c_laws_FnExactExchangeValues_76 .ret
def c_laws_FnExactExchangeValues_78 : ACode := .cond (.t 141) c_laws_FnExactExchangeValues_77 .skip
def c_laws_FnExactExchangeValues_79 : ACode := .seq c_laws_FnExactExchangeValues_75 c_laws_FnExactExchangeValues_78
abbrev c_laws_FnExactExchangeValues_o44 : List AJ := [.o ⟨(some 142), none, false, .mv (.t 19), none⟩, .o ⟨(some 143), none, false, .mv (.t 18), none⟩, .o ⟨(some 144), none, false, .bin .neq (.t 142) (.t 143), (some [144])⟩]
def c_laws_FnExactExchangeValues_80 : ACode := .region c_laws_FnExactExchangeValues_o44
abbrev c_laws_FnExactExchangeValues_o45 : List AJ := [.o ⟨(some 8), none, false, .mv (.c (.bool false)), (some [8])⟩]
def c_laws_FnExactExchangeValues_81 : ACode := .region c_laws_FnExactExchangeValues_o45
def c_laws_FnExactExchangeValues_82 : ACode := .seq c_laws_FnExactExchangeValues_81 .ret
def c_laws_FnExactExchangeValues_83 : ACode := .cond (.t 144) c_laws_FnExactExchangeValues_82 .skip
def c_laws_FnExactExchangeValues_84 : ACode := .seq c_laws_FnExactExchangeValues_80 c_laws_FnExactExchangeValues_83
abbrev c_laws_FnExactExchangeValues_o46 : List AJ := [.o ⟨(some 8), none, false, .mv (.c (.bool true)), (some [8])⟩]
def c_laws_FnExactExchangeValues_85 : ACode := .region c_laws_FnExactExchangeValues_o46
def c_laws_FnExactExchangeValues_86 : ACode := .seq c_laws_FnExactExchangeValues_85 .ret
def c_laws_FnExactExchangeValues_87 : ACode := .seq c_laws_FnExactExchangeValues_84 c_laws_FnExactExchangeValues_86
def c_laws_FnExactExchangeValues_88 : ACode := .seq c_laws_FnExactExchangeValues_79 c_laws_FnExactExchangeValues_87
def c_laws_FnExactExchangeValues_89 : ACode := .seq c_laws_FnExactExchangeValues_74 c_laws_FnExactExchangeValues_88
def c_laws_FnExactExchangeValues_90 : ACode := .seq c_laws_FnExactExchangeValues_73 c_laws_FnExactExchangeValues_89
def c_laws_FnExactExchangeValues_91 : ACode := .seq c_laws_FnExactExchangeValues_72 c_laws_FnExactExchangeValues_90
def c_laws_FnExactExchangeValues_92 : ACode := .seq c_laws_FnExactExchangeValues_67 c_laws_FnExactExchangeValues_91
def c_laws_FnExactExchangeValues_93 : ACode := .seq c_laws_FnExactExchangeValues_66 c_laws_FnExactExchangeValues_92
def c_laws_FnExactExchangeValues_94 : ACode := .seq c_laws_FnExactExchangeValues_61 c_laws_FnExactExchangeValues_93
def c_laws_FnExactExchangeValues_95 : ACode := .seq c_laws_FnExactExchangeValues_56 c_laws_FnExactExchangeValues_94
def c_laws_FnExactExchangeValues_96 : ACode := .seq c_laws_FnExactExchangeValues_55 c_laws_FnExactExchangeValues_95
def c_laws_FnExactExchangeValues_97 : ACode := .seq c_laws_FnExactExchangeValues_54 c_laws_FnExactExchangeValues_96
def c_laws_FnExactExchangeValues_98 : ACode := .seq c_laws_FnExactExchangeValues_53 c_laws_FnExactExchangeValues_97
def c_laws_FnExactExchangeValues_99 : ACode := .seq c_laws_FnExactExchangeValues_52 c_laws_FnExactExchangeValues_98
def c_laws_FnExactExchangeValues_100 : ACode := .seq c_laws_FnExactExchangeValues_47 c_laws_FnExactExchangeValues_99
def c_laws_FnExactExchangeValues_101 : ACode := .seq c_laws_FnExactExchangeValues_46 c_laws_FnExactExchangeValues_100
def c_laws_FnExactExchangeValues_102 : ACode := .seq c_laws_FnExactExchangeValues_45 c_laws_FnExactExchangeValues_101
def c_laws_FnExactExchangeValues_103 : ACode := .seq c_laws_FnExactExchangeValues_44 c_laws_FnExactExchangeValues_102
def c_laws_FnExactExchangeValues_104 : ACode := .seq c_laws_FnExactExchangeValues_43 c_laws_FnExactExchangeValues_103
def c_laws_FnExactExchangeValues_105 : ACode := .seq c_laws_FnExactExchangeValues_38 c_laws_FnExactExchangeValues_104
def c_laws_FnExactExchangeValues_106 : ACode := .seq c_laws_FnExactExchangeValues_33 c_laws_FnExactExchangeValues_105
def c_laws_FnExactExchangeValues_107 : ACode := .seq c_laws_FnExactExchangeValues_28 c_laws_FnExactExchangeValues_106
def c_laws_FnExactExchangeValues_108 : ACode := .seq c_laws_FnExactExchangeValues_23 c_laws_FnExactExchangeValues_107
def c_laws_FnExactExchangeValues_109 : ACode := .seq c_laws_FnExactExchangeValues_22 c_laws_FnExactExchangeValues_108
def c_laws_FnExactExchangeValues_110 : ACode := .seq c_laws_FnExactExchangeValues_21 c_laws_FnExactExchangeValues_109
def c_laws_FnExactExchangeValues_111 : ACode := .seq c_laws_FnExactExchangeValues_20 c_laws_FnExactExchangeValues_110
def c_laws_FnExactExchangeValues_112 : ACode := .seq c_laws_FnExactExchangeValues_19 c_laws_FnExactExchangeValues_111
def c_laws_FnExactExchangeValues_113 : ACode := .seq c_laws_FnExactExchangeValues_18 c_laws_FnExactExchangeValues_112
def c_laws_FnExactExchangeValues_114 : ACode := .seq c_laws_FnExactExchangeValues_13 c_laws_FnExactExchangeValues_113
def c_laws_FnExactExchangeValues_115 : ACode := .seq c_laws_FnExactExchangeValues_12 c_laws_FnExactExchangeValues_114
def c_laws_FnExactExchangeValues_116 : ACode := .seq c_laws_FnExactExchangeValues_7 c_laws_FnExactExchangeValues_115
def c_laws_FnExactExchangeValues_117 : ACode := .seq c_laws_FnExactExchangeValues_6 c_laws_FnExactExchangeValues_116
def c_laws_FnExactExchangeValues_118 : ACode := .seq c_laws_FnExactExchangeValues_5 c_laws_FnExactExchangeValues_117
def c_laws_FnExactExchangeValues_119 : ACode := .seq c_laws_FnExactExchangeValues_0 c_laws_FnExactExchangeValues_118
section
variable (C : Cx) (n : Nat) (sk : List AItem) (e : Env) (h : Heap) (R : AV → Heap → Prop)
@[simp, simp ↓] theorem c_laws_FnExactExchangeValues_0_r : vc2 C (n + 1) [] (.code c_laws_FnExactExchangeValues_0 :: sk) e h R = (vc2 C n c_laws_FnExactExchangeValues_o0 sk e h R) := nr rfl
@[simp, simp ↓] theorem c_laws_FnExactExchangeValues_1_r : vc2 C (n + 1) [] (.code c_laws_FnExactExchangeValues_1 :: sk) e h R = (vc2 C n c_laws_FnExactExchangeValues_o1 sk e h R) := nr rfl
@[simp, simp ↓] theorem c_laws_FnExactExchangeValues_2_r : vc2 C (n + 1) [] (.code c_laws_FnExactExchangeValues_2 :: sk) e h R = (vc2 C n c_laws_FnExactExchangeValues_o2 sk e h R) := nr rfl
@[simp, simp ↓] theorem c_laws_FnExactExchangeValues_3_r : vc2 C (n + 1) [] (.code c_laws_FnExactExchangeValues_3 :: sk) e h R = (vc2 C n [] (.code c_laws_FnExactExchangeValues_2 :: .code .ret :: sk) e h R) := nr rfl
@[simp, simp ↓] theorem c_laws_FnExactExchangeValues_4_r : vc2 C (n + 1) [] (.code c_laws_FnExactExchangeValues_4 :: sk) e h R = (condK (ev e (.t 24)) (vc2 C n [] (.code c_laws_FnExactExchangeValues_3 :: sk) e h R) (vc2 C n [] (.code .skip :: sk) e h R)) := nr rfl
@[simp, simp ↓] theorem c_laws_FnExactExchangeValues_5_r : vc2 C (n + 1) [] (.code c_laws_FnExactExchangeValues_5 :: sk) e h R = (vc2 C n [] (.code c_laws_FnExactExchangeValues_1 :: .code c_laws_FnExactExchangeValues_4 :: sk) e h R) := nr rfl
@[simp, simp ↓] theorem c_laws_FnExactExchangeValues_6_r : vc2 C (n + 1) [] (.code c_laws_FnExactExchangeValues_6 :: sk) e h R = (vc2 C n c_laws_FnExactExchangeValues_o3 sk e h R) := nr rfl
@[simp, simp ↓] theorem c_laws_FnExactExchangeValues_7_r : vc2 C (n + 1) [] (.code c_laws_FnExactExchangeValues_7 :: sk) e h R = (vc2 C n c_laws_FnExactExchangeValues_o4 sk e h R) := nr rfl
@[simp, simp ↓] theorem c_laws_FnExactExchangeValues_8_r : vc2 C (n + 1) [] (.code c_laws_FnExactExchangeValues_8 :: sk) e h R = (vc2 C n c_laws_FnExactExchangeValues_o5 sk e h R) := nr rfl
@[simp, simp ↓] theorem c_laws_FnExactExchangeValues_9_r : vc2 C (n + 1) [] (.code c_laws_FnExactExchangeValues_9 :: sk) e h R = (vc2 C n c_laws_FnExactExchangeValues_o6 sk e h R) := nr rfl
@[simp, simp ↓] theorem c_laws_FnExactExchangeValues_10_r : vc2 C (n + 1) [] (.code c_laws_FnExactExchangeValues_10 :: sk) e h R = (vc2 C n [] (.code c_laws_FnExactExchangeValues_9 :: .code .ret :: sk) e h R) := nr rfl
@[simp, simp ↓] theorem c_laws_FnExactExchangeValues_11_r : vc2 C (n + 1) [] (.code c_laws_FnExactExchangeValues_11 :: sk) e h R = (condK (ev e (.t 29)) (vc2 C n [] (.code c_laws_FnExactExchangeValues_10 :: sk) e h R) (vc2 C n [] (.code .skip :: sk) e h R)) := nr rfl
@[simp, simp ↓] theorem c_laws_FnExactExchangeValues_12_r : vc2 C (n + 1) [] (.code c_laws_FnExactExchangeValues_12 :: sk) e h R = (vc2 C n [] (.code c_laws_FnExactExchangeValues_8 :: .code c_laws_FnExactExchangeValues_11 :: sk) e h R) := nr rfl
@[simp, simp ↓] theorem c_laws_FnExactExchangeValues_13_r : vc2 C (n + 1) [] (.code c_laws_FnExactExchangeValues_13 :: sk) e h R = (vc2 C n c_laws_FnExactExchangeValues_o7 sk e h R) := nr rfl
@[simp, simp ↓] theorem c_laws_FnExactExchangeValues_14_r : vc2 C (n + 1) [] (.code c_laws_FnExactExchangeValues_14 :: sk) e h R = (vc2 C n c_laws_FnExactExchangeValues_o8 sk e h R) := nr rfl
@[simp, simp ↓] theorem c_laws_FnExactExchangeValues_15_r : vc2 C (n + 1) [] (.code c_laws_FnExactExchangeValues_15 :: sk) e h R = (vc2 C n c_laws_FnExactExchangeValues_o9 sk e h R) := nr rfl
@[simp, simp ↓] theorem c_laws_FnExactExchangeValues_16_r : vc2 C (n + 1) [] (.code c_laws_FnExactExchangeValues_16 :: sk) e h R = (vc2 C n [] (.code c_laws_FnExactExchangeValues_15 :: .code .ret :: sk) e h R) := nr rfl
@[simp, simp ↓] theorem c_laws_FnExactExchangeValues_17_r : vc2 C (n + 1) [] (.code c_laws_FnExactExchangeValues_17 :: sk) e h R = (condK (ev e (.t 34)) (vc2 C n [] (.code c_laws_FnExactExchangeValues_16 :: sk) e h R) (vc2 C n [] (.code .skip :: sk) e h R)) := nr rfl
@[simp, simp ↓] theorem c_laws_FnExactExchangeValues_18_r : vc2 C (n + 1) [] (.code c_laws_FnExactExchangeValues_18 :: sk) e h R = (vc2 C n [] (.code c_laws_FnExactExchangeValues_14 :: .code c_laws_FnExactExchangeValues_17 :: sk) e h R) := nr rfl
@[simp, simp ↓] theorem c_laws_FnExactExchangeValues_19_r : vc2 C (n + 1) [] (.code c_laws_FnExactExchangeValues_19 :: sk) e h R = (vc2 C n c_laws_FnExactExchangeValues_o10 sk e h R) := nr rfl
@[simp, simp ↓] theorem c_laws_FnExactExchangeValues_20_r : vc2 C (n + 1) [] (.code c_laws_FnExactExchangeValues_20 :: sk) e h R = (vc2 C n c_laws_FnExactExchangeValues_o11 sk e h R) := nr rfl
@[simp, simp ↓] theorem c_laws_FnExactExchangeValues_21_r : vc2 C (n + 1) [] (.code c_laws_FnExactExchangeValues_21 :: sk) e h R = (vc2 C n c_laws_FnExactExchangeValues_o12 sk e h R) := nr rfl
@[simp, simp ↓] theorem c_laws_FnExactExchangeValues_22_r : vc2 C (n + 1) [] (.code c_laws_FnExactExchangeValues_22 :: sk) e h R = (vc2 C n c_laws_FnExactExchangeValues_o13 sk e h R) := nr rfl
@[simp, simp ↓] theorem c_laws_FnExactExchangeValues_23_r : vc2 C (n + 1) [] (.code c_laws_FnExactExchangeValues_23 :: sk) e h R = (vc2 C n c_laws_FnExactExchangeValues_o14 sk e h R) := nr rfl
@[simp, simp ↓] theorem c_laws_FnExactExchangeValues_24_r : vc2 C (n + 1) [] (.code c_laws_FnExactExchangeValues_24 :: sk) e h R = (vc2 C n c_laws_FnExactExchangeValues_o15 sk e h R) := nr rfl
@[simp, simp ↓] theorem c_laws_FnExactExchangeValues_25_r : vc2 C (n + 1) [] (.code c_laws_FnExactExchangeValues_25 :: sk) e h R = (vc2 C n c_laws_FnExactExchangeValues_o16 sk e h R) := nr rfl
@[simp, simp ↓] theorem c_laws_FnExactExchangeValues_26_r : vc2 C (n + 1) [] (.code c_laws_FnExactExchangeValues_26 :: sk) e h R = (vc2 C n [] (.code c_laws_FnExactExchangeValues_25 :: .code .ret :: sk) e h R) := nr rfl
@[simp, simp ↓] theorem c_laws_FnExactExchangeValues_27_r : vc2 C (n + 1) [] (.code c_laws_FnExactExchangeValues_27 :: sk) e h R = (condK (ev e (.t 68)) (vc2 C n [] (.code c_laws_FnExactExchangeValues_26 :: sk) e h R) (vc2 C n [] (.code .skip :: sk) e h R)) := nr rfl
@[simp, simp ↓] theorem c_laws_FnExactExchangeValues_28_r : vc2 C (n + 1) [] (.code c_laws_FnExactExchangeValues_28 :: sk) e h R = (vc2 C n [] (.code c_laws_FnExactExchangeValues_24 :: .code c_laws_FnExactExchangeValues_27 :: sk) e h R) := nr rfl
@[simp, simp ↓] theorem c_laws_FnExactExchangeValues_29_r : vc2 C (n + 1) [] (.code c_laws_FnExactExchangeValues_29 :: sk) e h R = (draw2 C h (vK C n [] sk R h) c_laws_FnExactExchangeValues_o17 e) := nr rfl
@[simp, simp ↓] theorem c_laws_FnExactExchangeValues_30_r : vc2 C (n + 1) [] (.code c_laws_FnExactExchangeValues_30 :: sk) e h R = (vc2 C n c_laws_FnExactExchangeValues_o18 sk e h R) := nr rfl
@[simp, simp ↓] theorem c_laws_FnExactExchangeValues_31_r : vc2 C (n + 1) [] (.code c_laws_FnExactExchangeValues_31 :: sk) e h R = (vc2 C n [] (.code c_laws_FnExactExchangeValues_30 :: .code .ret :: sk) e h R) := nr rfl
@[simp, simp ↓] theorem c_laws_FnExactExchangeValues_32_r : vc2 C (n + 1) [] (.code c_laws_FnExactExchangeValues_32 :: sk) e h R = (condK (ev e (.t 73)) (vc2 C n [] (.code c_laws_FnExactExchangeValues_31 :: sk) e h R) (vc2 C n [] (.code .skip :: sk) e h R)) := nr rfl
@[simp, simp ↓] theorem c_laws_FnExactExchangeValues_33_r : vc2 C (n + 1) [] (.code c_laws_FnExactExchangeValues_33 :: sk) e h R = (vc2 C n [] (.code c_laws_FnExactExchangeValues_29 :: .code c_laws_FnExactExchangeValues_32 :: sk) e h R) := nr rfl
@[simp, simp ↓] theorem c_laws_FnExactExchangeValues_34_r : vc2 C (n + 1) [] (.code c_laws_FnExactExchangeValues_34 :: sk) e h R = (vc2 C n c_laws_FnExactExchangeValues_o19 sk e h R) := nr rfl
@[simp, simp ↓] theorem c_laws_FnExactExchangeValues_35_r : vc2 C (n + 1) [] (.code c_laws_FnExactExchangeValues_35 :: sk) e h R = (vc2 C n c_laws_FnExactExchangeValues_o20 sk e h R) := nr rfl
@[simp, simp ↓] theorem c_laws_FnExactExchangeValues_36_r : vc2 C (n + 1) [] (.code c_laws_FnExactExchangeValues_36 :: sk) e h R = (vc2 C n [] (.code c_laws_FnExactExchangeValues_35 :: .code .ret :: sk) e h R) := nr rfl
@[simp, simp ↓] theorem c_laws_FnExactExchangeValues_37_r : vc2 C (n + 1) [] (.code c_laws_FnExactExchangeValues_37 :: sk) e h R = (condK (ev e (.t 78)) (vc2 C n [] (.code c_laws_FnExactExchangeValues_36 :: sk) e h R) (vc2 C n [] (.code .skip :: sk) e h R)) := nr rfl
@[simp, simp ↓] theorem c_laws_FnExactExchangeValues_38_r : vc2 C (n + 1) [] (.code c_laws_FnExactExchangeValues_38 :: sk) e h R = (vc2 C n [] (.code c_laws_FnExactExchangeValues_34 :: .code c_laws_FnExactExchangeValues_37 :: sk) e h R) := nr rfl
@[simp, simp ↓] theorem c_laws_FnExactExchangeValues_39_r : vc2 C (n + 1) [] (.code c_laws_FnExactExchangeValues_39 :: sk) e h R = (vc2 C n c_laws_FnExactExchangeValues_o21 sk e h R) := nr rfl
@[simp, simp ↓] theorem c_laws_FnExactExchangeValues_40_r : vc2 C (n + 1) [] (.code c_laws_FnExactExchangeValues_40 :: sk) e h R = (vc2 C n c_laws_FnExactExchangeValues_o22 sk e h R) := nr rfl
@[simp, simp ↓] theorem c_laws_FnExactExchangeValues_41_r : vc2 C (n + 1) [] (.code c_laws_FnExactExchangeValues_41 :: sk) e h R = (vc2 C n [] (.code c_laws_FnExactExchangeValues_40 :: .code .ret :: sk) e h R) := nr rfl
@[simp, simp ↓] theorem c_laws_FnExactExchangeValues_42_r : vc2 C (n + 1) [] (.code c_laws_FnExactExchangeValues_42 :: sk) e h R = (condK (ev e (.t 83)) (vc2 C n [] (.code c_laws_FnExactExchangeValues_41 :: sk) e h R) (vc2 C n [] (.code .skip :: sk) e h R)) := nr rfl
@[simp, simp ↓] theorem c_laws_FnExactExchangeValues_43_r : vc2 C (n + 1) [] (.code c_laws_FnExactExchangeValues_43 :: sk) e h R = (vc2 C n [] (.code c_laws_FnExactExchangeValues_39 :: .code c_laws_FnExactExchangeValues_42 :: sk) e h R) := nr rfl
@[simp, simp ↓] theorem c_laws_FnExactExchangeValues_44_r : vc2 C (n + 1) [] (.code c_laws_FnExactExchangeValues_44 :: sk) e h R = (vc2 C n c_laws_FnExactExchangeValues_o23 sk e h R) := nr rfl
@[simp, simp ↓] theorem c_laws_FnExactExchangeValues_45_r : vc2 C (n + 1) [] (.code c_laws_FnExactExchangeValues_45 :: sk) e h R = (vc2 C n c_laws_FnExactExchangeValues_o24 sk e h R) := nr rfl
@[simp, simp ↓] theorem c_laws_FnExactExchangeValues_46_r : vc2 C (n + 1) [] (.code c_laws_FnExactExchangeValues_46 :: sk) e h R = (vc2 C n c_laws_FnExactExchangeValues_o25 sk e h R) := nr rfl
@[simp, simp ↓] theorem c_laws_FnExactExchangeValues_47_r : vc2 C (n + 1) [] (.code c_laws_FnExactExchangeValues_47 :: sk) e h R = (vc2 C n c_laws_FnExactExchangeValues_o26 sk e h R) := nr rfl
@[simp, simp ↓] theorem c_laws_FnExactExchangeValues_48_r : vc2 C (n + 1) [] (.code c_laws_FnExactExchangeValues_48 :: sk) e h R = (vc2 C n c_laws_FnExactExchangeValues_o27 sk e h R) := nr rfl
@[simp, simp ↓] theorem c_laws_FnExactExchangeValues_49_r : vc2 C (n + 1) [] (.code c_laws_FnExactExchangeValues_49 :: sk) e h R = (vc2 C n c_laws_FnExactExchangeValues_o28 sk e h R) := nr rfl
@[simp, simp ↓] theorem c_laws_FnExactExchangeValues_50_r : vc2 C (n + 1) [] (.code c_laws_FnExactExchangeValues_50 :: sk) e h R = (vc2 C n [] (.code c_laws_FnExactExchangeValues_49 :: .code .ret :: sk) e h R) := nr rfl
@[simp, simp ↓] theorem c_laws_FnExactExchangeValues_51_r : vc2 C (n + 1) [] (.code c_laws_FnExactExchangeValues_51 :: sk) e h R = (condK (ev e (.t 105)) (vc2 C n [] (.code c_laws_FnExactExchangeValues_50 :: sk) e h R) (vc2 C n [] (.code .skip :: sk) e h R)) := nr rfl
@[simp, simp ↓] theorem c_laws_FnExactExchangeValues_52_r : vc2 C (n + 1) [] (.code c_laws_FnExactExchangeValues_52 :: sk) e h R = (vc2 C n [] (.code c_laws_FnExactExchangeValues_48 :: .code c_laws_FnExactExchangeValues_51 :: sk) e h R) := nr rfl
@[simp, simp ↓] theorem c_laws_FnExactExchangeValues_53_r : vc2 C (n + 1) [] (.code c_laws_FnExactExchangeValues_53 :: sk) e h R = (vc2 C n c_laws_FnExactExchangeValues_o29 sk e h R) := nr rfl
@[simp, simp ↓] theorem c_laws_FnExactExchangeValues_54_r : vc2 C (n + 1) [] (.code c_laws_FnExactExchangeValues_54 :: sk) e h R = (vc2 C n c_laws_FnExactExchangeValues_o30 sk e h R) := nr rfl
@[simp, simp ↓] theorem c_laws_FnExactExchangeValues_55_r : vc2 C (n + 1) [] (.code c_laws_FnExactExchangeValues_55 :: sk) e h R = (vc2 C n c_laws_FnExactExchangeValues_o31 sk e h R) := nr rfl
@[simp, simp ↓] theorem c_laws_FnExactExchangeValues_56_r : vc2 C (n + 1) [] (.code c_laws_FnExactExchangeValues_56 :: sk) e h R = (vc2 C n c_laws_FnExactExchangeValues_o32 sk e h R) := nr rfl
@[simp, simp ↓] theorem c_laws_FnExactExchangeValues_57_r : vc2 C (n + 1) [] (.code c_laws_FnExactExchangeValues_57 :: sk) e h R = (vc2 C n c_laws_FnExactExchangeValues_o33 sk e h R) := nr rfl
@[simp, simp ↓] theorem c_laws_FnExactExchangeValues_58_r : vc2 C (n + 1) [] (.code c_laws_FnExactExchangeValues_58 :: sk) e h R = (vc2 C n c_laws_FnExactExchangeValues_o34 sk e h R) := nr rfl
@[simp, simp ↓] theorem c_laws_FnExactExchangeValues_59_r : vc2 C (n + 1) [] (.code c_laws_FnExactExchangeValues_59 :: sk) e h R = (vc2 C n [] (.code c_laws_FnExactExchangeValues_58 :: .code .ret :: sk) e h R) := nr rfl
@[simp, simp ↓] theorem c_laws_FnExactExchangeValues_60_r : vc2 C (n + 1) [] (.code c_laws_FnExactExchangeValues_60 :: sk) e h R = (condK (ev e (.t 113)) (vc2 C n [] (.code c_laws_FnExactExchangeValues_59 :: sk) e h R) (vc2 C n [] (.code .skip :: sk) e h R)) := nr rfl
@[simp, simp ↓] theorem c_laws_FnExactExchangeValues_61_r : vc2 C (n + 1) [] (.code c_laws_FnExactExchangeValues_61 :: sk) e h R = (vc2 C n [] (.code c_laws_FnExactExchangeValues_57 :: .code c_laws_FnExactExchangeValues_60 :: sk) e h R) := nr rfl
@[simp, simp ↓] theorem c_laws_FnExactExchangeValues_62_r : vc2 C (n + 1) [] (.code c_laws_FnExactExchangeValues_62 :: sk) e h R = (vc2 C n c_laws_FnExactExchangeValues_o35 sk e h R) := nr rfl
@[simp, simp ↓] theorem c_laws_FnExactExchangeValues_63_r : vc2 C (n + 1) [] (.code c_laws_FnExactExchangeValues_63 :: sk) e h R = (vc2 C n c_laws_FnExactExchangeValues_o36 sk e h R) := nr rfl
@[simp, simp ↓] theorem c_laws_FnExactExchangeValues_64_r : vc2 C (n + 1) [] (.code c_laws_FnExactExchangeValues_64 :: sk) e h R = (vc2 C n [] (.code c_laws_FnExactExchangeValues_63 :: .code .ret :: sk) e h R) := nr rfl
@[simp, simp ↓] theorem c_laws_FnExactExchangeValues_65_r : vc2 C (n + 1) [] (.code c_laws_FnExactExchangeValues_65 :: sk) e h R = (condK (ev e (.t 116)) (vc2 C n [] (.code c_laws_FnExactExchangeValues_64 :: sk) e h R) (vc2 C n [] (.code .skip :: sk) e h R)) := nr rfl
@[simp, simp ↓] theorem c_laws_FnExactExchangeValues_66_r : vc2 C (n + 1) [] (.code c_laws_FnExactExchangeValues_66 :: sk) e h R = (vc2 C n [] (.code c_laws_FnExactExchangeValues_62 :: .code c_laws_FnExactExchangeValues_65 :: sk) e h R) := nr rfl
@[simp, simp ↓] theorem c_laws_FnExactExchangeValues_67_r : vc2 C (n + 1) [] (.code c_laws_FnExactExchangeValues_67 :: sk) e h R = (vc2 C n c_laws_FnExactExchangeValues_o37 sk e h R) := nr rfl
@[simp, simp ↓] theorem c_laws_FnExactExchangeValues_68_r : vc2 C (n + 1) [] (.code c_laws_FnExactExchangeValues_68 :: sk) e h R = (vc2 C n c_laws_FnExactExchangeValues_o38 sk e h R) := nr rfl
@[simp, simp ↓] theorem c_laws_FnExactExchangeValues_69_r : vc2 C (n + 1) [] (.code c_laws_FnExactExchangeValues_69 :: sk) e h R = (vc2 C n c_laws_FnExactExchangeValues_o39 sk e h R) := nr rfl
@[simp, simp ↓] theorem c_laws_FnExactExchangeValues_70_r : vc2 C (n + 1) [] (.code c_laws_FnExactExchangeValues_70 :: sk) e h R = (vc2 C n [] (.code c_laws_FnExactExchangeValues_69 :: .code .ret :: sk) e h R) := nr rfl
@[simp, simp ↓] theorem c_laws_FnExactExchangeValues_71_r : vc2 C (n + 1) [] (.code c_laws_FnExactExchangeValues_71 :: sk) e h R = (condK (ev e (.t 136)) (vc2 C n [] (.code c_laws_FnExactExchangeValues_70 :: sk) e h R) (vc2 C n [] (.code .skip :: sk) e h R)) := nr rfl
@[simp, simp ↓] theorem c_laws_FnExactExchangeValues_72_r : vc2 C (n + 1) [] (.code c_laws_FnExactExchangeValues_72 :: sk) e h R = (vc2 C n [] (.code c_laws_FnExactExchangeValues_68 :: .code c_laws_FnExactExchangeValues_71 :: sk) e h R) := nr rfl
@[simp, simp ↓] theorem c_laws_FnExactExchangeValues_73_r : vc2 C (n + 1) [] (.code c_laws_FnExactExchangeValues_73 :: sk) e h R = (vc2 C n c_laws_FnExactExchangeValues_o40 sk e h R) := nr rfl
@[simp, simp ↓] theorem c_laws_FnExactExchangeValues_74_r : vc2 C (n + 1) [] (.code c_laws_FnExactExchangeValues_74 :: sk) e h R = (vc2 C n c_laws_FnExactExchangeValues_o41 sk e h R) := nr rfl
@[simp, simp ↓] theorem c_laws_FnExactExchangeValues_75_r : vc2 C (n + 1) [] (.code c_laws_FnExactExchangeValues_75 :: sk) e h R = (vc2 C n c_laws_FnExactExchangeValues_o42 sk e h R) := nr rfl
@[simp, simp ↓] theorem c_laws_FnExactExchangeValues_76_r : vc2 C (n + 1) [] (.code c_laws_FnExactExchangeValues_76 :: sk) e h R = (vc2 C n c_laws_FnExactExchangeValues_o43 sk e h R) := nr rfl
@[simp, simp ↓] theorem c_laws_FnExactExchangeValues_77_r : vc2 C (n + 1) [] (.code c_laws_FnExactExchangeValues_77 :: sk) e h R = (vc2 C n [] (.code c_laws_FnExactExchangeValues_76 :: .code .ret :: sk) e h R) := nr rfl
@[simp, simp ↓] theorem c_laws_FnExactExchangeValues_78_r : vc2 C (n + 1) [] (.code c_laws_FnExactExchangeValues_78 :: sk) e h R = (condK (ev e (.t 141)) (vc2 C n [] (.code c_laws_FnExactExchangeValues_77 :: sk) e h R) (vc2 C n [] (.code .skip :: sk) e h R)) := nr rfl
@[simp, simp ↓] theorem c_laws_FnExactExchangeValues_79_r : vc2 C (n + 1) [] (.code c_laws_FnExactExchangeValues_79 :: sk) e h R = (vc2 C n [] (.code c_laws_FnExactExchangeValues_75 :: .code c_laws_FnExactExchangeValues_78 :: sk) e h R) := nr rfl
@[simp, simp ↓] theorem c_laws_FnExactExchangeValues_80_r : vc2 C (n + 1) [] (.code c_laws_FnExactExchangeValues_80 :: sk) e h R = (vc2 C n c_laws_FnExactExchangeValues_o44 sk e h R) := nr rfl
@[simp, simp ↓] theorem c_laws_FnExactExchangeValues_81_r : vc2 C (n + 1) [] (.code c_laws_FnExactExchangeValues_81 :: sk) e h R = (vc2 C n c_laws_FnExactExchangeValues_o45 sk e h R) := nr rfl
@[simp, simp ↓] theorem c_laws_FnExactExchangeValues_82_r : vc2 C (n + 1) [] (.code c_laws_FnExactExchangeValues_82 :: sk) e h R = (vc2 C n [] (.code c_laws_FnExactExchangeValues_81 :: .code .ret :: sk) e h R) := nr rfl
@[simp, simp ↓] theorem c_laws_FnExactExchangeValues_83_r : vc2 C (n + 1) [] (.code c_laws_FnExactExchangeValues_83 :: sk) e h R = (condK (ev e (.t 144)) (vc2 C n [] (.code c_laws_FnExactExchangeValues_82 :: sk) e h R) (vc2 C n [] (.code .skip :: sk) e h R)) := nr rfl
@[simp, simp ↓] theorem c_laws_FnExactExchangeValues_84_r : vc2 C (n + 1) [] (.code c_laws_FnExactExchangeValues_84 :: sk) e h R = (vc2 C n [] (.code c_laws_FnExactExchangeValues_80 :: .code c_laws_FnExactExchangeValues_83 :: sk) e h R) := nr rfl
@[simp, simp ↓] theorem c_laws_FnExactExchangeValues_85_r : vc2 C (n + 1) [] (.code c_laws_FnExactExchangeValues_85 :: sk) e h R = (vc2 C n c_laws_FnExactExchangeValues_o46 sk e h R) := nr rfl
@[simp, simp ↓] theorem c_laws_FnExactExchangeValues_86_r : vc2 C (n + 1) [] (.code c_laws_FnExactExchangeValues_86 :: sk) e h R = (vc2 C n [] (.code c_laws_FnExactExchangeValues_85 :: .code .ret :: sk) e h R) := nr rfl
@[simp, simp ↓] theorem c_laws_FnExactExchangeValues_87_r : vc2 C (n + 1) [] (.code c_laws_FnExactExchangeValues_87 :: sk) e h R = (vc2 C n [] (.code c_laws_FnExactExchangeValues_84 :: .code c_laws_FnExactExchangeValues_86 :: sk) e h R) := nr rfl
@[simp, simp ↓] theorem c_laws_FnExactExchangeValues_88_r : vc2 C (n + 1) [] (.code c_laws_FnExactExchangeValues_88 :: sk) e h R = (vc2 C n [] (.code c_laws_FnExactExchangeValues_79 :: .code c_laws_FnExactExchangeValues_87 :: sk) e h R) := nr rfl
@[simp, simp ↓] theorem c_laws_FnExactExchangeValues_89_r : vc2 C (n + 1) [] (.code c_laws_FnExactExchangeValues_89 :: sk) e h R = (vc2 C n [] (.code c_laws_FnExactExchangeValues_74 :: .code c_laws_FnExactExchangeValues_88 :: sk) e h R) := nr rfl
@[simp, simp ↓] theorem c_laws_FnExactExchangeValues_90_r : vc2 C (n + 1) [] (.code c_laws_FnExactExchangeValues_90 :: sk) e h R = (vc2 C n [] (.code c_laws_FnExactExchangeValues_73 :: .code c_laws_FnExactExchangeValues_89 :: sk) e h R) := nr rfl
@[simp, simp ↓] theorem c_laws_FnExactExchangeValues_91_r : vc2 C (n + 1) [] (.code c_laws_FnExactExchangeValues_91 :: sk) e h R = (vc2 C n [] (.code c_laws_FnExactExchangeValues_72 :: .code c_laws_FnExactExchangeValues_90 :: sk) e h R) := nr rfl
@[simp, simp ↓] theorem c_laws_FnExactExchangeValues_92_r : vc2 C (n + 1) [] (.code c_laws_FnExactExchangeValues_92 :: sk) e h R = (vc2 C n [] (.code c_laws_FnExactExchangeValues_67 :: .code c_laws_FnExactExchangeValues_91 :: sk) e h R) := nr rfl
@[simp, simp ↓] theorem c_laws_FnExactExchangeValues_93_r : vc2 C (n + 1) [] (.code c_laws_FnExactExchangeValues_93 :: sk) e h R = (vc2 C n [] (.code c_laws_FnExactExchangeValues_66 :: .code c_laws_FnExactExchangeValues_92 :: sk) e h R) := nr rfl
@[simp, simp ↓] theorem c_laws_FnExactExchangeValues_94_r : vc2 C (n + 1) [] (.code c_laws_FnExactExchangeValues_94 :: sk) e h R = (vc2 C n [] (.code c_laws_FnExactExchangeValues_61 :: .code c_laws_FnExactExchangeValues_93 :: sk) e h R) := nr rfl
@[simp, simp ↓] theorem c_laws_FnExactExchangeValues_95_r : vc2 C (n + 1) [] (.code c_laws_FnExactExchangeValues_95 :: sk) e h R = (vc2 C n [] (.code c_laws_FnExactExchangeValues_56 :: .code c_laws_FnExactExchangeValues_94 :: sk) e h R) := nr rfl
@[simp, simp ↓] theorem c_laws_FnExactExchangeValues_96_r : vc2 C (n + 1) [] (.code c_laws_FnExactExchangeValues_96 :: sk) e h R = (vc2 C n [] (.code c_laws_FnExactExchangeValues_55 :: .code c_laws_FnExactExchangeValues_95 :: sk) e h R) := nr rfl
@[simp, simp ↓] theorem c_laws_FnExactExchangeValues_97_r : vc2 C (n + 1) [] (.code c_laws_FnExactExchangeValues_97 :: sk) e h R = (vc2 C n [] (.code c_laws_FnExactExchangeValues_54 :: .code c_laws_FnExactExchangeValues_96 :: sk) e h R) := nr rfl
@[simp, simp ↓] theorem c_laws_FnExactExchangeValues_98_r : vc2 C (n + 1) [] (.code c_laws_FnExactExchangeValues_98 :: sk) e h R = (vc2 C n [] (.code c_laws_FnExactExchangeValues_53 :: .code c_laws_FnExactExchangeValues_97 :: sk) e h R) := nr rfl
@[simp, simp ↓] theorem c_laws_FnExactExchangeValues_99_r : vc2 C (n + 1) [] (.code c_laws_FnExactExchangeValues_99 :: sk) e h R = (vc2 C n [] (.code c_laws_FnExactExchangeValues_52 :: .code c_laws_FnExactExchangeValues_98 :: sk) e h R) := nr rfl
@[simp, simp ↓] theorem c_laws_FnExactExchangeValues_100_r : vc2 C (n + 1) [] (.code c_laws_FnExactExchangeValues_100 :: sk) e h R = (vc2 C n [] (.code c_laws_FnExactExchangeValues_47 :: .code c_laws_FnExactExchangeValues_99 :: sk) e h R) := nr rfl
@[simp, simp ↓] theorem c_laws_FnExactExchangeValues_101_r : vc2 C (n + 1) [] (.code c_laws_FnExactExchangeValues_101 :: sk) e h R = (vc2 C n [] (.code c_laws_FnExactExchangeValues_46 :: .code c_laws_FnExactExchangeValues_100 :: sk) e h R) := nr rfl
@[simp, simp ↓] theorem c_laws_FnExactExchangeValues_102_r : vc2 C (n + 1) [] (.code c_laws_FnExactExchangeValues_102 :: sk) e h R = (vc2 C n [] (.code c_laws_FnExactExchangeValues_45 :: .code c_laws_FnExactExchangeValues_101 :: sk) e h R) := nr rfl
@[simp, simp ↓] theorem c_laws_FnExactExchangeValues_103_r : vc2 C (n + 1) [] (.code c_laws_FnExactExchangeValues_103 :: sk) e h R = (vc2 C n [] (.code c_laws_FnExactExchangeValues_44 :: .code c_laws_FnExactExchangeValues_102 :: sk) e h R) := nr rfl
@[simp, simp ↓] theorem c_laws_FnExactExchangeValues_104_r : vc2 C (n + 1) [] (.code c_laws_FnExactExchangeValues_104 :: sk) e h R = (vc2 C n [] (.code c_laws_FnExactExchangeValues_43 :: .code c_laws_FnExactExchangeValues_103 :: sk) e h R) := nr rfl
@[simp, simp ↓] theorem c_laws_FnExactExchangeValues_105_r : vc2 C (n + 1) [] (.code c_laws_FnExactExchangeValues_105 :: sk) e h R = (vc2 C n [] (.code c_laws_FnExactExchangeValues_38 :: .code c_laws_FnExactExchangeValues_104 :: sk) e h R) := nr rfl
@[simp, simp ↓] theorem c_laws_FnExactExchangeValues_106_r : vc2 C (n + 1) [] (.code c_laws_FnExactExchangeValues_106 :: sk) e h R = (vc2 C n [] (.code c_laws_FnExactExchangeValues_33 :: .code c_laws_FnExactExchangeValues_105 :: sk) e h R) := nr rfl
@[simp, simp ↓] theorem c_laws_FnExactExchangeValues_107_r : vc2 C (n + 1) [] (.code c_laws_FnExactExchangeValues_107 :: sk) e h R = (vc2 C n [] (.code c_laws_FnExactExchangeValues_28 :: .code c_laws_FnExactExchangeValues_106 :: sk) e h R) := nr rfl
@[simp, simp ↓] theorem c_laws_FnExactExchangeValues_108_r : vc2 C (n + 1) [] (.code c_laws_FnExactExchangeValues_108 :: sk) e h R = (vc2 C n [] (.code c_laws_FnExactExchangeValues_23 :: .code c_laws_FnExactExchangeValues_107 :: sk) e h R) := nr rfl
@[simp, simp ↓] theorem c_laws_FnExactExchangeValues_109_r : vc2 C (n + 1) [] (.code c_laws_FnExactExchangeValues_109 :: sk) e h R = (vc2 C n [] (.code c_laws_FnExactExchangeValues_22 :: .code c_laws_FnExactExchangeValues_108 :: sk) e h R) := nr rfl
@[simp, simp ↓] theorem c_laws_FnExactExchangeValues_110_r : vc2 C (n + 1) [] (.code c_laws_FnExactExchangeValues_110 :: sk) e h R = (vc2 C n [] (.code c_laws_FnExactExchangeValues_21 :: .code c_laws_FnExactExchangeValues_109 :: sk) e h R) := nr rfl
@[simp, simp ↓] theorem c_laws_FnExactExchangeValues_111_r : vc2 C (n + 1) [] (.code c_laws_FnExactExchangeValues_111 :: sk) e h R = (vc2 C n [] (.code c_laws_FnExactExchangeValues_20 :: .code c_laws_FnExactExchangeValues_110 :: sk) e h R) := nr rfl
@[simp, simp ↓] theorem c_laws_FnExactExchangeValues_112_r : vc2 C (n + 1) [] (.code c_laws_FnExactExchangeValues_112 :: sk) e h R = (vc2 C n [] (.code c_laws_FnExactExchangeValues_19 :: .code c_laws_FnExactExchangeValues_111 :: sk) e h R) := nr rfl
@[simp, simp ↓] theorem c_laws_FnExactExchangeValues_113_r : vc2 C (n + 1) [] (.code c_laws_FnExactExchangeValues_113 :: sk) e h R = (vc2 C n [] (.code c_laws_FnExactExchangeValues_18 :: .code c_laws_FnExactExchangeValues_112 :: sk) e h R) := nr rfl
@[simp, simp ↓] theorem c_laws_FnExactExchangeValues_114_r : vc2 C (n + 1) [] (.code c_laws_FnExactExchangeValues_114 :: sk) e h R = (vc2 C n [] (.code c_laws_FnExactExchangeValues_13 :: .code c_laws_FnExactExchangeValues_113 :: sk) e h R) := nr rfl
@[simp, simp ↓] theorem c_laws_FnExactExchangeValues_115_r : vc2 C (n + 1) [] (.code c_laws_FnExactExchangeValues_115 :: sk) e h R = (vc2 C n [] (.code c_laws_FnExactExchangeValues_12 :: .code c_laws_FnExactExchangeValues_114 :: sk) e h R) := nr rfl
@[simp, simp ↓] theorem c_laws_FnExactExchangeValues_116_r : vc2 C (n + 1) [] (.code c_laws_FnExactExchangeValues_116 :: sk) e h R = (vc2 C n [] (.code c_laws_FnExactExchangeValues_7 :: .code c_laws_FnExactExchangeValues_115 :: sk) e h R) := nr rfl
@[simp, simp ↓] theorem c_laws_FnExactExchangeValues_117_r : vc2 C (n + 1) [] (.code c_laws_FnExactExchangeValues_117 :: sk) e h R = (vc2 C n [] (.code c_laws_FnExactExchangeValues_6 :: .code c_laws_FnExactExchangeValues_116 :: sk) e h R) := nr rfl
@[simp, simp ↓] theorem c_laws_FnExactExchangeValues_118_r : vc2 C (n + 1) [] (.code c_laws_FnExactExchangeValues_118 :: sk) e h R = (vc2 C n [] (.code c_laws_FnExactExchangeValues_5 :: .code c_laws_FnExactExchangeValues_117 :: sk) e h R) := nr rfl
@[simp, simp ↓] theorem c_laws_FnExactExchangeValues_119_r : vc2 C (n + 1) [] (.code c_laws_FnExactExchangeValues_119 :: sk) e h R = (vc2 C n [] (.code c_laws_FnExactExchangeValues_0 :: .code c_laws_FnExactExchangeValues_118 :: sk) e h R) := nr rfl
end
noncomputable def c_laws_FnExactExchangeValues_C (orc : Orc) : Cx := ⟨Try.prog, [12], 10, 145, [.tmp 8], orc⟩
@[simp] theorem c_laws_FnExactExchangeValues_C_P (orc : Orc) : (c_laws_FnExactExchangeValues_C orc).P = Try.prog := nr rfl
@[simp] theorem c_laws_FnExactExchangeValues_C_o (orc : Orc) : (c_laws_FnExactExchangeValues_C orc).orc = orc := nr rfl
@[simp] theorem c_laws_FnExactExchangeValues_C_r (orc : Orc) : (c_laws_FnExactExchangeValues_C orc).res = [.tmp 8] := nr rfl
theorem c_laws_FnExactExchangeValues_of {args : List AV} {h : Heap} {R : AV → Heap → Prop} {k : Nat} (ha : args.length = k) {orc : Orc} (hp : Pure Try.prog orc) (hk : Is (c_laws_FnExactExchangeValues_C orc) Try.f10 → Run2 (c_laws_FnExactExchangeValues_C orc) [.code c_laws_FnExactExchangeValues_119] (argEnv 0 args) h (Post R)) (hle : k ≤ 145 := by simp) : ACalls Try.prog 10 args h R :=
  contract2 [12] c_laws_FnExactExchangeValues_119 [.tmp 8] Try.func10 (by decide +kernel) rfl (by kernel_rfl) (by rw [ha]; exact hle) (by kernel_rfl) hp hk
theorem c_laws_FnExactExchangeValues_of0 {args : List AV} {h : Heap} {R : AV → Heap → Prop} {k : Nat} (ha : args.length = k) {orc : Orc} (hp : Pure Try.prog orc) (hk : Is (c_laws_FnExactExchangeValues_C orc) Try.f10 → Run2 (c_laws_FnExactExchangeValues_C orc) [.code c_laws_FnExactExchangeValues_119] (argEnv 0 args) h R) (hle : k ≤ 145 := by simp) : ACalls Try.prog 10 args h R :=
  contract20 [12] c_laws_FnExactExchangeValues_119 [.tmp 8] Try.func10 (by decide +kernel) rfl (by kernel_rfl) (by rw [ha]; exact hle) (by kernel_rfl) hp hk
theorem ex_law (x : Gr) (hx : x.wf) (r : LS) (hr : wfSS r) (y : List Int) (hy : wfI y) (k : Int) (hk : in64 k) : ACalls Try.prog 10 [x.av, (.snap 1 (r.map il)), (.snap 1 (y.map iv)), (.int .i64 k)] [] (fun v h' => v = .bool true ∧ h' = []) := by
  refine c_laws_FnExactExchangeValues_of rfl orcM_p fun I => ?_
  have hx2_x := hx.2
  have hx2_r := hr
  have hx2_y := hy.2
  refine Run2.of I 1000 ?_
  by_cases ly : y.length ≤ 1048576
  · have hAy : ¬ (1048576 : Int) < y.length := by omega
    by_cases kx : (x.ts.length : Int) ≤ (1048576 : Int)
    · have hAx : ¬ (1048576 : Int) < x.ts.length := by omega
      have hBx : ¬ (1048576 : Int) - x.ts.length < 0 := by omega
      have hCx : (0 : Int) ≤ (1048576 : Int) - x.ts.length := by omega
      have lx : x.ts.length ≤ 1048576 := by omega
      have hDx : (1048576 : Int) - x.ts.length ≤ 1048576 := by omega
      by_cases kr : ((ssTot r) : Int) ≤ ((1048576 : Int) - x.ts.length)
      · have hAr : ¬ ((1048576 : Int) - x.ts.length) < (ssTot r) := by omega
        have hBr : ¬ ((1048576 : Int) - x.ts.length) - (ssTot r) < 0 := by omega
        have hCr : (0 : Int) ≤ ((1048576 : Int) - x.ts.length) - (ssTot r) := by omega
        have lr : (ssTot r) ≤ 1048576 := by omega
        have hDr : ((1048576 : Int) - x.ts.length) - (ssTot r) ≤ 1048576 := by omega
        have he := x.xL_len r y k
        have hsr := (show sumL r ≤ ssTot r by unfold ssTot; omega)
        simp -implicitDefEqProofs [hx2_x, hx2_r, hx2_y, hAy, hAx, hBx, hCx, hDx, kx, hAr, hBr, hCr, hDr, kr]
        first | refine dcallK (toGraph_c x _ lx) ?_ | (refine (toGraph_c x _ lx).mono ?_; rintro v h' ⟨rfl, rfl⟩; refine gK.go ?_)
        simp -implicitDefEqProofs
        first | refine dcallK (toInt64SS_t r _ lr) ?_ | (refine (toInt64SS_t r _ lr).mono ?_; rintro v h' ⟨rfl, rfl⟩; refine gK.go ?_)
        simp -implicitDefEqProofs
        first | refine dcallK (toInt64S_c y _ ly) ?_ | (refine (toInt64S_c y _ ly).mono ?_; rintro v h' ⟨rfl, rfl⟩; refine gK.go ?_)
        simp -implicitDefEqProofs
        first | refine dcallK (specEx_c x r y k _ lx hx.1 lr ly) ?_ | (refine (specEx_c x r y k _ lx hx.1 lr ly).mono ?_; rintro v h' ⟨rfl, rfl⟩; refine gK.go ?_)
        simp -implicitDefEqProofs
        refine (toGraph_o x _ lx).monoN ?_
        rintro v0 h' ⟨g0, o0, d0, rfl⟩ n0
        obtain ⟨u0, rfl, ou0⟩ := id o0
        have c0 := ou0.cell
        refine gK.go ?_
        simp -implicitDefEqProofs [c0]
        refine (toInt64SS_n r _ lr).monoN ?_
        rintro v1 h' ⟨g1, o1, d1, rfl⟩ n1
        refine gK.go ?_
        simp -implicitDefEqProofs [c0]
        refine (toInt64S_o y _ ly).monoN ?_
        rintro v2 h' ⟨g2, o2, d2, rfl⟩ n2
        refine gK.go ?_
        simp -implicitDefEqProofs [c0]
        have L0 := o0.lentIn (L := (g2 ++ (g1 ++ g0))) (fun p hp => List.mem_append_right _ (List.mem_append_right _ (hp))) n2
        have L1 := o1.lentMid (A := g2) (B := g0) (by simpa only [List.nil_append, List.append_nil, List.append_assoc] using n2)
        have L2 := o2.lentIn cold_iv1 (L := (g2 ++ (g1 ++ g0))) (fun p hp => List.mem_append_left _ hp) n2
        refine (ACalls.gives (g2 ++ (g1 ++ g0)) (fun p hp => hp) (S := fun v h' => ∃ w, v = .tup [w, .int .i64 (x.xCode r y k)] ∧ OwnL iv 1 w (x.xL r y k) h') ?_ ?_).monoN ?_
        · rw [lend_cons, lend_cons, lend_cons, lend_cons, lend_nil', lend1_cold (g2 ++ (g1 ++ g0)) (x := (.int .i64 k)) rfl]
          exact ACalls.wk (.cons L0.wk (.cons L1.wk (.cons L2.wk (.cons (.refl _) .nil)))) (implEx_o x r y k lx hx.1 lr ly)
        · rintro v h' ⟨w, rfl, ho⟩
          have := ho.own own_iv1
          exact ⟨by simp [own, owns, this.1], this.2⟩
        rintro v h' ⟨gg, ⟨w, rfl, og⟩, dg, rfl⟩ ng
        refine gK.go ?_
        simp -implicitDefEqProofs [c0]
        first | refine dcallK (eqI_own og (.snap (x.xL r y k)) (fun p hp => List.mem_append_left _ hp) (show (x.xL r y k).length ≤ 1048576 by omega)) ?_ | (refine (eqI_own og (.snap (x.xL r y k)) (fun p hp => List.mem_append_left _ hp) (show (x.xL r y k).length ≤ 1048576 by omega)).mono ?_; rintro v h' ⟨rfl, rfl⟩; refine gK.go ?_)
        simp -implicitDefEqProofs [c0]
        first | refine dcallK (toGraph_c x _ lx) ?_ | (refine (toGraph_c x _ lx).mono ?_; rintro v h' ⟨rfl, rfl⟩; refine gK.go ?_)
        simp -implicitDefEqProofs [c0]
        first | refine dcallK (eqG_own o0 x.is (fun p hp => List.mem_append_right _ (List.mem_append_right _ (List.mem_append_right _ (hp)))) lx) ?_ | (refine (eqG_own o0 x.is (fun p hp => List.mem_append_right _ (List.mem_append_right _ (List.mem_append_right _ (hp)))) lx).mono ?_; rintro v h' ⟨rfl, rfl⟩; refine gK.go ?_)
        simp -implicitDefEqProofs [c0]
        first | refine dcallK (toInt64SS_t r _ lr) ?_ | (refine (toInt64SS_t r _ lr).mono ?_; rintro v h' ⟨rfl, rfl⟩; refine gK.go ?_)
        simp -implicitDefEqProofs [c0]
        first | refine dcallK (eqL_own o1 (.is r) (fun p hp => List.mem_append_right _ (List.mem_append_right _ (List.mem_append_left _ hp))) lr) ?_ | (refine (eqL_own o1 (.is r) (fun p hp => List.mem_append_right _ (List.mem_append_right _ (List.mem_append_left _ hp))) lr).mono ?_; rintro v h' ⟨rfl, rfl⟩; refine gK.go ?_)
        simp -implicitDefEqProofs [c0]
        first | refine dcallK (toInt64S_c y _ ly) ?_ | (refine (toInt64S_c y _ ly).mono ?_; rintro v h' ⟨rfl, rfl⟩; refine gK.go ?_)
        simp -implicitDefEqProofs [c0]
        first | refine dcallK (eqI_own o2 (.snap y) (fun p hp => List.mem_append_right _ (List.mem_append_left _ hp)) ly) ?_ | (refine (eqI_own o2 (.snap y) (fun p hp => List.mem_append_right _ (List.mem_append_left _ hp)) ly).mono ?_; rintro v h' ⟨rfl, rfl⟩; refine gK.go ?_)
        simp -implicitDefEqProofs [c0]
        refine (markG_drop o0 (gg ++ (g2 ++ g1)) (fun p hp => List.mem_append_right _ (List.mem_append_right _ (List.mem_append_right _ (hp)))) ?_ ?_ (1) (by omega) (by omega)).monoN ?_
        · simpa only [List.append_assoc] using keepL (a := (gg ++ (g2 ++ g1))) (b := g0) (by simpa only [List.append_assoc] using ng)
        · exact fun nd => nodupL (a := (gg ++ (g2 ++ g1))) (b := g0) (by simpa only [List.append_assoc] using nd)
        rintro _ _ ⟨e1, e2⟩ nk0
        rw [e1, e2]; rw [e2] at nk0
        refine gK.go ?_
        simp -implicitDefEqProofs [c0]
        refine (markL_drop o1 (gg ++ g2) (fun p hp => List.mem_append_right _ (List.mem_append_right _ (hp))) ?_ ?_ (1 + 3 * (x.ts.length : Int)) (by omega) (by omega)).monoN ?_
        · simpa only [List.append_assoc] using keepL (a := (gg ++ g2)) (b := g1) (by simpa only [List.append_assoc] using nk0)
        · exact fun nd => nodupL (a := (gg ++ g2)) (b := g1) (by simpa only [List.append_assoc] using nd)
        rintro _ _ ⟨e1, e2⟩ nk1
        rw [e1, e2]; rw [e2] at nk1
        refine gK.go ?_
        simp -implicitDefEqProofs [c0]
        refine (markI_drop o2 gg (fun p hp => List.mem_append_right _ (hp)) ?_ ?_ (1 + 3 * (x.ts.length : Int) + (sumL r : Int)) (by omega) (by omega)).monoN ?_
        · simpa only [List.append_assoc] using keepL (a := gg) (b := g2) (by simpa only [List.append_assoc] using nk1)
        · exact fun nd => nodupL (a := gg) (b := g2) (by simpa only [List.append_assoc] using nd)
        rintro _ _ ⟨e1, e2⟩ nk2
        rw [e1, e2]; rw [e2] at nk2
        refine gK.go ?_
        have hk : ¬ (1 + 3 * (x.ts.length : Int) + (sumL r : Int) + (y.length : Int)) < 0 := by omega
        simp -implicitDefEqProofs [c0, hk]
        first | refine dcallK (eqI_own og (.snap (x.xL r y k)) (fun p hp => hp) (show (x.xL r y k).length ≤ 1048576 by omega)) ?_ | (refine (eqI_own og (.snap (x.xL r y k)) (fun p hp => hp) (show (x.xL r y k).length ≤ 1048576 by omega)).mono ?_; rintro v h' ⟨rfl, rfl⟩; refine gK.go ?_)
        simp -implicitDefEqProofs [c0]
        skip
        refine (markI_keep og [] (fun p hp => hp) keepN (fun _ => by simp [dom]) 1 (by omega) (by have := (show (x.xL r y k).length ≤ 1048576 by omega); omega)).mono ?_
        rintro _ _ ⟨gm, rfl, om, rfl⟩
        refine gK.go ?_
        simp -implicitDefEqProofs [c0]
        have hq : ¬ (1 + ((x.xL r y k).length : Int) < 0) := by omega
        first | refine dcallK (heldI_own om (fun p hp => hp) 1 (by omega) (by have := (show (x.xL r y k).length ≤ 1048576 by omega); simp; omega)) ?_ | (refine (heldI_own om (fun p hp => hp) 1 (by omega) (by have := (show (x.xL r y k).length ≤ 1048576 by omega); simp; omega)).mono ?_; rintro v h' ⟨rfl, rfl⟩; refine gK.go ?_)
        simp -implicitDefEqProofs [c0, hq]
        first | refine dcallK (toGraph_c x _ lx) ?_ | (refine (toGraph_c x _ lx).mono ?_; rintro v h' ⟨rfl, rfl⟩; refine gK.go ?_)
        simp -implicitDefEqProofs [c0]
        first | refine dcallK (toInt64SS_t r _ lr) ?_ | (refine (toInt64SS_t r _ lr).mono ?_; rintro v h' ⟨rfl, rfl⟩; refine gK.go ?_)
        simp -implicitDefEqProofs [c0]
        first | refine dcallK (toInt64S_c y _ ly) ?_ | (refine (toInt64S_c y _ ly).mono ?_; rintro v h' ⟨rfl, rfl⟩; refine gK.go ?_)
        simp -implicitDefEqProofs [c0]
        refine (ACalls.gives [] (by simp) (S := fun v h' => ∃ w, v = .tup [w, .int .i64 (x.xCode r y k)] ∧ OwnL iv 1 w (x.xL r y k) h') ?_ ?_).mono ?_
        · exact implEx_o x r y k lx hx.1 lr ly
        · rintro v h' ⟨w, rfl, ho⟩
          have := ho.own own_iv1
          exact ⟨by simp [own, owns, this.1], this.2⟩
        rintro _ _ ⟨g9, ⟨w9, rfl, o9⟩, d9, rfl⟩
        refine gK.go ?_
        simp -implicitDefEqProofs [c0, hq]
        first | refine dcallK (eqI_own o9 (.snap (x.xL r y k)) (fun p hp => List.mem_append_left _ hp) (show (x.xL r y k).length ≤ 1048576 by omega)) ?_ | (refine (eqI_own o9 (.snap (x.xL r y k)) (fun p hp => List.mem_append_left _ hp) (show (x.xL r y k).length ≤ 1048576 by omega)).mono ?_; rintro v h' ⟨rfl, rfl⟩; refine gK.go ?_)
        simp -implicitDefEqProofs [c0, hq]
        first | refine dcallK (heldI_own om (fun p hp => List.mem_append_right _ hp) 1 (by omega) (by have := (show (x.xL r y k).length ≤ 1048576 by omega); simp; omega)) ?_ | (refine (heldI_own om (fun p hp => List.mem_append_right _ hp) 1 (by omega) (by have := (show (x.xL r y k).length ≤ 1048576 by omega); simp; omega)).mono ?_; rintro v h' ⟨rfl, rfl⟩; refine gK.go ?_)
        simp -implicitDefEqProofs [c0, hq]
        exact Post.none ⟨rfl, rfl⟩
      · have hAr : ((1048576 : Int) - x.ts.length) < (ssTot r) := by omega
        simp -implicitDefEqProofs [hx2_x, hx2_r, hx2_y, hAy, hAx, hBx, hCx, hDx, kx, hAr]
        exact .base ⟨rfl, rfl⟩
    · have hAx : (1048576 : Int) < x.ts.length := by omega
      simp -implicitDefEqProofs [hx2_x, hx2_r, hx2_y, hAy, hAx]
      exact .base ⟨rfl, rfl⟩
  · have hAy : (1048576 : Int) < y.length := by omega
    simp -implicitDefEqProofs [hx2_x, hx2_r, hx2_y, hAy]
    exact .base ⟨rfl, rfl⟩
end Go.AG
namespace Go.Proofs.Ytlncpnefkpfojaa
open Go.ChangeShapes Go.WideShapes Go.ChangeAt Go.RowKit Go.AG
theorem own : ownKnob Try.prog.godebug = none := by kernel_rfl
theorem laidOut : laidOutB Try.prog = true := by kernel_rfl
set_option maxRecDepth 100000 in
theorem fnExactExchangeValues_lifted (os : Os) (started : os.Started) (H : Type) (enc : TypeId × Value → H) :
    ReturnsInHanded {} Try.checked os 10 .any (Rows.fnExactExchangeValuesSpec.pre6 enc Try.prog Try.f10 Rows.fnExactExchangeValuesRow.domain false) (Rows.fnExactExchangeValuesSpec.post enc Try.prog Try.f10 false true false false) := by
  refine returnsInHanded_of_change (C := Try.checked) own started (by kernel_rfl) Try.func10
    (ChangeSpec.witness6 (enc := enc) (C := Try.checked) false ⟨#[], #[.agg #[.int .i64 0, .slice none 0 0], .slice none 0 0, .slice none 0 0, .int .i64 0], []⟩ 8 (by kernel_rfl) (by kernel_rfl) (by kernel_rfl) (by kernel_rfl)) ?_
  intro W base args ds gs before hval0 hW _ _
  have hval : ∀ (j : Nat) t v, Try.f10.params[j]? = some t → args[j]? = some v → Value.okWide Try.prog W .any base t v := hval0
  refine law_post (tys := [tyG, tySS, (.slice (.int .i64)), (.int .i64)]) (tb := 4) laidOut rfl (by kernel_rfl) (by kernel_rfl) (by kernel_rfl) (by kernel_rfl) hval hW ?_ ?_
  · intro ds h
    match ds, h with
    | [a0, a1, a2, a3], _ => rfl
  · rintro xs ⟨x0, r0, rfl, h0, x1, r1, rfl, h1, x2, r2, rfl, h2, x3, r3, rfl, h3, hr⟩
    have hr0 : r3 = [] := hr
    subst hr0
    obtain ⟨p0, rfl, q0⟩ := Gr_of_shape h0
    obtain ⟨p1, rfl, q1⟩ := Lists_of_shape h1
    obtain ⟨p2, rfl, q2⟩ := Ints_of_shape h2
    obtain ⟨p3, rfl, q3⟩ := Int_of_shape h3
    exact ex_law p0 q0 p1 q1 p2 q2 p3 q3
theorem fnExactExchangeValues_holds : Rows.FnExactExchangeValuesSaid :=
  OpenClaim.holds_of_wide 10 Try.f10 rfl rfl rfl rfl rfl rfl rfl ⟨rfl, rfl, rfl, rfl, rfl⟩ rfl rfl rfl rfl rfl (by kernel_rfl) Try.func10 (by kernel_rfl)
    (of_decide_eq_true (by kernel_rfl)) (by unfold Func.isWrapper; first | (rw [if_pos (by decide +kernel)]; kernel_rfl) | (rw [if_neg (by decide +kernel)]; exact ⟨rfl, rfl⟩))
    (fun os started H enc _ => fnExactExchangeValues_lifted os started H enc)
end Go.Proofs.Ytlncpnefkpfojaa
