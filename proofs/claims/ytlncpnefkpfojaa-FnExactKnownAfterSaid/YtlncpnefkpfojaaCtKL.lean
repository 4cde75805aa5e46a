/- The law FnExactKnownAfter is true for every input: the program's KnownAfter returns what the reference's returns. -/
import Derived.Test.YtlncpnefkpfojaaCtKS
import Derived.Test.YtlncpnefkpfojaaGrM
namespace Go.AG
open Go.Proofs Go.Proofs.Ytlncpnefkpfojaa
set_option linter.unusedSimpArgs false
set_option linter.unusedVariables false
set_option maxRecDepth 4000
noncomputable def orcM : List (Nat × (List AV → Option (Prop × AV))) := (15, o_szGraph) :: (28, o_szInt64SS) :: []
theorem orcM_p : Pure Try.prog (lk orcM) := (lk_pure o_szGraph_k (lk_pure o_szInt64SS_k lk_pure0))
@[simp] theorem orcM_l (g : FuncId) (l : List AV) : lk orcM g l = if g = 15 then o_szGraph l else if g = 28 then o_szInt64SS l else none := nr rfl
abbrev c_laws_FnExactKnownAfter_o0 : List AJ := [.o ⟨(some 4), none, false, .box false 2 (.t 0), none⟩, .o ⟨(some 8), none, false, .mv (.c (.bool false)), (some [1, 2, 3, 4])⟩]
def c_laws_FnExactKnownAfter_0 : ACode := .region c_laws_FnExactKnownAfter_o0
abbrev c_laws_FnExactKnownAfter_o1 : List AJ := [.o ⟨(some 9), none, false, .mv (.c (.int .i64 1048576)), (some [1, 2, 3, 4, 9])⟩]
def c_laws_FnExactKnownAfter_1 : ACode := .region c_laws_FnExactKnownAfter_o1
abbrev c_laws_FnExactKnownAfter_o2 : List AJ := [.o ⟨(some 21), none, false, .load 2 true (.t 4), none⟩, .o ⟨(some 22), none, false, .mv (.t 9), none⟩, .o ⟨(some 23), none, false, .call 15 [(.t 21), (.t 22)], none⟩, .o ⟨(some 9), none, false, .mv (.t 23), (some [1, 2, 3, 4, 9])⟩]
def c_laws_FnExactKnownAfter_2 : ACode := .region c_laws_FnExactKnownAfter_o2
abbrev c_laws_FnExactKnownAfter_o3 : List AJ := [.o ⟨(some 24), none, false, .mv (.t 9), none⟩, .o ⟨(some 25), none, false, .bin .lss (.t 24) (.c (.int .i64 0)), (some [1, 2, 3, 4, 9, 25])⟩]
def c_laws_FnExactKnownAfter_3 : ACode := .region c_laws_FnExactKnownAfter_o3
abbrev c_laws_FnExactKnownAfter_o4 : List AJ := [.o ⟨(some 8), none, false, .mv (.c (.bool true)), (some [8])⟩]
def c_laws_FnExactKnownAfter_4 : ACode := .region c_laws_FnExactKnownAfter_o4
def c_laws_FnExactKnownAfter_5 : ACode := .seq c_laws_FnExactKnownAfter_4 .ret
def c_laws_FnExactKnownAfter_6 : ACode := .cond (.t 25) c_laws_FnExactKnownAfter_5 .skip
def c_laws_FnExactKnownAfter_7 : ACode := .seq c_laws_FnExactKnownAfter_3 c_laws_FnExactKnownAfter_6
abbrev c_laws_FnExactKnownAfter_o5 : List AJ := [.o ⟨(some 26), none, false, .mv (.t 1), none⟩, .o ⟨(some 27), none, false, .mv (.t 9), none⟩, .o ⟨(some 28), none, false, .call 28 [(.t 26), (.t 27)], none⟩, .o ⟨(some 9), none, false, .mv (.t 28), (some [1, 2, 3, 4, 9])⟩]
def c_laws_FnExactKnownAfter_8 : ACode := .region c_laws_FnExactKnownAfter_o5
abbrev c_laws_FnExactKnownAfter_o6 : List AJ := [.o ⟨(some 29), none, false, .mv (.t 9), none⟩, .o ⟨(some 30), none, false, .bin .lss (.t 29) (.c (.int .i64 0)), (some [1, 2, 3, 4, 30])⟩]
def c_laws_FnExactKnownAfter_9 : ACode := .region c_laws_FnExactKnownAfter_o6
abbrev c_laws_FnExactKnownAfter_o7 : List AJ := [.o ⟨(some 8), none, false, .mv (.c (.bool true)), (some [8])⟩]
def c_laws_FnExactKnownAfter_10 : ACode := .region c_laws_FnExactKnownAfter_o7
def c_laws_FnExactKnownAfter_11 : ACode := .seq c_laws_FnExactKnownAfter_10 .ret
def c_laws_FnExactKnownAfter_12 : ACode := .cond (.t 30) c_laws_FnExactKnownAfter_11 .skip
def c_laws_FnExactKnownAfter_13 : ACode := .seq c_laws_FnExactKnownAfter_9 c_laws_FnExactKnownAfter_12
abbrev c_laws_FnExactKnownAfter_o8 : List AJ := [.o ⟨(some 32), none, false, .load 2 true (.t 4), none⟩, .o ⟨(some 33), none, false, .call 17 [(.t 32)], none⟩, .o ⟨(some 34), none, false, .mv (.t 1), none⟩, .o ⟨(some 35), none, false, .call 30 [(.t 34)], none⟩, .o ⟨(some 36), none, false, .mv (.t 2), none⟩, .o ⟨(some 37), none, false, .mv (.t 3), none⟩, .o ⟨(some 38), none, false, .call 39 [(.t 33), (.t 35), (.t 36), (.t 37)], none⟩, .o ⟨(some 31), none, false, .mv (.t 38), none⟩, .o ⟨(some 39), none, false, .extract (.t 31) 0, none⟩, .o ⟨(some 40), none, false, .extract (.t 31) 1, none⟩, .o ⟨(some 10), none, false, .mv (.t 39), none⟩, .o ⟨(some 11), none, false, .mv (.t 40), (some [1, 2, 3, 4, 10, 11])⟩]
def c_laws_FnExactKnownAfter_14 : ACode := .region c_laws_FnExactKnownAfter_o8
abbrev c_laws_FnExactKnownAfter_o9 : List AJ := [.o ⟨(some 41), none, false, .load 2 true (.t 4), none⟩, .o ⟨(some 42), none, false, .call 17 [(.t 41)], none⟩, .v 12 2 (.agg [(.int .i64 0), .nilsl]) [] (.t 42) (some [1, 2, 3, 4, 10, 11, 12])]
def c_laws_FnExactKnownAfter_15 : ACode := .region c_laws_FnExactKnownAfter_o9
abbrev c_laws_FnExactKnownAfter_o10 : List AJ := [.o ⟨(some 43), none, false, .mv (.t 1), none⟩, .o ⟨(some 44), none, false, .call 30 [(.t 43)], none⟩, .o ⟨(some 13), none, false, .mv (.t 44), (some [1, 2, 3, 4, 10, 11, 12, 13])⟩]
def c_laws_FnExactKnownAfter_16 : ACode := .region c_laws_FnExactKnownAfter_o10
abbrev c_laws_FnExactKnownAfter_o11 : List AJ := [.o ⟨(some 46), none, false, .load 2 true (.t 12), none⟩, .o ⟨(some 47), none, false, .mv (.t 13), none⟩, .o ⟨(some 48), none, false, .mv (.t 2), none⟩, .o ⟨(some 49), none, false, .mv (.t 3), none⟩, .o ⟨(some 50), none, false, .call 40 [(.t 46), (.t 47), (.t 48), (.t 49)], none⟩, .o ⟨(some 45), none, false, .mv (.t 50), none⟩, .o ⟨(some 51), none, false, .extract (.t 45) 0, none⟩, .o ⟨(some 52), none, false, .extract (.t 45) 1, none⟩, .o ⟨(some 14), none, false, .mv (.t 51), none⟩, .o ⟨(some 15), none, false, .mv (.t 52), (some [1, 2, 3, 4, 10, 11, 12, 13, 14, 15])⟩]
def c_laws_FnExactKnownAfter_17 : ACode := .region c_laws_FnExactKnownAfter_o11
abbrev c_laws_FnExactKnownAfter_o12 : List AJ := [.o ⟨(some 53), none, false, .mv (.t 14), none⟩, .o ⟨(some 54), none, false, .mv (.t 10), none⟩, .o ⟨(some 55), none, false, .call 36 [(.t 53), (.t 54)], none⟩, .o ⟨(some 56), none, false, .un .not (.t 55), none⟩, .o ⟨(some 57), none, false, .mv (.t 56), none⟩, .o ⟨(some 58), (some (57, false)), false, .mv (.t 15), none⟩, .o ⟨(some 59), (some (57, false)), false, .mv (.t 11), none⟩, .o ⟨(some 60), (some (57, false)), false, .bin .neq (.t 58) (.t 59), none⟩, .o ⟨(some 61), none, false, .pick (.t 57) (.c (.bool true)) (.t 60), (some [1, 2, 3, 4, 10, 11, 12, 13, 14, 15, 61])⟩]
def c_laws_FnExactKnownAfter_18 : ACode := .region c_laws_FnExactKnownAfter_o12
abbrev c_laws_FnExactKnownAfter_o13 : List AJ := [.o ⟨(some 8), none, false, .mv (.c (.bool false)), (some [8])⟩]
def c_laws_FnExactKnownAfter_19 : ACode := .region c_laws_FnExactKnownAfter_o13
def c_laws_FnExactKnownAfter_20 : ACode := .seq c_laws_FnExactKnownAfter_19 .ret
def c_laws_FnExactKnownAfter_21 : ACode := .cond (.t 61) c_laws_FnExactKnownAfter_20 .skip
def c_laws_FnExactKnownAfter_22 : ACode := .seq c_laws_FnExactKnownAfter_18 c_laws_FnExactKnownAfter_21
abbrev c_laws_FnExactKnownAfter_o14 : List AI := [⟨(some 62), none, false, .load 2 true (.t 12), none⟩, ⟨(some 63), none, false, .load 2 true (.t 4), none⟩, ⟨(some 64), none, false, .call 17 [(.t 63)], none⟩, ⟨(some 65), none, false, .call 19 [(.t 62), (.t 64)], none⟩, ⟨(some 66), none, false, .un .not (.t 65), (some [1, 2, 3, 4, 10, 11, 12, 13, 14, 15, 66])⟩]
def c_laws_FnExactKnownAfter_23 : ACode := .draw c_laws_FnExactKnownAfter_o14 [] rfl
abbrev c_laws_FnExactKnownAfter_o15 : List AJ := [.o ⟨(some 8), none, false, .mv (.c (.bool false)), (some [8])⟩]
def c_laws_FnExactKnownAfter_24 : ACode := .region c_laws_FnExactKnownAfter_o15
def c_laws_FnExactKnownAfter_25 : ACode := .seq c_laws_FnExactKnownAfter_24 .ret
def c_laws_FnExactKnownAfter_26 : ACode := .cond (.t 66) c_laws_FnExactKnownAfter_25 .skip
def c_laws_FnExactKnownAfter_27 : ACode := .seq c_laws_FnExactKnownAfter_23 c_laws_FnExactKnownAfter_26
abbrev c_laws_FnExactKnownAfter_o16 : List AJ := [.o ⟨(some 67), none, false, .mv (.t 13), none⟩, .o ⟨(some 68), none, false, .mv (.t 1), none⟩, .o ⟨(some 69), none, false, .call 30 [(.t 68)], none⟩, .o ⟨(some 70), none, false, .call 22 [(.t 67), (.t 69)], none⟩, .o ⟨(some 71), none, false, .un .not (.t 70), (some [1, 2, 3, 4, 10, 11, 12, 13, 14, 15, 71])⟩]
def c_laws_FnExactKnownAfter_28 : ACode := .region c_laws_FnExactKnownAfter_o16
abbrev c_laws_FnExactKnownAfter_o17 : List AJ := [.o ⟨(some 8), none, false, .mv (.c (.bool false)), (some [8])⟩]
def c_laws_FnExactKnownAfter_29 : ACode := .region c_laws_FnExactKnownAfter_o17
def c_laws_FnExactKnownAfter_30 : ACode := .seq c_laws_FnExactKnownAfter_29 .ret
def c_laws_FnExactKnownAfter_31 : ACode := .cond (.t 71) c_laws_FnExactKnownAfter_30 .skip
def c_laws_FnExactKnownAfter_32 : ACode := .seq c_laws_FnExactKnownAfter_28 c_laws_FnExactKnownAfter_31
abbrev c_laws_FnExactKnownAfter_o18 : List AJ := [.o ⟨(some 16), none, false, .mv (.c (.int .i64 1)), (some [1, 2, 3, 4, 10, 11, 12, 13, 14, 15, 16])⟩]
def c_laws_FnExactKnownAfter_33 : ACode := .region c_laws_FnExactKnownAfter_o18
abbrev c_laws_FnExactKnownAfter_o19 : List AJ := [.o ⟨(some 72), none, false, .load 2 true (.t 12), none⟩, .o ⟨(some 73), none, false, .mv (.t 16), none⟩, .o ⟨(some 74), none, false, .call 23 [(.t 72), (.t 73)], none⟩, .o ⟨(some 16), none, false, .mv (.t 74), (some [1, 2, 3, 4, 10, 11, 13, 14, 15, 16])⟩]
def c_laws_FnExactKnownAfter_34 : ACode := .region c_laws_FnExactKnownAfter_o19
abbrev c_laws_FnExactKnownAfter_o20 : List AJ := [.o ⟨(some 75), none, false, .mv (.t 13), none⟩, .o ⟨(some 76), none, false, .mv (.t 16), none⟩, .o ⟨(some 77), none, false, .call 24 [(.t 75), (.t 76)], none⟩, .o ⟨(some 16), none, false, .mv (.t 77), (some [1, 2, 3, 4, 10, 11, 14, 15, 16])⟩]
def c_laws_FnExactKnownAfter_35 : ACode := .region c_laws_FnExactKnownAfter_o20
abbrev c_laws_FnExactKnownAfter_o21 : List AJ := [.o ⟨(some 78), none, false, .mv (.t 16), none⟩, .o ⟨(some 79), none, false, .bin .lss (.t 78) (.c (.int .i64 0)), none⟩, .o ⟨(some 80), none, false, .mv (.t 79), none⟩, .o ⟨(some 81), (some (80, false)), false, .mv (.t 14), none⟩, .o ⟨(some 82), (some (80, false)), false, .mv (.t 10), none⟩, .o ⟨(some 83), (some (80, false)), false, .call 36 [(.t 81), (.t 82)], none⟩, .o ⟨(some 84), (some (80, false)), false, .un .not (.t 83), none⟩, .o ⟨(some 85), none, false, .pick (.t 80) (.c (.bool true)) (.t 84), none⟩, .o ⟨(some 86), none, false, .mv (.t 85), none⟩, .o ⟨(some 87), (some (86, false)), false, .mv (.t 15), (some [1, 2, 3, 4, 10, 11, 14, 86, 87])⟩, .o ⟨(some 88), (some (86, false)), false, .mv (.t 11), none⟩, .o ⟨(some 89), (some (86, false)), false, .bin .neq (.t 87) (.t 88), none⟩, .o ⟨(some 90), none, false, .pick (.t 86) (.c (.bool true)) (.t 89), (some [1, 2, 3, 4, 10, 11, 14, 90])⟩]
def c_laws_FnExactKnownAfter_36 : ACode := .region c_laws_FnExactKnownAfter_o21
abbrev c_laws_FnExactKnownAfter_o22 : List AJ := [.o ⟨(some 8), none, false, .mv (.c (.bool false)), (some [8])⟩]
def c_laws_FnExactKnownAfter_37 : ACode := .region c_laws_FnExactKnownAfter_o22
def c_laws_FnExactKnownAfter_38 : ACode := .seq c_laws_FnExactKnownAfter_37 .ret
def c_laws_FnExactKnownAfter_39 : ACode := .cond (.t 90) c_laws_FnExactKnownAfter_38 .skip
def c_laws_FnExactKnownAfter_40 : ACode := .seq c_laws_FnExactKnownAfter_36 c_laws_FnExactKnownAfter_39
abbrev c_laws_FnExactKnownAfter_o23 : List AJ := [.o ⟨(some 17), none, false, .mv (.c (.int .i64 1)), (some [1, 2, 3, 4, 10, 11, 14, 17])⟩]
def c_laws_FnExactKnownAfter_41 : ACode := .region c_laws_FnExactKnownAfter_o23
abbrev c_laws_FnExactKnownAfter_o24 : List AJ := [.o ⟨(some 91), none, false, .mv (.t 14), none⟩, .o ⟨(some 92), none, false, .mv (.t 17), none⟩, .o ⟨(some 93), none, false, .call 37 [(.t 91), (.t 92)], none⟩, .o ⟨(some 17), none, false, .mv (.t 93), (some [1, 2, 3, 4, 10, 11, 14, 17])⟩]
def c_laws_FnExactKnownAfter_42 : ACode := .region c_laws_FnExactKnownAfter_o24
abbrev c_laws_FnExactKnownAfter_o25 : List AJ := [.o ⟨(some 18), none, false, .mv (.c (.int .i64 1)), (some [1, 2, 3, 4, 10, 11, 14, 17, 18])⟩]
def c_laws_FnExactKnownAfter_43 : ACode := .region c_laws_FnExactKnownAfter_o25
abbrev c_laws_FnExactKnownAfter_o26 : List AJ := [.o ⟨(some 94), none, false, .mv (.t 14), none⟩, .o ⟨(some 95), none, false, .mv (.t 18), none⟩, .o ⟨(some 96), none, false, .call 38 [(.t 94), (.t 95)], none⟩, .o ⟨(some 18), none, false, .mv (.t 96), (some [1, 2, 3, 4, 10, 11, 14, 17, 18])⟩]
def c_laws_FnExactKnownAfter_44 : ACode := .region c_laws_FnExactKnownAfter_o26
abbrev c_laws_FnExactKnownAfter_o27 : List AJ := [.o ⟨(some 97), none, false, .mv (.t 18), none⟩, .o ⟨(some 98), none, false, .bin .lss (.t 97) (.c (.int .i64 0)), (some [1, 2, 3, 4, 10, 11, 14, 17, 18, 98])⟩]
def c_laws_FnExactKnownAfter_45 : ACode := .region c_laws_FnExactKnownAfter_o27
abbrev c_laws_FnExactKnownAfter_o28 : List AJ := [.o ⟨(some 8), none, false, .mv (.c (.bool false)), (some [8])⟩]
def c_laws_FnExactKnownAfter_46 : ACode := .region c_laws_FnExactKnownAfter_o28
def c_laws_FnExactKnownAfter_47 : ACode := .seq c_laws_FnExactKnownAfter_46 .ret
def c_laws_FnExactKnownAfter_48 : ACode := .cond (.t 98) c_laws_FnExactKnownAfter_47 .skip
def c_laws_FnExactKnownAfter_49 : ACode := .seq c_laws_FnExactKnownAfter_45 c_laws_FnExactKnownAfter_48
abbrev c_laws_FnExactKnownAfter_o29 : List AJ := [.o ⟨(some 99), none, false, .mv (.t 18), none⟩, .o ⟨(some 100), none, false, .mv (.t 17), none⟩, .o ⟨(some 101), none, false, .bin .neq (.t 99) (.t 100), (some [1, 2, 3, 4, 10, 11, 14, 17, 101])⟩]
def c_laws_FnExactKnownAfter_50 : ACode := .region c_laws_FnExactKnownAfter_o29
abbrev c_laws_FnExactKnownAfter_o30 : List AJ := [.o ⟨(some 8), none, false, .mv (.c (.bool false)), (some [8])⟩]
def c_laws_FnExactKnownAfter_51 : ACode := .region c_laws_FnExactKnownAfter_o30
def c_laws_FnExactKnownAfter_52 : ACode := .seq c_laws_FnExactKnownAfter_51 .ret
def c_laws_FnExactKnownAfter_53 : ACode := .cond (.t 101) c_laws_FnExactKnownAfter_52 .skip
def c_laws_FnExactKnownAfter_54 : ACode := .seq c_laws_FnExactKnownAfter_50 c_laws_FnExactKnownAfter_53
abbrev c_laws_FnExactKnownAfter_o31 : List AJ := [.o ⟨(some 103), none, false, .load 2 true (.t 4), none⟩, .o ⟨(some 104), none, false, .call 17 [(.t 103)], none⟩, .o ⟨(some 105), none, false, .mv (.t 1), none⟩, .o ⟨(some 106), none, false, .call 30 [(.t 105)], none⟩, .o ⟨(some 107), none, false, .mv (.t 2), none⟩, .o ⟨(some 108), none, false, .mv (.t 3), none⟩, .o ⟨(some 109), none, false, .call 40 [(.t 104), (.t 106), (.t 107), (.t 108)], none⟩, .o ⟨(some 102), none, false, .mv (.t 109), none⟩, .o ⟨(some 110), none, false, .extract (.t 102) 0, none⟩, .o ⟨(some 111), none, false, .extract (.t 102) 1, none⟩, .o ⟨(some 19), none, false, .mv (.t 110), none⟩, .o ⟨(some 20), none, false, .mv (.t 111), (some [10, 11, 14, 17, 19, 20])⟩]
def c_laws_FnExactKnownAfter_55 : ACode := .region c_laws_FnExactKnownAfter_o31
abbrev c_laws_FnExactKnownAfter_o32 : List AJ := [.o ⟨(some 112), none, false, .mv (.t 19), none⟩, .o ⟨(some 113), none, false, .mv (.t 10), none⟩, .o ⟨(some 114), none, false, .call 36 [(.t 112), (.t 113)], none⟩, .o ⟨(some 115), none, false, .un .not (.t 114), none⟩, .o ⟨(some 116), none, false, .mv (.t 115), none⟩, .o ⟨(some 117), (some (116, false)), false, .mv (.t 20), none⟩, .o ⟨(some 118), (some (116, false)), false, .mv (.t 11), none⟩, .o ⟨(some 119), (some (116, false)), false, .bin .neq (.t 117) (.t 118), none⟩, .o ⟨(some 120), none, false, .pick (.t 116) (.c (.bool true)) (.t 119), (some [14, 17, 120])⟩]
def c_laws_FnExactKnownAfter_56 : ACode := .region c_laws_FnExactKnownAfter_o32
abbrev c_laws_FnExactKnownAfter_o33 : List AJ := [.o ⟨(some 8), none, false, .mv (.c (.bool false)), (some [8])⟩]
def c_laws_FnExactKnownAfter_57 : ACode := .region c_laws_FnExactKnownAfter_o33
def c_laws_FnExactKnownAfter_58 : ACode := .seq c_laws_FnExactKnownAfter_57 .ret
def c_laws_FnExactKnownAfter_59 : ACode := .cond (.t 120) c_laws_FnExactKnownAfter_58 .skip
def c_laws_FnExactKnownAfter_60 : ACode := .seq c_laws_FnExactKnownAfter_56 c_laws_FnExactKnownAfter_59
abbrev c_laws_FnExactKnownAfter_o34 : List AJ := [.o ⟨(some 18), none, false, .mv (.c (.int .i64 1)), (some [14, 17, 18])⟩]
def c_laws_FnExactKnownAfter_61 : ACode := .region c_laws_FnExactKnownAfter_o34
abbrev c_laws_FnExactKnownAfter_o35 : List AJ := [.o ⟨(some 121), none, false, .mv (.t 14), none⟩, .o ⟨(some 122), none, false, .mv (.t 18), none⟩, .o ⟨(some 123), none, false, .call 38 [(.t 121), (.t 122)], none⟩, .o ⟨(some 18), none, false, .mv (.t 123), (some [17, 18])⟩]
def c_laws_FnExactKnownAfter_62 : ACode := .region c_laws_FnExactKnownAfter_o35
abbrev c_laws_FnExactKnownAfter_o36 : List AJ := [.o ⟨(some 124), none, false, .mv (.t 18), none⟩, .o ⟨(some 125), none, false, .bin .lss (.t 124) (.c (.int .i64 0)), (some [17, 18, 125])⟩]
def c_laws_FnExactKnownAfter_63 : ACode := .region c_laws_FnExactKnownAfter_o36
abbrev c_laws_FnExactKnownAfter_o37 : List AJ := [.o ⟨(some 8), none, false, .mv (.c (.bool false)), (some [8])⟩]
def c_laws_FnExactKnownAfter_64 : ACode := .region c_laws_FnExactKnownAfter_o37
def c_laws_FnExactKnownAfter_65 : ACode := .seq c_laws_FnExactKnownAfter_64 .ret
def c_laws_FnExactKnownAfter_66 : ACode := .cond (.t 125) c_laws_FnExactKnownAfter_65 .skip
def c_laws_FnExactKnownAfter_67 : ACode := .seq c_laws_FnExactKnownAfter_63 c_laws_FnExactKnownAfter_66
abbrev c_laws_FnExactKnownAfter_o38 : List AJ := [.o ⟨(some 126), none, false, .mv (.t 18), none⟩, .o ⟨(some 127), none, false, .mv (.t 17), none⟩, .o ⟨(some 128), none, false, .bin .neq (.t 126) (.t 127), (some [128])⟩]
def c_laws_FnExactKnownAfter_68 : ACode := .region c_laws_FnExactKnownAfter_o38
abbrev c_laws_FnExactKnownAfter_o39 : List AJ := [.o ⟨(some 8), none, false, .mv (.c (.bool false)), (some [8])⟩]
def c_laws_FnExactKnownAfter_69 : ACode := .region c_laws_FnExactKnownAfter_o39
def c_laws_FnExactKnownAfter_70 : ACode := .seq c_laws_FnExactKnownAfter_69 .ret
def c_laws_FnExactKnownAfter_71 : ACode := .cond (.t 128) c_laws_FnExactKnownAfter_70 .skip
def c_laws_FnExactKnownAfter_72 : ACode := .seq c_laws_FnExactKnownAfter_68 c_laws_FnExactKnownAfter_71
abbrev c_laws_FnExactKnownAfter_o40 : List AJ := [.o ⟨(some 8), none, false, .mv (.c (.bool true)), (some [8])⟩]
def c_laws_FnExactKnownAfter_73 : ACode := .region c_laws_FnExactKnownAfter_o40
def c_laws_FnExactKnownAfter_74 : ACode := .seq c_laws_FnExactKnownAfter_73 .ret
def c_laws_FnExactKnownAfter_75 : ACode := .seq c_laws_FnExactKnownAfter_72 c_laws_FnExactKnownAfter_74
def c_laws_FnExactKnownAfter_76 : ACode := .seq c_laws_FnExactKnownAfter_67 c_laws_FnExactKnownAfter_75
def c_laws_FnExactKnownAfter_77 : ACode := .seq c_laws_FnExactKnownAfter_62 c_laws_FnExactKnownAfter_76
def c_laws_FnExactKnownAfter_78 : ACode := .seq c_laws_FnExactKnownAfter_61 c_laws_FnExactKnownAfter_77
def c_laws_FnExactKnownAfter_79 : ACode := .seq c_laws_FnExactKnownAfter_60 c_laws_FnExactKnownAfter_78
def c_laws_FnExactKnownAfter_80 : ACode := .seq c_laws_FnExactKnownAfter_55 c_laws_FnExactKnownAfter_79
def c_laws_FnExactKnownAfter_81 : ACode := .seq c_laws_FnExactKnownAfter_54 c_laws_FnExactKnownAfter_80
def c_laws_FnExactKnownAfter_82 : ACode := .seq c_laws_FnExactKnownAfter_49 c_laws_FnExactKnownAfter_81
def c_laws_FnExactKnownAfter_83 : ACode := .seq c_laws_FnExactKnownAfter_44 c_laws_FnExactKnownAfter_82
def c_laws_FnExactKnownAfter_84 : ACode := .seq c_laws_FnExactKnownAfter_43 c_laws_FnExactKnownAfter_83
def c_laws_FnExactKnownAfter_85 : ACode := .seq c_laws_FnExactKnownAfter_42 c_laws_FnExactKnownAfter_84
def c_laws_FnExactKnownAfter_86 : ACode := .seq c_laws_FnExactKnownAfter_41 c_laws_FnExactKnownAfter_85
def c_laws_FnExactKnownAfter_87 : ACode := .seq c_laws_FnExactKnownAfter_40 c_laws_FnExactKnownAfter_86
def c_laws_FnExactKnownAfter_88 : ACode := .seq c_laws_FnExactKnownAfter_35 c_laws_FnExactKnownAfter_87
def c_laws_FnExactKnownAfter_89 : ACode := .seq c_laws_FnExactKnownAfter_34 c_laws_FnExactKnownAfter_88
def c_laws_FnExactKnownAfter_90 : ACode := .seq c_laws_FnExactKnownAfter_33 c_laws_FnExactKnownAfter_89
def c_laws_FnExactKnownAfter_91 : ACode := .seq c_laws_FnExactKnownAfter_32 c_laws_FnExactKnownAfter_90
def c_laws_FnExactKnownAfter_92 : ACode := .seq c_laws_FnExactKnownAfter_27 c_laws_FnExactKnownAfter_91
def c_laws_FnExactKnownAfter_93 : ACode := .seq c_laws_FnExactKnownAfter_22 c_laws_FnExactKnownAfter_92
def c_laws_FnExactKnownAfter_94 : ACode := .seq c_laws_FnExactKnownAfter_17 c_laws_FnExactKnownAfter_93
def c_laws_FnExactKnownAfter_95 : ACode := .seq c_laws_FnExactKnownAfter_16 c_laws_FnExactKnownAfter_94
def c_laws_FnExactKnownAfter_96 : ACode := .seq c_laws_FnExactKnownAfter_15 c_laws_FnExactKnownAfter_95
def c_laws_FnExactKnownAfter_97 : ACode := .seq c_laws_FnExactKnownAfter_14 c_laws_FnExactKnownAfter_96
def c_laws_FnExactKnownAfter_98 : ACode := .seq c_laws_FnExactKnownAfter_13 c_laws_FnExactKnownAfter_97
def c_laws_FnExactKnownAfter_99 : ACode := .seq c_laws_FnExactKnownAfter_8 c_laws_FnExactKnownAfter_98
def c_laws_FnExactKnownAfter_100 : ACode := .seq c_laws_FnExactKnownAfter_7 c_laws_FnExactKnownAfter_99
def c_laws_FnExactKnownAfter_101 : ACode := .seq c_laws_FnExactKnownAfter_2 c_laws_FnExactKnownAfter_100
def c_laws_FnExactKnownAfter_102 : ACode := .seq c_laws_FnExactKnownAfter_1 c_laws_FnExactKnownAfter_101
def c_laws_FnExactKnownAfter_103 : ACode := .seq c_laws_FnExactKnownAfter_0 c_laws_FnExactKnownAfter_102
section
variable (C : Cx) (n : Nat) (sk : List AItem) (e : Env) (h : Heap) (R : AV → Heap → Prop)
@[simp, simp ↓] theorem c_laws_FnExactKnownAfter_0_r : vc2 C (n + 1) [] (.code c_laws_FnExactKnownAfter_0 :: sk) e h R = (vc2 C n c_laws_FnExactKnownAfter_o0 sk e h R) := nr rfl
@[simp, simp ↓] theorem c_laws_FnExactKnownAfter_1_r : vc2 C (n + 1) [] (.code c_laws_FnExactKnownAfter_1 :: sk) e h R = (vc2 C n c_laws_FnExactKnownAfter_o1 sk e h R) := nr rfl
@[simp, simp ↓] theorem c_laws_FnExactKnownAfter_2_r : vc2 C (n + 1) [] (.code c_laws_FnExactKnownAfter_2 :: sk) e h R = (vc2 C n c_laws_FnExactKnownAfter_o2 sk e h R) := nr rfl
@[simp, simp ↓] theorem c_laws_FnExactKnownAfter_3_r : vc2 C (n + 1) [] (.code c_laws_FnExactKnownAfter_3 :: sk) e h R = (vc2 C n c_laws_FnExactKnownAfter_o3 sk e h R) := nr rfl
@[simp, simp ↓] theorem c_laws_FnExactKnownAfter_4_r : vc2 C (n + 1) [] (.code c_laws_FnExactKnownAfter_4 :: sk) e h R = (vc2 C n c_laws_FnExactKnownAfter_o4 sk e h R) := nr rfl
@[simp, simp ↓] theorem c_laws_FnExactKnownAfter_5_r : vc2 C (n + 1) [] (.code c_laws_FnExactKnownAfter_5 :: sk) e h R = (vc2 C n [] (.code c_laws_FnExactKnownAfter_4 :: .code .ret :: sk) e h R) := nr rfl
@[simp, simp ↓] theorem c_laws_FnExactKnownAfter_6_r : vc2 C (n + 1) [] (.code c_laws_FnExactKnownAfter_6 :: sk) e h R = (condK (ev e (.t 25)) (vc2 C n [] (.code c_laws_FnExactKnownAfter_5 :: sk) e h R) (vc2 C n [] (.code .skip :: sk) e h R)) := nr rfl
@[simp, simp ↓] theorem c_laws_FnExactKnownAfter_7_r : vc2 C (n + 1) [] (.code c_laws_FnExactKnownAfter_7 :: sk) e h R = (vc2 C n [] (.code c_laws_FnExactKnownAfter_3 :: .code c_laws_FnExactKnownAfter_6 :: sk) e h R) := nr rfl
@[simp, simp ↓] theorem c_laws_FnExactKnownAfter_8_r : vc2 C (n + 1) [] (.code c_laws_FnExactKnownAfter_8 :: sk) e h R = (vc2 C n c_laws_FnExactKnownAfter_o5 sk e h R) := nr rfl
@[simp, simp ↓] theorem c_laws_FnExactKnownAfter_9_r : vc2 C (n + 1) [] (.code c_laws_FnExactKnownAfter_9 :: sk) e h R = (vc2 C n c_laws_FnExactKnownAfter_o6 sk e h R) := nr rfl
@[simp, simp ↓] theorem c_laws_FnExactKnownAfter_10_r : vc2 C (n + 1) [] (.code c_laws_FnExactKnownAfter_10 :: sk) e h R = (vc2 C n c_laws_FnExactKnownAfter_o7 sk e h R) := nr rfl
@[simp, simp ↓] theorem c_laws_FnExactKnownAfter_11_r : vc2 C (n + 1) [] (.code c_laws_FnExactKnownAfter_11 :: sk) e h R = (vc2 C n [] (.code c_laws_FnExactKnownAfter_10 :: .code .ret :: sk) e h R) := nr rfl
@[simp, simp ↓] theorem c_laws_FnExactKnownAfter_12_r : vc2 C (n + 1) [] (.code c_laws_FnExactKnownAfter_12 :: sk) e h R = (condK (ev e (.t 30)) (vc2 C n [] (.code c_laws_FnExactKnownAfter_11 :: sk) e h R) (vc2 C n [] (.code .skip :: sk) e h R)) := nr rfl
@[simp, simp ↓] theorem c_laws_FnExactKnownAfter_13_r : vc2 C (n + 1) [] (.code c_laws_FnExactKnownAfter_13 :: sk) e h R = (vc2 C n [] (.code c_laws_FnExactKnownAfter_9 :: .code c_laws_FnExactKnownAfter_12 :: sk) e h R) := nr rfl
@[simp, simp ↓] theorem c_laws_FnExactKnownAfter_14_r : vc2 C (n + 1) [] (.code c_laws_FnExactKnownAfter_14 :: sk) e h R = (vc2 C n c_laws_FnExactKnownAfter_o8 sk e h R) := nr rfl
@[simp, simp ↓] theorem c_laws_FnExactKnownAfter_15_r : vc2 C (n + 1) [] (.code c_laws_FnExactKnownAfter_15 :: sk) e h R = (vc2 C n c_laws_FnExactKnownAfter_o9 sk e h R) := nr rfl
@[simp, simp ↓] theorem c_laws_FnExactKnownAfter_16_r : vc2 C (n + 1) [] (.code c_laws_FnExactKnownAfter_16 :: sk) e h R = (vc2 C n c_laws_FnExactKnownAfter_o10 sk e h R) := nr rfl
@[simp, simp ↓] theorem c_laws_FnExactKnownAfter_17_r : vc2 C (n + 1) [] (.code c_laws_FnExactKnownAfter_17 :: sk) e h R = (vc2 C n c_laws_FnExactKnownAfter_o11 sk e h R) := nr rfl
@[simp, simp ↓] theorem c_laws_FnExactKnownAfter_18_r : vc2 C (n + 1) [] (.code c_laws_FnExactKnownAfter_18 :: sk) e h R = (vc2 C n c_laws_FnExactKnownAfter_o12 sk e h R) := nr rfl
@[simp, simp ↓] theorem c_laws_FnExactKnownAfter_19_r : vc2 C (n + 1) [] (.code c_laws_FnExactKnownAfter_19 :: sk) e h R = (vc2 C n c_laws_FnExactKnownAfter_o13 sk e h R) := nr rfl
@[simp, simp ↓] theorem c_laws_FnExactKnownAfter_20_r : vc2 C (n + 1) [] (.code c_laws_FnExactKnownAfter_20 :: sk) e h R = (vc2 C n [] (.code c_laws_FnExactKnownAfter_19 :: .code .ret :: sk) e h R) := nr rfl
@[simp, simp ↓] theorem c_laws_FnExactKnownAfter_21_r : vc2 C (n + 1) [] (.code c_laws_FnExactKnownAfter_21 :: sk) e h R = (condK (ev e (.t 61)) (vc2 C n [] (.code c_laws_FnExactKnownAfter_20 :: sk) e h R) (vc2 C n [] (.code .skip :: sk) e h R)) := nr rfl
@[simp, simp ↓] theorem c_laws_FnExactKnownAfter_22_r : vc2 C (n + 1) [] (.code c_laws_FnExactKnownAfter_22 :: sk) e h R = (vc2 C n [] (.code c_laws_FnExactKnownAfter_18 :: .code c_laws_FnExactKnownAfter_21 :: sk) e h R) := nr rfl
@[simp, simp ↓] theorem c_laws_FnExactKnownAfter_23_r : vc2 C (n + 1) [] (.code c_laws_FnExactKnownAfter_23 :: sk) e h R = (draw2 C h (vK C n [] sk R h) c_laws_FnExactKnownAfter_o14 e) := nr rfl
@[simp, simp ↓] theorem c_laws_FnExactKnownAfter_24_r : vc2 C (n + 1) [] (.code c_laws_FnExactKnownAfter_24 :: sk) e h R = (vc2 C n c_laws_FnExactKnownAfter_o15 sk e h R) := nr rfl
@[simp, simp ↓] theorem c_laws_FnExactKnownAfter_25_r : vc2 C (n + 1) [] (.code c_laws_FnExactKnownAfter_25 :: sk) e h R = (vc2 C n [] (.code c_laws_FnExactKnownAfter_24 :: .code .ret :: sk) e h R) := nr rfl
@[simp, simp ↓] theorem c_laws_FnExactKnownAfter_26_r : vc2 C (n + 1) [] (.code c_laws_FnExactKnownAfter_26 :: sk) e h R = (condK (ev e (.t 66)) (vc2 C n [] (.code c_laws_FnExactKnownAfter_25 :: sk) e h R) (vc2 C n [] (.code .skip :: sk) e h R)) := nr rfl
@[simp, simp ↓] theorem c_laws_FnExactKnownAfter_27_r : vc2 C (n + 1) [] (.code c_laws_FnExactKnownAfter_27 :: sk) e h R = (vc2 C n [] (.code c_laws_FnExactKnownAfter_23 :: .code c_laws_FnExactKnownAfter_26 :: sk) e h R) := nr rfl
@[simp, simp ↓] theorem c_laws_FnExactKnownAfter_28_r : vc2 C (n + 1) [] (.code c_laws_FnExactKnownAfter_28 :: sk) e h R = (vc2 C n c_laws_FnExactKnownAfter_o16 sk e h R) := nr rfl
@[simp, simp ↓] theorem c_laws_FnExactKnownAfter_29_r : vc2 C (n + 1) [] (.code c_laws_FnExactKnownAfter_29 :: sk) e h R = (vc2 C n c_laws_FnExactKnownAfter_o17 sk e h R) := nr rfl
@[simp, simp ↓] theorem c_laws_FnExactKnownAfter_30_r : vc2 C (n + 1) [] (.code c_laws_FnExactKnownAfter_30 :: sk) e h R = (vc2 C n [] (.code c_laws_FnExactKnownAfter_29 :: .code .ret :: sk) e h R) := nr rfl
@[simp, simp ↓] theorem c_laws_FnExactKnownAfter_31_r : vc2 C (n + 1) [] (.code c_laws_FnExactKnownAfter_31 :: sk) e h R = (condK (ev e (.t 71)) (vc2 C n [] (.code c_laws_FnExactKnownAfter_30 :: sk) e h R) (vc2 C n [] (.code .skip :: sk) e h R)) := nr rfl
@[simp, simp ↓] theorem c_laws_FnExactKnownAfter_32_r : vc2 C (n + 1) [] (.code c_laws_FnExactKnownAfter_32 :: sk) e h R = (vc2 C n [] (.code c_laws_FnExactKnownAfter_28 :: .code c_laws_FnExactKnownAfter_31 :: sk) e h R) := nr rfl
@[simp, simp ↓] theorem c_laws_FnExactKnownAfter_33_r : vc2 C (n + 1) [] (.code c_laws_FnExactKnownAfter_33 :: sk) e h R = (vc2 C n c_laws_FnExactKnownAfter_o18 sk e h R) := nr rfl
@[simp, simp ↓] theorem c_laws_FnExactKnownAfter_34_r : vc2 C (n + 1) [] (.code c_laws_FnExactKnownAfter_34 :: sk) e h R = (vc2 C n c_laws_FnExactKnownAfter_o19 sk e h R) := nr rfl
@[simp, simp ↓] theorem c_laws_FnExactKnownAfter_35_r : vc2 C (n + 1) [] (.code c_laws_FnExactKnownAfter_35 :: sk) e h R = (vc2 C n c_laws_FnExactKnownAfter_o20 sk e h R) := nr rfl
@[simp, simp ↓] theorem c_laws_FnExactKnownAfter_36_r : vc2 C (n + 1) [] (.code c_laws_FnExactKnownAfter_36 :: sk) e h R = (vc2 C n c_laws_FnExactKnownAfter_o21 sk e h R) := nr rfl
@[simp, simp ↓] theorem c_laws_FnExactKnownAfter_37_r : vc2 C (n + 1) [] (.code c_laws_FnExactKnownAfter_37 :: sk) e h R = (vc2 C n c_laws_FnExactKnownAfter_o22 sk e h R) := nr rfl
@[simp, simp ↓] theorem c_laws_FnExactKnownAfter_38_r : vc2 C (n + 1) [] (.code c_laws_FnExactKnownAfter_38 :: sk) e h R = (vc2 C n [] (.code c_laws_FnExactKnownAfter_37 :: .code .ret :: sk) e h R) := nr rfl
@[simp, simp ↓] theorem c_laws_FnExactKnownAfter_39_r : vc2 C (n + 1) [] (.code c_laws_FnExactKnownAfter_39 :: sk) e h R = (condK (ev e (.t 90)) (vc2 C n [] (.code c_laws_FnExactKnownAfter_38 :: sk) e h R) (vc2 C n [] (.code .skip :: sk) e h R)) := nr rfl
@[simp, simp ↓] theorem c_laws_FnExactKnownAfter_40_r : vc2 C (n + 1) [] (.code c_laws_FnExactKnownAfter_40 :: sk) e h R = (vc2 C n [] (.code c_laws_FnExactKnownAfter_36 :: .code c_laws_FnExactKnownAfter_39 :: sk) e h R) := nr rfl
@[simp, simp ↓] theorem c_laws_FnExactKnownAfter_41_r : vc2 C (n + 1) [] (.code c_laws_FnExactKnownAfter_41 :: sk) e h R = (vc2 C n c_laws_FnExactKnownAfter_o23 sk e h R) := nr rfl
@[simp, simp ↓] theorem c_laws_FnExactKnownAfter_42_r : vc2 C (n + 1) [] (.code c_laws_FnExactKnownAfter_42 :: sk) e h R = (vc2 C n c_laws_FnExactKnownAfter_o24 sk e h R) := nr rfl
@[simp, simp ↓] theorem c_laws_FnExactKnownAfter_43_r : vc2 C (n + 1) [] (.code c_laws_FnExactKnownAfter_43 :: sk) e h R = (vc2 C n c_laws_FnExactKnownAfter_o25 sk e h R) := nr rfl
@[simp, simp ↓] theorem c_laws_FnExactKnownAfter_44_r : vc2 C (n + 1) [] (.code c_laws_FnExactKnownAfter_44 :: sk) e h R = (vc2 C n c_laws_FnExactKnownAfter_o26 sk e h R) := nr rfl
@[simp, simp ↓] theorem c_laws_FnExactKnownAfter_45_r : vc2 C (n + 1) [] (.code c_laws_FnExactKnownAfter_45 :: sk) e h R = (vc2 C n c_laws_FnExactKnownAfter_o27 sk e h R) := nr rfl
@[simp, simp ↓] theorem c_laws_FnExactKnownAfter_46_r : vc2 C (n + 1) [] (.code c_laws_FnExactKnownAfter_46 :: sk) e h R = (vc2 C n c_laws_FnExactKnownAfter_o28 sk e h R) := nr rfl
@[simp, simp ↓] theorem c_laws_FnExactKnownAfter_47_r : vc2 C (n + 1) [] (.code c_laws_FnExactKnownAfter_47 :: sk) e h R = (vc2 C n [] (.code c_laws_FnExactKnownAfter_46 :: .code .ret :: sk) e h R) := nr rfl
@[simp, simp ↓] theorem c_laws_FnExactKnownAfter_48_r : vc2 C (n + 1) [] (.code c_laws_FnExactKnownAfter_48 :: sk) e h R = (condK (ev e (.t 98)) (vc2 C n [] (.code c_laws_FnExactKnownAfter_47 :: sk) e h R) (vc2 C n [] (.code .skip :: sk) e h R)) := nr rfl
@[simp, simp ↓] theorem c_laws_FnExactKnownAfter_49_r : vc2 C (n + 1) [] (.code c_laws_FnExactKnownAfter_49 :: sk) e h R = (vc2 C n [] (.code c_laws_FnExactKnownAfter_45 :: .code c_laws_FnExactKnownAfter_48 :: sk) e h R) := nr rfl
@[simp, simp ↓] theorem c_laws_FnExactKnownAfter_50_r : vc2 C (n + 1) [] (.code c_laws_FnExactKnownAfter_50 :: sk) e h R = (vc2 C n c_laws_FnExactKnownAfter_o29 sk e h R) := nr rfl
@[simp, simp ↓] theorem c_laws_FnExactKnownAfter_51_r : vc2 C (n + 1) [] (.code c_laws_FnExactKnownAfter_51 :: sk) e h R = (vc2 C n c_laws_FnExactKnownAfter_o30 sk e h R) := nr rfl
@[simp, simp ↓] theorem c_laws_FnExactKnownAfter_52_r : vc2 C (n + 1) [] (.code c_laws_FnExactKnownAfter_52 :: sk) e h R = (vc2 C n [] (.code c_laws_FnExactKnownAfter_51 :: .code .ret :: sk) e h R) := nr rfl
@[simp, simp ↓] theorem c_laws_FnExactKnownAfter_53_r : vc2 C (n + 1) [] (.code c_laws_FnExactKnownAfter_53 :: sk) e h R = (condK (ev e (.t 101)) (vc2 C n [] (.code c_laws_FnExactKnownAfter_52 :: sk) e h R) (vc2 C n [] (.code .skip :: sk) e h R)) := nr rfl
@[simp, simp ↓] theorem c_laws_FnExactKnownAfter_54_r : vc2 C (n + 1) [] (.code c_laws_FnExactKnownAfter_54 :: sk) e h R = (vc2 C n [] (.code c_laws_FnExactKnownAfter_50 :: .code c_laws_FnExactKnownAfter_53 :: sk) e h R) := nr rfl
@[simp, simp ↓] theorem c_laws_FnExactKnownAfter_55_r : vc2 C (n + 1) [] (.code c_laws_FnExactKnownAfter_55 :: sk) e h R = (vc2 C n c_laws_FnExactKnownAfter_o31 sk e h R) := nr rfl
@[simp, simp ↓] theorem c_laws_FnExactKnownAfter_56_r : vc2 C (n + 1) [] (.code c_laws_FnExactKnownAfter_56 :: sk) e h R = (vc2 C n c_laws_FnExactKnownAfter_o32 sk e h R) := nr rfl
@[simp, simp ↓] theorem c_laws_FnExactKnownAfter_57_r : vc2 C (n + 1) [] (.code c_laws_FnExactKnownAfter_57 :: sk) e h R = (vc2 C n c_laws_FnExactKnownAfter_o33 sk e h R) := nr rfl
@[simp, simp ↓] theorem c_laws_FnExactKnownAfter_58_r : vc2 C (n + 1) [] (.code c_laws_FnExactKnownAfter_58 :: sk) e h R = (vc2 C n [] (.code c_laws_FnExactKnownAfter_57 :: .code .ret :: sk) e h R) := nr rfl
@[simp, simp ↓] theorem c_laws_FnExactKnownAfter_59_r : vc2 C (n + 1) [] (.code c_laws_FnExactKnownAfter_59 :: sk) e h R = (condK (ev e (.t 120)) (vc2 C n [] (.code c_laws_FnExactKnownAfter_58 :: sk) e h R) (vc2 C n [] (.code .skip :: sk) e h R)) := nr rfl
@[simp, simp ↓] theorem c_laws_FnExactKnownAfter_60_r : vc2 C (n + 1) [] (.code c_laws_FnExactKnownAfter_60 :: sk) e h R = (vc2 C n [] (.code c_laws_FnExactKnownAfter_56 :: .code c_laws_FnExactKnownAfter_59 :: sk) e h R) := nr rfl
@[simp, simp ↓] theorem c_laws_FnExactKnownAfter_61_r : vc2 C (n + 1) [] (.code c_laws_FnExactKnownAfter_61 :: sk) e h R = (vc2 C n c_laws_FnExactKnownAfter_o34 sk e h R) := nr rfl
@[simp, simp ↓] theorem c_laws_FnExactKnownAfter_62_r : vc2 C (n + 1) [] (.code c_laws_FnExactKnownAfter_62 :: sk) e h R = (vc2 C n c_laws_FnExactKnownAfter_o35 sk e h R) := nr rfl
@[simp, simp ↓] theorem c_laws_FnExactKnownAfter_63_r : vc2 C (n + 1) [] (.code c_laws_FnExactKnownAfter_63 :: sk) e h R = (vc2 C n c_laws_FnExactKnownAfter_o36 sk e h R) := nr rfl
@[simp, simp ↓] theorem c_laws_FnExactKnownAfter_64_r : vc2 C (n + 1) [] (.code c_laws_FnExactKnownAfter_64 :: sk) e h R = (vc2 C n c_laws_FnExactKnownAfter_o37 sk e h R) := nr rfl
@[simp, simp ↓] theorem c_laws_FnExactKnownAfter_65_r : vc2 C (n + 1) [] (.code c_laws_FnExactKnownAfter_65 :: sk) e h R = (vc2 C n [] (.code c_laws_FnExactKnownAfter_64 :: .code .ret :: sk) e h R) := nr rfl
@[simp, simp ↓] theorem c_laws_FnExactKnownAfter_66_r : vc2 C (n + 1) [] (.code c_laws_FnExactKnownAfter_66 :: sk) e h R = (condK (ev e (.t 125)) (vc2 C n [] (.code c_laws_FnExactKnownAfter_65 :: sk) e h R) (vc2 C n [] (.code .skip :: sk) e h R)) := nr rfl
@[simp, simp ↓] theorem c_laws_FnExactKnownAfter_67_r : vc2 C (n + 1) [] (.code c_laws_FnExactKnownAfter_67 :: sk) e h R = (vc2 C n [] (.code c_laws_FnExactKnownAfter_63 :: .code c_laws_FnExactKnownAfter_66 :: sk) e h R) := nr rfl
@[simp, simp ↓] theorem c_laws_FnExactKnownAfter_68_r : vc2 C (n + 1) [] (.code c_laws_FnExactKnownAfter_68 :: sk) e h R = (vc2 C n c_laws_FnExactKnownAfter_o38 sk e h R) := nr rfl
@[simp, simp ↓] theorem c_laws_FnExactKnownAfter_69_r : vc2 C (n + 1) [] (.code c_laws_FnExactKnownAfter_69 :: sk) e h R = (vc2 C n c_laws_FnExactKnownAfter_o39 sk e h R) := nr rfl
@[simp, simp ↓] theorem c_laws_FnExactKnownAfter_70_r : vc2 C (n + 1) [] (.code c_laws_FnExactKnownAfter_70 :: sk) e h R = (vc2 C n [] (.code c_laws_FnExactKnownAfter_69 :: .code .ret :: sk) e h R) := nr rfl
@[simp, simp ↓] theorem c_laws_FnExactKnownAfter_71_r : vc2 C (n + 1) [] (.code c_laws_FnExactKnownAfter_71 :: sk) e h R = (condK (ev e (.t 128)) (vc2 C n [] (.code c_laws_FnExactKnownAfter_70 :: sk) e h R) (vc2 C n [] (.code .skip :: sk) e h R)) := nr rfl
@[simp, simp ↓] theorem c_laws_FnExactKnownAfter_72_r : vc2 C (n + 1) [] (.code c_laws_FnExactKnownAfter_72 :: sk) e h R = (vc2 C n [] (.code c_laws_FnExactKnownAfter_68 :: .code c_laws_FnExactKnownAfter_71 :: sk) e h R) := nr rfl
@[simp, simp ↓] theorem c_laws_FnExactKnownAfter_73_r : vc2 C (n + 1) [] (.code c_laws_FnExactKnownAfter_73 :: sk) e h R = (vc2 C n c_laws_FnExactKnownAfter_o40 sk e h R) := nr rfl
@[simp, simp ↓] theorem c_laws_FnExactKnownAfter_74_r : vc2 C (n + 1) [] (.code c_laws_FnExactKnownAfter_74 :: sk) e h R = (vc2 C n [] (.code c_laws_FnExactKnownAfter_73 :: .code .ret :: sk) e h R) := nr rfl
@[simp, simp ↓] theorem c_laws_FnExactKnownAfter_75_r : vc2 C (n + 1) [] (.code c_laws_FnExactKnownAfter_75 :: sk) e h R = (vc2 C n [] (.code c_laws_FnExactKnownAfter_72 :: .code c_laws_FnExactKnownAfter_74 :: sk) e h R) := nr rfl
@[simp, simp ↓] theorem c_laws_FnExactKnownAfter_76_r : vc2 C (n + 1) [] (.code c_laws_FnExactKnownAfter_76 :: sk) e h R = (vc2 C n [] (.code c_laws_FnExactKnownAfter_67 :: .code c_laws_FnExactKnownAfter_75 :: sk) e h R) := nr rfl
@[simp, simp ↓] theorem c_laws_FnExactKnownAfter_77_r : vc2 C (n + 1) [] (.code c_laws_FnExactKnownAfter_77 :: sk) e h R = (vc2 C n [] (.code c_laws_FnExactKnownAfter_62 :: .code c_laws_FnExactKnownAfter_76 :: sk) e h R) := nr rfl
@[simp, simp ↓] theorem c_laws_FnExactKnownAfter_78_r : vc2 C (n + 1) [] (.code c_laws_FnExactKnownAfter_78 :: sk) e h R = (vc2 C n [] (.code c_laws_FnExactKnownAfter_61 :: .code c_laws_FnExactKnownAfter_77 :: sk) e h R) := nr rfl
@[simp, simp ↓] theorem c_laws_FnExactKnownAfter_79_r : vc2 C (n + 1) [] (.code c_laws_FnExactKnownAfter_79 :: sk) e h R = (vc2 C n [] (.code c_laws_FnExactKnownAfter_60 :: .code c_laws_FnExactKnownAfter_78 :: sk) e h R) := nr rfl
@[simp, simp ↓] theorem c_laws_FnExactKnownAfter_80_r : vc2 C (n + 1) [] (.code c_laws_FnExactKnownAfter_80 :: sk) e h R = (vc2 C n [] (.code c_laws_FnExactKnownAfter_55 :: .code c_laws_FnExactKnownAfter_79 :: sk) e h R) := nr rfl
@[simp, simp ↓] theorem c_laws_FnExactKnownAfter_81_r : vc2 C (n + 1) [] (.code c_laws_FnExactKnownAfter_81 :: sk) e h R = (vc2 C n [] (.code c_laws_FnExactKnownAfter_54 :: .code c_laws_FnExactKnownAfter_80 :: sk) e h R) := nr rfl
@[simp, simp ↓] theorem c_laws_FnExactKnownAfter_82_r : vc2 C (n + 1) [] (.code c_laws_FnExactKnownAfter_82 :: sk) e h R = (vc2 C n [] (.code c_laws_FnExactKnownAfter_49 :: .code c_laws_FnExactKnownAfter_81 :: sk) e h R) := nr rfl
@[simp, simp ↓] theorem c_laws_FnExactKnownAfter_83_r : vc2 C (n + 1) [] (.code c_laws_FnExactKnownAfter_83 :: sk) e h R = (vc2 C n [] (.code c_laws_FnExactKnownAfter_44 :: .code c_laws_FnExactKnownAfter_82 :: sk) e h R) := nr rfl
@[simp, simp ↓] theorem c_laws_FnExactKnownAfter_84_r : vc2 C (n + 1) [] (.code c_laws_FnExactKnownAfter_84 :: sk) e h R = (vc2 C n [] (.code c_laws_FnExactKnownAfter_43 :: .code c_laws_FnExactKnownAfter_83 :: sk) e h R) := nr rfl
@[simp, simp ↓] theorem c_laws_FnExactKnownAfter_85_r : vc2 C (n + 1) [] (.code c_laws_FnExactKnownAfter_85 :: sk) e h R = (vc2 C n [] (.code c_laws_FnExactKnownAfter_42 :: .code c_laws_FnExactKnownAfter_84 :: sk) e h R) := nr rfl
@[simp, simp ↓] theorem c_laws_FnExactKnownAfter_86_r : vc2 C (n + 1) [] (.code c_laws_FnExactKnownAfter_86 :: sk) e h R = (vc2 C n [] (.code c_laws_FnExactKnownAfter_41 :: .code c_laws_FnExactKnownAfter_85 :: sk) e h R) := nr rfl
@[simp, simp ↓] theorem c_laws_FnExactKnownAfter_87_r : vc2 C (n + 1) [] (.code c_laws_FnExactKnownAfter_87 :: sk) e h R = (vc2 C n [] (.code c_laws_FnExactKnownAfter_40 :: .code c_laws_FnExactKnownAfter_86 :: sk) e h R) := nr rfl
@[simp, simp ↓] theorem c_laws_FnExactKnownAfter_88_r : vc2 C (n + 1) [] (.code c_laws_FnExactKnownAfter_88 :: sk) e h R = (vc2 C n [] (.code c_laws_FnExactKnownAfter_35 :: .code c_laws_FnExactKnownAfter_87 :: sk) e h R) := nr rfl
@[simp, simp ↓] theorem c_laws_FnExactKnownAfter_89_r : vc2 C (n + 1) [] (.code c_laws_FnExactKnownAfter_89 :: sk) e h R = (vc2 C n [] (.code c_laws_FnExactKnownAfter_34 :: .code c_laws_FnExactKnownAfter_88 :: sk) e h R) := nr rfl
@[simp, simp ↓] theorem c_laws_FnExactKnownAfter_90_r : vc2 C (n + 1) [] (.code c_laws_FnExactKnownAfter_90 :: sk) e h R = (vc2 C n [] (.code c_laws_FnExactKnownAfter_33 :: .code c_laws_FnExactKnownAfter_89 :: sk) e h R) := nr rfl
@[simp, simp ↓] theorem c_laws_FnExactKnownAfter_91_r : vc2 C (n + 1) [] (.code c_laws_FnExactKnownAfter_91 :: sk) e h R = (vc2 C n [] (.code c_laws_FnExactKnownAfter_32 :: .code c_laws_FnExactKnownAfter_90 :: sk) e h R) := nr rfl
@[simp, simp ↓] theorem c_laws_FnExactKnownAfter_92_r : vc2 C (n + 1) [] (.code c_laws_FnExactKnownAfter_92 :: sk) e h R = (vc2 C n [] (.code c_laws_FnExactKnownAfter_27 :: .code c_laws_FnExactKnownAfter_91 :: sk) e h R) := nr rfl
@[simp, simp ↓] theorem c_laws_FnExactKnownAfter_93_r : vc2 C (n + 1) [] (.code c_laws_FnExactKnownAfter_93 :: sk) e h R = (vc2 C n [] (.code c_laws_FnExactKnownAfter_22 :: .code c_laws_FnExactKnownAfter_92 :: sk) e h R) := nr rfl
@[simp, simp ↓] theorem c_laws_FnExactKnownAfter_94_r : vc2 C (n + 1) [] (.code c_laws_FnExactKnownAfter_94 :: sk) e h R = (vc2 C n [] (.code c_laws_FnExactKnownAfter_17 :: .code c_laws_FnExactKnownAfter_93 :: sk) e h R) := nr rfl
@[simp, simp ↓] theorem c_laws_FnExactKnownAfter_95_r : vc2 C (n + 1) [] (.code c_laws_FnExactKnownAfter_95 :: sk) e h R = (vc2 C n [] (.code c_laws_FnExactKnownAfter_16 :: .code c_laws_FnExactKnownAfter_94 :: sk) e h R) := nr rfl
@[simp, simp ↓] theorem c_laws_FnExactKnownAfter_96_r : vc2 C (n + 1) [] (.code c_laws_FnExactKnownAfter_96 :: sk) e h R = (vc2 C n [] (.code c_laws_FnExactKnownAfter_15 :: .code c_laws_FnExactKnownAfter_95 :: sk) e h R) := nr rfl
@[simp, simp ↓] theorem c_laws_FnExactKnownAfter_97_r : vc2 C (n + 1) [] (.code c_laws_FnExactKnownAfter_97 :: sk) e h R = (vc2 C n [] (.code c_laws_FnExactKnownAfter_14 :: .code c_laws_FnExactKnownAfter_96 :: sk) e h R) := nr rfl
@[simp, simp ↓] theorem c_laws_FnExactKnownAfter_98_r : vc2 C (n + 1) [] (.code c_laws_FnExactKnownAfter_98 :: sk) e h R = (vc2 C n [] (.code c_laws_FnExactKnownAfter_13 :: .code c_laws_FnExactKnownAfter_97 :: sk) e h R) := nr rfl
@[simp, simp ↓] theorem c_laws_FnExactKnownAfter_99_r : vc2 C (n + 1) [] (.code c_laws_FnExactKnownAfter_99 :: sk) e h R = (vc2 C n [] (.code c_laws_FnExactKnownAfter_8 :: .code c_laws_FnExactKnownAfter_98 :: sk) e h R) := nr rfl
@[simp, simp ↓] theorem c_laws_FnExactKnownAfter_100_r : vc2 C (n + 1) [] (.code c_laws_FnExactKnownAfter_100 :: sk) e h R = (vc2 C n [] (.code c_laws_FnExactKnownAfter_7 :: .code c_laws_FnExactKnownAfter_99 :: sk) e h R) := nr rfl
@[simp, simp ↓] theorem c_laws_FnExactKnownAfter_101_r : vc2 C (n + 1) [] (.code c_laws_FnExactKnownAfter_101 :: sk) e h R = (vc2 C n [] (.code c_laws_FnExactKnownAfter_2 :: .code c_laws_FnExactKnownAfter_100 :: sk) e h R) := nr rfl
@[simp, simp ↓] theorem c_laws_FnExactKnownAfter_102_r : vc2 C (n + 1) [] (.code c_laws_FnExactKnownAfter_102 :: sk) e h R = (vc2 C n [] (.code c_laws_FnExactKnownAfter_1 :: .code c_laws_FnExactKnownAfter_101 :: sk) e h R) := nr rfl
@[simp, simp ↓] theorem c_laws_FnExactKnownAfter_103_r : vc2 C (n + 1) [] (.code c_laws_FnExactKnownAfter_103 :: sk) e h R = (vc2 C n [] (.code c_laws_FnExactKnownAfter_0 :: .code c_laws_FnExactKnownAfter_102 :: sk) e h R) := nr rfl
end
noncomputable def c_laws_FnExactKnownAfter_C (orc : Orc) : Cx := ⟨Try.prog, [12], 9, 129, [.tmp 8], orc⟩
@[simp] theorem c_laws_FnExactKnownAfter_C_P (orc : Orc) : (c_laws_FnExactKnownAfter_C orc).P = Try.prog := nr rfl
@[simp] theorem c_laws_FnExactKnownAfter_C_o (orc : Orc) : (c_laws_FnExactKnownAfter_C orc).orc = orc := nr rfl
@[simp] theorem c_laws_FnExactKnownAfter_C_r (orc : Orc) : (c_laws_FnExactKnownAfter_C orc).res = [.tmp 8] := nr rfl
theorem c_laws_FnExactKnownAfter_of {args : List AV} {h : Heap} {R : AV → Heap → Prop} {k : Nat} (ha : args.length = k) {orc : Orc} (hp : Pure Try.prog orc) (hk : Is (c_laws_FnExactKnownAfter_C orc) Try.f9 → Run2 (c_laws_FnExactKnownAfter_C orc) [.code c_laws_FnExactKnownAfter_103] (argEnv 0 args) h (Post R)) (hle : k ≤ 129 := by simp) : ACalls Try.prog 9 args h R :=
  contract2 [12] c_laws_FnExactKnownAfter_103 [.tmp 8] Try.func9 (by decide +kernel) rfl (by kernel_rfl) (by rw [ha]; exact hle) (by kernel_rfl) hp hk
theorem c_laws_FnExactKnownAfter_of0 {args : List AV} {h : Heap} {R : AV → Heap → Prop} {k : Nat} (ha : args.length = k) {orc : Orc} (hp : Pure Try.prog orc) (hk : Is (c_laws_FnExactKnownAfter_C orc) Try.f9 → Run2 (c_laws_FnExactKnownAfter_C orc) [.code c_laws_FnExactKnownAfter_103] (argEnv 0 args) h R) (hle : k ≤ 129 := by simp) : ACalls Try.prog 9 args h R :=
  contract20 [12] c_laws_FnExactKnownAfter_103 [.tmp 8] Try.func9 (by decide +kernel) rfl (by kernel_rfl) (by rw [ha]; exact hle) (by kernel_rfl) hp hk
theorem ka_law (x : Gr) (hx : x.wf) (r : LS) (hr : wfSS r) (y : Int) (hy : in64 y) (k : Int) (hk : in64 k) : ACalls Try.prog 9 [x.av, (.snap 1 (r.map il)), (.int .i64 y), (.int .i64 k)] [] (fun v h' => v = .bool true ∧ h' = []) := by
  refine c_laws_FnExactKnownAfter_of rfl orcM_p fun I => ?_
  have hx2_x := hx.2
  have hx2_r := hr
  refine Run2.of I 1000 ?_
  by_cases kx : (x.ts.length : Int) ≤ (1048576 : Int)
  · have hAx : ¬ (1048576 : Int) < x.ts.length := by omega
    have hBx : ¬ (1048576 : Int) - x.ts.length < 0 := by omega
    have hCx : (0 : Int) ≤ (1048576 : Int) - x.ts.length := by omega
    have lx : x.ts.length ≤ 1048576 := by omega
    have hDx : (1048576 : Int) - x.ts.length ≤ 1048576 := by omega
    by_cases kr : ((ssTot r) : Int) ≤ ((1048576 : Int) - x.ts.length)
    · have hAr : ¬ ((1048576 : Int) - x.ts.length) < (ssTot r) := by omega
      have hBr : ¬ ((1048576 : Int) - x.ts.length) - (ssTot r) < 0 := by omega
      have hCr : (0 : Int) ≤ ((1048576 : Int) - x.ts.length) - (ssTot r) := by omega
      have lr : (ssTot r) ≤ 1048576 := by omega
      have hDr : ((1048576 : Int) - x.ts.length) - (ssTot r) ≤ 1048576 := by omega
      have he := x.kL_len r y k
      have hsr := (show sumL r ≤ ssTot r by unfold ssTot; omega)
      simp -implicitDefEqProofs [hx2_x, hx2_r, hAx, hBx, hCx, hDx, kx, hAr, hBr, hCr, hDr, kr]
      first | refine dcallK (toGraph_c x _ lx) ?_ | (refine (toGraph_c x _ lx).mono ?_; rintro v h' ⟨rfl, rfl⟩; refine gK.go ?_)
      simp -implicitDefEqProofs
      first | refine dcallK (toInt64SS_t r _ lr) ?_ | (refine (toInt64SS_t r _ lr).mono ?_; rintro v h' ⟨rfl, rfl⟩; refine gK.go ?_)
      simp -implicitDefEqProofs
      first | refine dcallK (specKA_c x r y k _ lx hx.1 lr) ?_ | (refine (specKA_c x r y k _ lx hx.1 lr).mono ?_; rintro v h' ⟨rfl, rfl⟩; refine gK.go ?_)
      simp -implicitDefEqProofs
      refine (toGraph_o x _ lx).monoN ?_
      rintro v0 h' ⟨g0, o0, d0, rfl⟩ n0
      obtain ⟨u0, rfl, ou0⟩ := id o0
      have c0 := ou0.cell
      refine gK.go ?_
      simp -implicitDefEqProofs [c0]
      refine (toInt64SS_n r _ lr).monoN ?_
      rintro v1 h' ⟨g1, o1, d1, rfl⟩ n1
      refine gK.go ?_
      simp -implicitDefEqProofs [c0]
      have L0 := o0.lentIn (L := (g1 ++ g0)) (fun p hp => List.mem_append_right _ (hp)) n1
      have L1 := o1.lentMid (A := []) (B := g0) (by simpa only [List.nil_append, List.append_nil, List.append_assoc] using n1)
      refine (ACalls.gives (g1 ++ g0) (fun p hp => hp) (S := fun v h' => ∃ w, v = .tup [w, .int .i64 (x.kCode r y k)] ∧ OwnL iv 1 w (x.kL r y k) h') ?_ ?_).monoN ?_
      · rw [lend_cons, lend_cons, lend_cons, lend_cons, lend_nil', lend1_cold (g1 ++ g0) (x := (.int .i64 y)) rfl, lend1_cold (g1 ++ g0) (x := (.int .i64 k)) rfl]
        exact ACalls.wk (.cons L0.wk (.cons L1.wk (.cons (.refl _) (.cons (.refl _) .nil)))) (implKA_o x r y k lx hx.1 lr)
      · rintro v h' ⟨w, rfl, ho⟩
        have := ho.own own_iv1
        exact ⟨by simp [own, owns, this.1], this.2⟩
      rintro v h' ⟨gg, ⟨w, rfl, og⟩, dg, rfl⟩ ng
      refine gK.go ?_
      simp -implicitDefEqProofs [c0]
      first | refine dcallK (eqI_own og (.snap (x.kL r y k)) (fun p hp => List.mem_append_left _ hp) (show (x.kL r y k).length ≤ 1048576 by omega)) ?_ | (refine (eqI_own og (.snap (x.kL r y k)) (fun p hp => List.mem_append_left _ hp) (show (x.kL r y k).length ≤ 1048576 by omega)).mono ?_; rintro v h' ⟨rfl, rfl⟩; refine gK.go ?_)
      simp -implicitDefEqProofs [c0]
      first | refine dcallK (toGraph_c x _ lx) ?_ | (refine (toGraph_c x _ lx).mono ?_; rintro v h' ⟨rfl, rfl⟩; refine gK.go ?_)
      simp -implicitDefEqProofs [c0]
      first | refine dcallK (eqG_own o0 x.is (fun p hp => List.mem_append_right _ (List.mem_append_right _ (hp))) lx) ?_ | (refine (eqG_own o0 x.is (fun p hp => List.mem_append_right _ (List.mem_append_right _ (hp))) lx).mono ?_; rintro v h' ⟨rfl, rfl⟩; refine gK.go ?_)
      simp -implicitDefEqProofs [c0]
      first | refine dcallK (toInt64SS_t r _ lr) ?_ | (refine (toInt64SS_t r _ lr).mono ?_; rintro v h' ⟨rfl, rfl⟩; refine gK.go ?_)
      simp -implicitDefEqProofs [c0]
      first | refine dcallK (eqL_own o1 (.is r) (fun p hp => List.mem_append_right _ (List.mem_append_left _ hp)) lr) ?_ | (refine (eqL_own o1 (.is r) (fun p hp => List.mem_append_right _ (List.mem_append_left _ hp)) lr).mono ?_; rintro v h' ⟨rfl, rfl⟩; refine gK.go ?_)
      simp -implicitDefEqProofs [c0]
      refine (markG_drop o0 (gg ++ g1) (fun p hp => List.mem_append_right _ (List.mem_append_right _ (hp))) ?_ ?_ (1) (by omega) (by omega)).monoN ?_
      · simpa only [List.append_assoc] using keepL (a := (gg ++ g1)) (b := g0) (by simpa only [List.append_assoc] using ng)
      · exact fun nd => nodupL (a := (gg ++ g1)) (b := g0) (by simpa only [List.append_assoc] using nd)
      rintro _ _ ⟨e1, e2⟩ nk0
      rw [e1, e2]; rw [e2] at nk0
      refine gK.go ?_
      simp -implicitDefEqProofs [c0]
      refine (markL_drop o1 gg (fun p hp => List.mem_append_right _ (hp)) ?_ ?_ (1 + 3 * (x.ts.length : Int)) (by omega) (by omega)).monoN ?_
      · simpa only [List.append_assoc] using keepL (a := gg) (b := g1) (by simpa only [List.append_assoc] using nk0)
      · exact fun nd => nodupL (a := gg) (b := g1) (by simpa only [List.append_assoc] using nd)
      rintro _ _ ⟨e1, e2⟩ nk1
      rw [e1, e2]; rw [e2] at nk1
      refine gK.go ?_
      have hk : ¬ (1 + 3 * (x.ts.length : Int) + (sumL r : Int)) < 0 := by omega
      simp -implicitDefEqProofs [c0, hk]
      first | refine dcallK (eqI_own og (.snap (x.kL r y k)) (fun p hp => hp) (show (x.kL r y k).length ≤ 1048576 by omega)) ?_ | (refine (eqI_own og (.snap (x.kL r y k)) (fun p hp => hp) (show (x.kL r y k).length ≤ 1048576 by omega)).mono ?_; rintro v h' ⟨rfl, rfl⟩; refine gK.go ?_)
      simp -implicitDefEqProofs [c0]
      skip
      refine (markI_keep og [] (fun p hp => hp) keepN (fun _ => by simp [dom]) 1 (by omega) (by have := (show (x.kL r y k).length ≤ 1048576 by omega); omega)).mono ?_
      rintro _ _ ⟨gm, rfl, om, rfl⟩
      refine gK.go ?_
      simp -implicitDefEqProofs [c0]
      have hq : ¬ (1 + ((x.kL r y k).length : Int) < 0) := by omega
      first | refine dcallK (heldI_own om (fun p hp => hp) 1 (by omega) (by have := (show (x.kL r y k).length ≤ 1048576 by omega); simp; omega)) ?_ | (refine (heldI_own om (fun p hp => hp) 1 (by omega) (by have := (show (x.kL r y k).length ≤ 1048576 by omega); simp; omega)).mono ?_; rintro v h' ⟨rfl, rfl⟩; refine gK.go ?_)
      simp -implicitDefEqProofs [c0, hq]
      first | refine dcallK (toGraph_c x _ lx) ?_ | (refine (toGraph_c x _ lx).mono ?_; rintro v h' ⟨rfl, rfl⟩; refine gK.go ?_)
      simp -implicitDefEqProofs [c0]
      first | refine dcallK (toInt64SS_t r _ lr) ?_ | (refine (toInt64SS_t r _ lr).mono ?_; rintro v h' ⟨rfl, rfl⟩; refine gK.go ?_)
      simp -implicitDefEqProofs [c0]
      refine (ACalls.gives [] (by simp) (S := fun v h' => ∃ w, v = .tup [w, .int .i64 (x.kCode r y k)] ∧ OwnL iv 1 w (x.kL r y k) h') ?_ ?_).mono ?_
      · exact implKA_o x r y k lx hx.1 lr
      · rintro v h' ⟨w, rfl, ho⟩
        have := ho.own own_iv1
        exact ⟨by simp [own, owns, this.1], this.2⟩
      rintro _ _ ⟨g9, ⟨w9, rfl, o9⟩, d9, rfl⟩
      refine gK.go ?_
      simp -implicitDefEqProofs [c0, hq]
      first | refine dcallK (eqI_own o9 (.snap (x.kL r y k)) (fun p hp => List.mem_append_left _ hp) (show (x.kL r y k).length ≤ 1048576 by omega)) ?_ | (refine (eqI_own o9 (.snap (x.kL r y k)) (fun p hp => List.mem_append_left _ hp) (show (x.kL r y k).length ≤ 1048576 by omega)).mono ?_; rintro v h' ⟨rfl, rfl⟩; refine gK.go ?_)
      simp -implicitDefEqProofs [c0, hq]
      first | refine dcallK (heldI_own om (fun p hp => List.mem_append_right _ hp) 1 (by omega) (by have := (show (x.kL r y k).length ≤ 1048576 by omega); simp; omega)) ?_ | (refine (heldI_own om (fun p hp => List.mem_append_right _ hp) 1 (by omega) (by have := (show (x.kL r y k).length ≤ 1048576 by omega); simp; omega)).mono ?_; rintro v h' ⟨rfl, rfl⟩; refine gK.go ?_)
      simp -implicitDefEqProofs [c0, hq]
      exact Post.none ⟨rfl, rfl⟩
    · have hAr : ((1048576 : Int) - x.ts.length) < (ssTot r) := by omega
      simp -implicitDefEqProofs [hx2_x, hx2_r, hAx, hBx, hCx, hDx, kx, hAr]
      exact .base ⟨rfl, rfl⟩
  · have hAx : (1048576 : Int) < x.ts.length := by omega
    simp -implicitDefEqProofs [hx2_x, hx2_r, hAx]
    exact .base ⟨rfl, rfl⟩
end Go.AG
namespace Go.Proofs.Ytlncpnefkpfojaa
open Go.ChangeShapes Go.WideShapes Go.ChangeAt Go.RowKit Go.AG
theorem own : ownKnob Try.prog.godebug = none := by kernel_rfl
theorem laidOut : laidOutB Try.prog = true := by kernel_rfl
set_option maxRecDepth 100000 in
theorem fnExactKnownAfter_lifted (os : Os) (started : os.Started) (H : Type) (enc : TypeId × Value → H) :
    ReturnsInHanded {} Try.checked os 9 .any (Rows.fnExactKnownAfterSpec.pre6 enc Try.prog Try.f9 Rows.fnExactKnownAfterRow.domain false) (Rows.fnExactKnownAfterSpec.post enc Try.prog Try.f9 false true false false) := by
  refine returnsInHanded_of_change (C := Try.checked) own started (by kernel_rfl) Try.func9
    (ChangeSpec.witness6 (enc := enc) (C := Try.checked) false ⟨#[], #[.agg #[.int .i64 0, .slice none 0 0], .slice none 0 0, .int .i64 0, .int .i64 0], []⟩ 8 (by kernel_rfl) (by kernel_rfl) (by kernel_rfl) (by kernel_rfl)) ?_
  intro W base args ds gs before hval0 hW _ _
  have hval : ∀ (j : Nat) t v, Try.f9.params[j]? = some t → args[j]? = some v → Value.okWide Try.prog W .any base t v := hval0
  refine law_post (tys := [tyG, tySS, (.int .i64), (.int .i64)]) (tb := 4) laidOut rfl (by kernel_rfl) (by kernel_rfl) (by kernel_rfl) (by kernel_rfl) hval hW ?_ ?_
  · intro ds h
    match ds, h with
    | [a0, a1, a2, a3], _ => rfl
  · rintro xs ⟨x0, r0, rfl, h0, x1, r1, rfl, h1, x2, r2, rfl, h2, x3, r3, rfl, h3, hr⟩
    have hr0 : r3 = [] := hr
    subst hr0
    obtain ⟨p0, rfl, q0⟩ := Gr_of_shape h0
    obtain ⟨p1, rfl, q1⟩ := Lists_of_shape h1
    obtain ⟨p2, rfl, q2⟩ := Int_of_shape h2
    obtain ⟨p3, rfl, q3⟩ := Int_of_shape h3
    exact ka_law p0 q0 p1 q1 p2 q2 p3 q3
theorem fnExactKnownAfter_holds : Rows.FnExactKnownAfterSaid :=
  OpenClaim.holds_of_wide 9 Try.f9 rfl rfl rfl rfl rfl rfl rfl ⟨rfl, rfl, rfl, rfl, rfl⟩ rfl rfl rfl rfl rfl (by kernel_rfl) Try.func9 (by kernel_rfl)
    (of_decide_eq_true (by kernel_rfl)) (by unfold Func.isWrapper; first | (rw [if_pos (by decide +kernel)]; kernel_rfl) | (rw [if_neg (by decide +kernel)]; exact ⟨rfl, rfl⟩))
    (fun os started H enc _ => fnExactKnownAfter_lifted os started H enc)
end Go.Proofs.Ytlncpnefkpfojaa
