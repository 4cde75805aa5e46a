/- The law FnExactIdleNodes is true for every input: the program's IdleNodes returns what the reference's returns. -/
import Derived.Test.YtlncpnefkpfojaaCtIdle
import Derived.Test.YtlncpnefkpfojaaGrM
namespace Go.AG
open Go.Proofs Go.Proofs.Ytlncpnefkpfojaa
set_option linter.unusedSimpArgs false
set_option linter.unusedVariables false
set_option maxRecDepth 4000
noncomputable def orcM : List (Nat × (List AV → Option (Prop × AV))) := (15, o_szGraph) :: (28, o_szInt64SS) :: []
theorem orcM_p : Pure Try.prog (lk orcM) := (lk_pure o_szGraph_k (lk_pure o_szInt64SS_k lk_pure0))
@[simp] theorem orcM_l (g : FuncId) (l : List AV) : lk orcM g l = if g = 15 then o_szGraph l else if g = 28 then o_szInt64SS l else none := nr rfl
abbrev c_laws_FnExactIdleNodes_o0 : List AJ := [.o ⟨(some 3), none, false, .box false 2 (.t 0), none⟩, .o ⟨(some 6), none, false, .mv (.c (.bool false)), (some [1, 2, 3])⟩]
def c_laws_FnExactIdleNodes_0 : ACode := .region c_laws_FnExactIdleNodes_o0
abbrev c_laws_FnExactIdleNodes_o1 : List AJ := [.o ⟨(some 7), none, false, .mv (.c (.int .i64 1048576)), (some [1, 2, 3, 7])⟩]
def c_laws_FnExactIdleNodes_1 : ACode := .region c_laws_FnExactIdleNodes_o1
abbrev c_laws_FnExactIdleNodes_o2 : List AJ := [.o ⟨(some 19), none, false, .load 2 true (.t 3), none⟩, .o ⟨(some 20), none, false, .mv (.t 7), none⟩, .o ⟨(some 21), none, false, .call 15 [(.t 19), (.t 20)], none⟩, .o ⟨(some 7), none, false, .mv (.t 21), (some [1, 2, 3, 7])⟩]
def c_laws_FnExactIdleNodes_2 : ACode := .region c_laws_FnExactIdleNodes_o2
abbrev c_laws_FnExactIdleNodes_o3 : List AJ := [.o ⟨(some 22), none, false, .mv (.t 7), none⟩, .o ⟨(some 23), none, false, .bin .lss (.t 22) (.c (.int .i64 0)), (some [1, 2, 3, 7, 23])⟩]
def c_laws_FnExactIdleNodes_3 : ACode := .region c_laws_FnExactIdleNodes_o3
abbrev c_laws_FnExactIdleNodes_o4 : List AJ := [.o ⟨(some 6), none, false, .mv (.c (.bool true)), (some [6])⟩]
def c_laws_FnExactIdleNodes_4 : ACode := .region c_laws_FnExactIdleNodes_o4
def c_laws_FnExactIdleNodes_5 : ACode := .seq c_laws_FnExactIdleNodes_4 .ret
def c_laws_FnExactIdleNodes_6 : ACode := .cond (.t 23) c_laws_FnExactIdleNodes_5 .skip
def c_laws_FnExactIdleNodes_7 : ACode := .seq c_laws_FnExactIdleNodes_3 c_laws_FnExactIdleNodes_6
abbrev c_laws_FnExactIdleNodes_o5 : List AJ := [.o ⟨(some 24), none, false, .mv (.t 1), none⟩, .o ⟨(some 25), none, false, .mv (.t 7), none⟩, .o ⟨(some 26), none, false, .call 28 [(.t 24), (.t 25)], none⟩, .o ⟨(some 7), none, false, .mv (.t 26), (some [1, 2, 3, 7])⟩]
def c_laws_FnExactIdleNodes_8 : ACode := .region c_laws_FnExactIdleNodes_o5
abbrev c_laws_FnExactIdleNodes_o6 : List AJ := [.o ⟨(some 27), none, false, .mv (.t 7), none⟩, .o ⟨(some 28), none, false, .bin .lss (.t 27) (.c (.int .i64 0)), (some [1, 2, 3, 28])⟩]
def c_laws_FnExactIdleNodes_9 : ACode := .region c_laws_FnExactIdleNodes_o6
abbrev c_laws_FnExactIdleNodes_o7 : List AJ := [.o ⟨(some 6), none, false, .mv (.c (.bool true)), (some [6])⟩]
def c_laws_FnExactIdleNodes_10 : ACode := .region c_laws_FnExactIdleNodes_o7
def c_laws_FnExactIdleNodes_11 : ACode := .seq c_laws_FnExactIdleNodes_10 .ret
def c_laws_FnExactIdleNodes_12 : ACode := .cond (.t 28) c_laws_FnExactIdleNodes_11 .skip
def c_laws_FnExactIdleNodes_13 : ACode := .seq c_laws_FnExactIdleNodes_9 c_laws_FnExactIdleNodes_12
abbrev c_laws_FnExactIdleNodes_o8 : List AJ := [.o ⟨(some 30), none, false, .load 2 true (.t 3), none⟩, .o ⟨(some 31), none, false, .call 17 [(.t 30)], none⟩, .o ⟨(some 32), none, false, .mv (.t 1), none⟩, .o ⟨(some 33), none, false, .call 30 [(.t 32)], none⟩, .o ⟨(some 34), none, false, .mv (.t 2), none⟩, .o ⟨(some 35), none, false, .call 34 [(.t 31), (.t 33), (.t 34)], none⟩, .o ⟨(some 29), none, false, .mv (.t 35), none⟩, .o ⟨(some 36), none, false, .extract (.t 29) 0, none⟩, .o ⟨(some 37), none, false, .extract (.t 29) 1, none⟩, .o ⟨(some 8), none, false, .mv (.t 36), none⟩, .o ⟨(some 9), none, false, .mv (.t 37), (some [1, 2, 3, 8, 9])⟩]
def c_laws_FnExactIdleNodes_14 : ACode := .region c_laws_FnExactIdleNodes_o8
abbrev c_laws_FnExactIdleNodes_o9 : List AJ := [.o ⟨(some 38), none, false, .load 2 true (.t 3), none⟩, .o ⟨(some 39), none, false, .call 17 [(.t 38)], none⟩, .v 10 2 (.agg [(.int .i64 0), .nilsl]) [] (.t 39) (some [1, 2, 3, 8, 9, 10])]
def c_laws_FnExactIdleNodes_15 : ACode := .region c_laws_FnExactIdleNodes_o9
abbrev c_laws_FnExactIdleNodes_o10 : List AJ := [.o ⟨(some 40), none, false, .mv (.t 1), none⟩, .o ⟨(some 41), none, false, .call 30 [(.t 40)], none⟩, .o ⟨(some 11), none, false, .mv (.t 41), (some [1, 2, 3, 8, 9, 10, 11])⟩]
def c_laws_FnExactIdleNodes_16 : ACode := .region c_laws_FnExactIdleNodes_o10
abbrev c_laws_FnExactIdleNodes_o11 : List AJ := [.o ⟨(some 43), none, false, .load 2 true (.t 10), none⟩, .o ⟨(some 44), none, false, .mv (.t 11), none⟩, .o ⟨(some 45), none, false, .mv (.t 2), none⟩, .o ⟨(some 46), none, false, .call 35 [(.t 43), (.t 44), (.t 45)], none⟩, .o ⟨(some 42), none, false, .mv (.t 46), none⟩, .o ⟨(some 47), none, false, .extract (.t 42) 0, none⟩, .o ⟨(some 48), none, false, .extract (.t 42) 1, none⟩, .o ⟨(some 12), none, false, .mv (.t 47), none⟩, .o ⟨(some 13), none, false, .mv (.t 48), (some [1, 2, 3, 8, 9, 10, 11, 12, 13])⟩]
def c_laws_FnExactIdleNodes_17 : ACode := .region c_laws_FnExactIdleNodes_o11
abbrev c_laws_FnExactIdleNodes_o12 : List AJ := [.o ⟨(some 49), none, false, .mv (.t 12), none⟩, .o ⟨(some 50), none, false, .mv (.t 8), none⟩, .o ⟨(some 51), none, false, .call 36 [(.t 49), (.t 50)], none⟩, .o ⟨(some 52), none, false, .un .not (.t 51), none⟩, .o ⟨(some 53), none, false, .mv (.t 52), none⟩, .o ⟨(some 54), (some (53, false)), false, .mv (.t 13), none⟩, .o ⟨(some 55), (some (53, false)), false, .mv (.t 9), none⟩, .o ⟨(some 56), (some (53, false)), false, .bin .neq (.t 54) (.t 55), none⟩, .o ⟨(some 57), none, false, .pick (.t 53) (.c (.bool true)) (.t 56), (some [1, 2, 3, 8, 9, 10, 11, 12, 13, 57])⟩]
def c_laws_FnExactIdleNodes_18 : ACode := .region c_laws_FnExactIdleNodes_o12
abbrev c_laws_FnExactIdleNodes_o13 : List AJ := [.o ⟨(some 6), none, false, .mv (.c (.bool false)), (some [6])⟩]
def c_laws_FnExactIdleNodes_19 : ACode := .region c_laws_FnExactIdleNodes_o13
def c_laws_FnExactIdleNodes_20 : ACode := .seq c_laws_FnExactIdleNodes_19 .ret
def c_laws_FnExactIdleNodes_21 : ACode := .cond (.t 57) c_laws_FnExactIdleNodes_20 .skip
def c_laws_FnExactIdleNodes_22 : ACode := .seq c_laws_FnExactIdleNodes_18 c_laws_FnExactIdleNodes_21
abbrev c_laws_FnExactIdleNodes_o14 : List AI := [⟨(some 58), none, false, .load 2 true (.t 10), none⟩, ⟨(some 59), none, false, .load 2 true (.t 3), none⟩, ⟨(some 60), none, false, .call 17 [(.t 59)], none⟩, ⟨(some 61), none, false, .call 19 [(.t 58), (.t 60)], none⟩, ⟨(some 62), none, false, .un .not (.t 61), (some [1, 2, 3, 8, 9, 10, 11, 12, 13, 62])⟩]
def c_laws_FnExactIdleNodes_23 : ACode := .draw c_laws_FnExactIdleNodes_o14 [] rfl
abbrev c_laws_FnExactIdleNodes_o15 : List AJ := [.o ⟨(some 6), none, false, .mv (.c (.bool false)), (some [6])⟩]
def c_laws_FnExactIdleNodes_24 : ACode := .region c_laws_FnExactIdleNodes_o15
def c_laws_FnExactIdleNodes_25 : ACode := .seq c_laws_FnExactIdleNodes_24 .ret
def c_laws_FnExactIdleNodes_26 : ACode := .cond (.t 62) c_laws_FnExactIdleNodes_25 .skip
def c_laws_FnExactIdleNodes_27 : ACode := .seq c_laws_FnExactIdleNodes_23 c_laws_FnExactIdleNodes_26
abbrev c_laws_FnExactIdleNodes_o16 : List AJ := [.o ⟨(some 63), none, false, .mv (.t 11), none⟩, .o ⟨(some 64), none, false, .mv (.t 1), none⟩, .o ⟨(some 65), none, false, .call 30 [(.t 64)], none⟩, .o ⟨(some 66), none, false, .call 22 [(.t 63), (.t 65)], none⟩, .o ⟨(some 67), none, false, .un .not (.t 66), (some [1, 2, 3, 8, 9, 10, 11, 12, 13, 67])⟩]
def c_laws_FnExactIdleNodes_28 : ACode := .region c_laws_FnExactIdleNodes_o16
abbrev c_laws_FnExactIdleNodes_o17 : List AJ := [.o ⟨(some 6), none, false, .mv (.c (.bool false)), (some [6])⟩]
def c_laws_FnExactIdleNodes_29 : ACode := .region c_laws_FnExactIdleNodes_o17
def c_laws_FnExactIdleNodes_30 : ACode := .seq c_laws_FnExactIdleNodes_29 .ret
def c_laws_FnExactIdleNodes_31 : ACode := .cond (.t 67) c_laws_FnExactIdleNodes_30 .skip
def c_laws_FnExactIdleNodes_32 : ACode := .seq c_laws_FnExactIdleNodes_28 c_laws_FnExactIdleNodes_31
abbrev c_laws_FnExactIdleNodes_o18 : List AJ := [.o ⟨(some 14), none, false, .mv (.c (.int .i64 1)), (some [1, 2, 3, 8, 9, 10, 11, 12, 13, 14])⟩]
def c_laws_FnExactIdleNodes_33 : ACode := .region c_laws_FnExactIdleNodes_o18
abbrev c_laws_FnExactIdleNodes_o19 : List AJ := [.o ⟨(some 68), none, false, .load 2 true (.t 10), none⟩, .o ⟨(some 69), none, false, .mv (.t 14), none⟩, .o ⟨(some 70), none, false, .call 23 [(.t 68), (.t 69)], none⟩, .o ⟨(some 14), none, false, .mv (.t 70), (some [1, 2, 3, 8, 9, 11, 12, 13, 14])⟩]
def c_laws_FnExactIdleNodes_34 : ACode := .region c_laws_FnExactIdleNodes_o19
abbrev c_laws_FnExactIdleNodes_o20 : List AJ := [.o ⟨(some 71), none, false, .mv (.t 11), none⟩, .o ⟨(some 72), none, false, .mv (.t 14), none⟩, .o ⟨(some 73), none, false, .call 24 [(.t 71), (.t 72)], none⟩, .o ⟨(some 14), none, false, .mv (.t 73), (some [1, 2, 3, 8, 9, 12, 13, 14])⟩]
def c_laws_FnExactIdleNodes_35 : ACode := .region c_laws_FnExactIdleNodes_o20
abbrev c_laws_FnExactIdleNodes_o21 : List AJ := [.o ⟨(some 74), none, false, .mv (.t 14), none⟩, .o ⟨(some 75), none, false, .bin .lss (.t 74) (.c (.int .i64 0)), none⟩, .o ⟨(some 76), none, false, .mv (.t 75), none⟩, .o ⟨(some 77), (some (76, false)), false, .mv (.t 12), none⟩, .o ⟨(some 78), (some (76, false)), false, .mv (.t 8), none⟩, .o ⟨(some 79), (some (76, false)), false, .call 36 [(.t 77), (.t 78)], none⟩, .o ⟨(some 80), (some (76, false)), false, .un .not (.t 79), none⟩, .o ⟨(some 81), none, false, .pick (.t 76) (.c (.bool true)) (.t 80), none⟩, .o ⟨(some 82), none, false, .mv (.t 81), none⟩, .o ⟨(some 83), (some (82, false)), false, .mv (.t 13), (some [1, 2, 3, 8, 9, 12, 82, 83])⟩, .o ⟨(some 84), (some (82, false)), false, .mv (.t 9), none⟩, .o ⟨(some 85), (some (82, false)), false, .bin .neq (.t 83) (.t 84), none⟩, .o ⟨(some 86), none, false, .pick (.t 82) (.c (.bool true)) (.t 85), (some [1, 2, 3, 8, 9, 12, 86])⟩]
def c_laws_FnExactIdleNodes_36 : ACode := .region c_laws_FnExactIdleNodes_o21
abbrev c_laws_FnExactIdleNodes_o22 : List AJ := [.o ⟨(some 6), none, false, .mv (.c (.bool false)), (some [6])⟩]
def c_laws_FnExactIdleNodes_37 : ACode := .region c_laws_FnExactIdleNodes_o22
def c_laws_FnExactIdleNodes_38 : ACode := .seq c_laws_FnExactIdleNodes_37 .ret
def c_laws_FnExactIdleNodes_39 : ACode := .cond (.t 86) c_laws_FnExactIdleNodes_38 .skip
def c_laws_FnExactIdleNodes_40 : ACode := .seq c_laws_FnExactIdleNodes_36 c_laws_FnExactIdleNodes_39
abbrev c_laws_FnExactIdleNodes_o23 : List AJ := [.o ⟨(some 15), none, false, .mv (.c (.int .i64 1)), (some [1, 2, 3, 8, 9, 12, 15])⟩]
def c_laws_FnExactIdleNodes_41 : ACode := .region c_laws_FnExactIdleNodes_o23
abbrev c_laws_FnExactIdleNodes_o24 : List AJ := [.o ⟨(some 87), none, false, .mv (.t 12), none⟩, .o ⟨(some 88), none, false, .mv (.t 15), none⟩, .o ⟨(some 89), none, false, .call 37 [(.t 87), (.t 88)], none⟩, .o ⟨(some 15), none, false, .mv (.t 89), (some [1, 2, 3, 8, 9, 12, 15])⟩]
def c_laws_FnExactIdleNodes_42 : ACode := .region c_laws_FnExactIdleNodes_o24
abbrev c_laws_FnExactIdleNodes_o25 : List AJ := [.o ⟨(some 16), none, false, .mv (.c (.int .i64 1)), (some [1, 2, 3, 8, 9, 12, 15, 16])⟩]
def c_laws_FnExactIdleNodes_43 : ACode := .region c_laws_FnExactIdleNodes_o25
abbrev c_laws_FnExactIdleNodes_o26 : List AJ := [.o ⟨(some 90), none, false, .mv (.t 12), none⟩, .o ⟨(some 91), none, false, .mv (.t 16), none⟩, .o ⟨(some 92), none, false, .call 38 [(.t 90), (.t 91)], none⟩, .o ⟨(some 16), none, false, .mv (.t 92), (some [1, 2, 3, 8, 9, 12, 15, 16])⟩]
def c_laws_FnExactIdleNodes_44 : ACode := .region c_laws_FnExactIdleNodes_o26
abbrev c_laws_FnExactIdleNodes_o27 : List AJ := [.o ⟨(some 93), none, false, .mv (.t 16), none⟩, .o ⟨(some 94), none, false, .bin .lss (.t 93) (.c (.int .i64 0)), (some [1, 2, 3, 8, 9, 12, 15, 16, 94])⟩]
def c_laws_FnExactIdleNodes_45 : ACode := .region c_laws_FnExactIdleNodes_o27
abbrev c_laws_FnExactIdleNodes_o28 : List AJ := [.o ⟨(some 6), none, false, .mv (.c (.bool false)), (some [6])⟩]
def c_laws_FnExactIdleNodes_46 : ACode := .region c_laws_FnExactIdleNodes_o28
def c_laws_FnExactIdleNodes_47 : ACode := .seq c_laws_FnExactIdleNodes_46 .ret
def c_laws_FnExactIdleNodes_48 : ACode := .cond (.t 94) c_laws_FnExactIdleNodes_47 .skip
def c_laws_FnExactIdleNodes_49 : ACode := .seq c_laws_FnExactIdleNodes_45 c_laws_FnExactIdleNodes_48
abbrev c_laws_FnExactIdleNodes_o29 : List AJ := [.o ⟨(some 95), none, false, .mv (.t 16), none⟩, .o ⟨(some 96), none, false, .mv (.t 15), none⟩, .o ⟨(some 97), none, false, .bin .neq (.t 95) (.t 96), (some [1, 2, 3, 8, 9, 12, 15, 97])⟩]
def c_laws_FnExactIdleNodes_50 : ACode := .region c_laws_FnExactIdleNodes_o29
abbrev c_laws_FnExactIdleNodes_o30 : List AJ := [.o ⟨(some 6), none, false, .mv (.c (.bool false)), (some [6])⟩]
def c_laws_FnExactIdleNodes_51 : ACode := .region c_laws_FnExactIdleNodes_o30
def c_laws_FnExactIdleNodes_52 : ACode := .seq c_laws_FnExactIdleNodes_51 .ret
def c_laws_FnExactIdleNodes_53 : ACode := .cond (.t 97) c_laws_FnExactIdleNodes_52 .skip
def c_laws_FnExactIdleNodes_54 : ACode := .seq c_laws_FnExactIdleNodes_50 c_laws_FnExactIdleNodes_53
abbrev c_laws_FnExactIdleNodes_o31 : List AJ := [.o ⟨(some 99), none, false, .load 2 true (.t 3), none⟩, .o ⟨(some 100), none, false, .call 17 [(.t 99)], none⟩, .o ⟨(some 101), none, false, .mv (.t 1), none⟩, .o ⟨(some 102), none, false, .call 30 [(.t 101)], none⟩, .o ⟨(some 103), none, false, .mv (.t 2), none⟩, .o ⟨(some 104), none, false, .call 35 [(.t 100), (.t 102), (.t 103)], none⟩, .o ⟨(some 98), none, false, .mv (.t 104), none⟩, .o ⟨(some 105), none, false, .extract (.t 98) 0, none⟩, .o ⟨(some 106), none, false, .extract (.t 98) 1, none⟩, .o ⟨(some 17), none, false, .mv (.t 105), none⟩, .o ⟨(some 18), none, false, .mv (.t 106), (some [8, 9, 12, 15, 17, 18])⟩]
def c_laws_FnExactIdleNodes_55 : ACode := .region c_laws_FnExactIdleNodes_o31
abbrev c_laws_FnExactIdleNodes_o32 : List AJ := [.o ⟨(some 107), none, false, .mv (.t 17), none⟩, .o ⟨(some 108), none, false, .mv (.t 8), none⟩, .o ⟨(some 109), none, false, .call 36 [(.t 107), (.t 108)], none⟩, .o ⟨(some 110), none, false, .un .not (.t 109), none⟩, .o ⟨(some 111), none, false, .mv (.t 110), none⟩, .o ⟨(some 112), (some (111, false)), false, .mv (.t 18), none⟩, .o ⟨(some 113), (some (111, false)), false, .mv (.t 9), none⟩, .o ⟨(some 114), (some (111, false)), false, .bin .neq (.t 112) (.t 113), none⟩, .o ⟨(some 115), none, false, .pick (.t 111) (.c (.bool true)) (.t 114), (some [12, 15, 115])⟩]
def c_laws_FnExactIdleNodes_56 : ACode := .region c_laws_FnExactIdleNodes_o32
abbrev c_laws_FnExactIdleNodes_o33 : List AJ := [.o ⟨(some 6), none, false, .mv (.c (.bool false)), (some [6])⟩]
def c_laws_FnExactIdleNodes_57 : ACode := .region c_laws_FnExactIdleNodes_o33
def c_laws_FnExactIdleNodes_58 : ACode := .seq c_laws_FnExactIdleNodes_57 .ret
def c_laws_FnExactIdleNodes_59 : ACode := .cond (.t 115) c_laws_FnExactIdleNodes_58 .skip
def c_laws_FnExactIdleNodes_60 : ACode := .seq c_laws_FnExactIdleNodes_56 c_laws_FnExactIdleNodes_59
abbrev c_laws_FnExactIdleNodes_o34 : List AJ := [.o ⟨(some 16), none, false, .mv (.c (.int .i64 1)), (some [12, 15, 16])⟩]
def c_laws_FnExactIdleNodes_61 : ACode := .region c_laws_FnExactIdleNodes_o34
abbrev c_laws_FnExactIdleNodes_o35 : List AJ := [.o ⟨(some 116), none, false, .mv (.t 12), none⟩, .o ⟨(some 117), none, false, .mv (.t 16), none⟩, .o ⟨(some 118), none, false, .call 38 [(.t 116), (.t 117)], none⟩, .o ⟨(some 16), none, false, .mv (.t 118), (some [15, 16])⟩]
def c_laws_FnExactIdleNodes_62 : ACode := .region c_laws_FnExactIdleNodes_o35
abbrev c_laws_FnExactIdleNodes_o36 : List AJ := [.o ⟨(some 119), none, false, .mv (.t 16), none⟩, .o ⟨(some 120), none, false, .bin .lss (.t 119) (.c (.int .i64 0)), (some [15, 16, 120])⟩]
def c_laws_FnExactIdleNodes_63 : ACode := .region c_laws_FnExactIdleNodes_o36
abbrev c_laws_FnExactIdleNodes_o37 : List AJ := [.o ⟨(some 6), none, false, .mv (.c (.bool false)), (some [6])⟩]
def c_laws_FnExactIdleNodes_64 : ACode := .region c_laws_FnExactIdleNodes_o37
def c_laws_FnExactIdleNodes_65 : ACode := .seq c_laws_FnExactIdleNodes_64 .ret
def c_laws_FnExactIdleNodes_66 : ACode := .cond (.t 120) c_laws_FnExactIdleNodes_65 .skip
def c_laws_FnExactIdleNodes_67 : ACode := .seq c_laws_FnExactIdleNodes_63 c_laws_FnExactIdleNodes_66
abbrev c_laws_FnExactIdleNodes_o38 : List AJ := [.o ⟨(some 121), none, false, .mv (.t 16), none⟩, .o ⟨(some 122), none, false, .mv (.t 15), none⟩, .o ⟨(some 123), none, false, .bin .neq (.t 121) (.t 122), (some [123])⟩]
def c_laws_FnExactIdleNodes_68 : ACode := .region c_laws_FnExactIdleNodes_o38
abbrev c_laws_FnExactIdleNodes_o39 : List AJ := [.o ⟨(some 6), none, false, .mv (.c (.bool false)), (some [6])⟩]
def c_laws_FnExactIdleNodes_69 : ACode := .region c_laws_FnExactIdleNodes_o39
def c_laws_FnExactIdleNodes_70 : ACode := .seq c_laws_FnExactIdleNodes_69 .ret
def c_laws_FnExactIdleNodes_71 : ACode := .cond (.t 123) c_laws_FnExactIdleNodes_70 .skip
def c_laws_FnExactIdleNodes_72 : ACode := .seq c_laws_FnExactIdleNodes_68 c_laws_FnExactIdleNodes_71
abbrev c_laws_FnExactIdleNodes_o40 : List AJ := [.o ⟨(some 6), none, false, .mv (.c (.bool true)), (some [6])⟩]
def c_laws_FnExactIdleNodes_73 : ACode := .region c_laws_FnExactIdleNodes_o40
def c_laws_FnExactIdleNodes_74 : ACode := .seq c_laws_FnExactIdleNodes_73 .ret
def c_laws_FnExactIdleNodes_75 : ACode := .seq c_laws_FnExactIdleNodes_72 c_laws_FnExactIdleNodes_74
def c_laws_FnExactIdleNodes_76 : ACode := .seq c_laws_FnExactIdleNodes_67 c_laws_FnExactIdleNodes_75
def c_laws_FnExactIdleNodes_77 : ACode := .seq c_laws_FnExactIdleNodes_62 c_laws_FnExactIdleNodes_76
def c_laws_FnExactIdleNodes_78 : ACode := .seq c_laws_FnExactIdleNodes_61 c_laws_FnExactIdleNodes_77
def c_laws_FnExactIdleNodes_79 : ACode := .seq c_laws_FnExactIdleNodes_60 c_laws_FnExactIdleNodes_78
def c_laws_FnExactIdleNodes_80 : ACode := .seq c_laws_FnExactIdleNodes_55 c_laws_FnExactIdleNodes_79
def c_laws_FnExactIdleNodes_81 : ACode := .seq c_laws_FnExactIdleNodes_54 c_laws_FnExactIdleNodes_80
def c_laws_FnExactIdleNodes_82 : ACode := .seq c_laws_FnExactIdleNodes_49 c_laws_FnExactIdleNodes_81
def c_laws_FnExactIdleNodes_83 : ACode := .seq c_laws_FnExactIdleNodes_44 c_laws_FnExactIdleNodes_82
def c_laws_FnExactIdleNodes_84 : ACode := .seq c_laws_FnExactIdleNodes_43 c_laws_FnExactIdleNodes_83
def c_laws_FnExactIdleNodes_85 : ACode := .seq c_laws_FnExactIdleNodes_42 c_laws_FnExactIdleNodes_84
def c_laws_FnExactIdleNodes_86 : ACode := .seq c_laws_FnExactIdleNodes_41 c_laws_FnExactIdleNodes_85
def c_laws_FnExactIdleNodes_87 : ACode := .seq c_laws_FnExactIdleNodes_40 c_laws_FnExactIdleNodes_86
def c_laws_FnExactIdleNodes_88 : ACode := .seq c_laws_FnExactIdleNodes_35 c_laws_FnExactIdleNodes_87
def c_laws_FnExactIdleNodes_89 : ACode := .seq c_laws_FnExactIdleNodes_34 c_laws_FnExactIdleNodes_88
def c_laws_FnExactIdleNodes_90 : ACode := .seq c_laws_FnExactIdleNodes_33 c_laws_FnExactIdleNodes_89
def c_laws_FnExactIdleNodes_91 : ACode := .seq c_laws_FnExactIdleNodes_32 c_laws_FnExactIdleNodes_90
def c_laws_FnExactIdleNodes_92 : ACode := .seq c_laws_FnExactIdleNodes_27 c_laws_FnExactIdleNodes_91
def c_laws_FnExactIdleNodes_93 : ACode := .seq c_laws_FnExactIdleNodes_22 c_laws_FnExactIdleNodes_92
def c_laws_FnExactIdleNodes_94 : ACode := .seq c_laws_FnExactIdleNodes_17 c_laws_FnExactIdleNodes_93
def c_laws_FnExactIdleNodes_95 : ACode := .seq c_laws_FnExactIdleNodes_16 c_laws_FnExactIdleNodes_94
def c_laws_FnExactIdleNodes_96 : ACode := .seq c_laws_FnExactIdleNodes_15 c_laws_FnExactIdleNodes_95
def c_laws_FnExactIdleNodes_97 : ACode := .seq c_laws_FnExactIdleNodes_14 c_laws_FnExactIdleNodes_96
def c_laws_FnExactIdleNodes_98 : ACode := .seq c_laws_FnExactIdleNodes_13 c_laws_FnExactIdleNodes_97
def c_laws_FnExactIdleNodes_99 : ACode := .seq c_laws_FnExactIdleNodes_8 c_laws_FnExactIdleNodes_98
def c_laws_FnExactIdleNodes_100 : ACode := .seq c_laws_FnExactIdleNodes_7 c_laws_FnExactIdleNodes_99
def c_laws_FnExactIdleNodes_101 : ACode := .seq c_laws_FnExactIdleNodes_2 c_laws_FnExactIdleNodes_100
def c_laws_FnExactIdleNodes_102 : ACode := .seq c_laws_FnExactIdleNodes_1 c_laws_FnExactIdleNodes_101
def c_laws_FnExactIdleNodes_103 : ACode := .seq c_laws_FnExactIdleNodes_0 c_laws_FnExactIdleNodes_102
section
variable (C : Cx) (n : Nat) (sk : List AItem) (e : Env) (h : Heap) (R : AV → Heap → Prop)
@[simp, simp ↓] theorem c_laws_FnExactIdleNodes_0_r : vc2 C (n + 1) [] (.code c_laws_FnExactIdleNodes_0 :: sk) e h R = (vc2 C n c_laws_FnExactIdleNodes_o0 sk e h R) := nr rfl
@[simp, simp ↓] theorem c_laws_FnExactIdleNodes_1_r : vc2 C (n + 1) [] (.code c_laws_FnExactIdleNodes_1 :: sk) e h R = (vc2 C n c_laws_FnExactIdleNodes_o1 sk e h R) := nr rfl
@[simp, simp ↓] theorem c_laws_FnExactIdleNodes_2_r : vc2 C (n + 1) [] (.code c_laws_FnExactIdleNodes_2 :: sk) e h R = (vc2 C n c_laws_FnExactIdleNodes_o2 sk e h R) := nr rfl
@[simp, simp ↓] theorem c_laws_FnExactIdleNodes_3_r : vc2 C (n + 1) [] (.code c_laws_FnExactIdleNodes_3 :: sk) e h R = (vc2 C n c_laws_FnExactIdleNodes_o3 sk e h R) := nr rfl
@[simp, simp ↓] theorem c_laws_FnExactIdleNodes_4_r : vc2 C (n + 1) [] (.code c_laws_FnExactIdleNodes_4 :: sk) e h R = (vc2 C n c_laws_FnExactIdleNodes_o4 sk e h R) := nr rfl
@[simp, simp ↓] theorem c_laws_FnExactIdleNodes_5_r : vc2 C (n + 1) [] (.code c_laws_FnExactIdleNodes_5 :: sk) e h R = (vc2 C n [] (.code c_laws_FnExactIdleNodes_4 :: .code .ret :: sk) e h R) := nr rfl
@[simp, simp ↓] theorem c_laws_FnExactIdleNodes_6_r : vc2 C (n + 1) [] (.code c_laws_FnExactIdleNodes_6 :: sk) e h R = (condK (ev e (.t 23)) (vc2 C n [] (.code c_laws_FnExactIdleNodes_5 :: sk) e h R) (vc2 C n [] (.code .skip :: sk) e h R)) := nr rfl
@[simp, simp ↓] theorem c_laws_FnExactIdleNodes_7_r : vc2 C (n + 1) [] (.code c_laws_FnExactIdleNodes_7 :: sk) e h R = (vc2 C n [] (.code c_laws_FnExactIdleNodes_3 :: .code c_laws_FnExactIdleNodes_6 :: sk) e h R) := nr rfl
@[simp, simp ↓] theorem c_laws_FnExactIdleNodes_8_r : vc2 C (n + 1) [] (.code c_laws_FnExactIdleNodes_8 :: sk) e h R = (vc2 C n c_laws_FnExactIdleNodes_o5 sk e h R) := nr rfl
@[simp, simp ↓] theorem c_laws_FnExactIdleNodes_9_r : vc2 C (n + 1) [] (.code c_laws_FnExactIdleNodes_9 :: sk) e h R = (vc2 C n c_laws_FnExactIdleNodes_o6 sk e h R) := nr rfl
@[simp, simp ↓] theorem c_laws_FnExactIdleNodes_10_r : vc2 C (n + 1) [] (.code c_laws_FnExactIdleNodes_10 :: sk) e h R = (vc2 C n c_laws_FnExactIdleNodes_o7 sk e h R) := nr rfl
@[simp, simp ↓] theorem c_laws_FnExactIdleNodes_11_r : vc2 C (n + 1) [] (.code c_laws_FnExactIdleNodes_11 :: sk) e h R = (vc2 C n [] (.code c_laws_FnExactIdleNodes_10 :: .code .ret :: sk) e h R) := nr rfl
@[simp, simp ↓] theorem c_laws_FnExactIdleNodes_12_r : vc2 C (n + 1) [] (.code c_laws_FnExactIdleNodes_12 :: sk) e h R = (condK (ev e (.t 28)) (vc2 C n [] (.code c_laws_FnExactIdleNodes_11 :: sk) e h R) (vc2 C n [] (.code .skip :: sk) e h R)) := nr rfl
@[simp, simp ↓] theorem c_laws_FnExactIdleNodes_13_r : vc2 C (n + 1) [] (.code c_laws_FnExactIdleNodes_13 :: sk) e h R = (vc2 C n [] (.code c_laws_FnExactIdleNodes_9 :: .code c_laws_FnExactIdleNodes_12 :: sk) e h R) := nr rfl
@[simp, simp ↓] theorem c_laws_FnExactIdleNodes_14_r : vc2 C (n + 1) [] (.code c_laws_FnExactIdleNodes_14 :: sk) e h R = (vc2 C n c_laws_FnExactIdleNodes_o8 sk e h R) := nr rfl
@[simp, simp ↓] theorem c_laws_FnExactIdleNodes_15_r : vc2 C (n + 1) [] (.code c_laws_FnExactIdleNodes_15 :: sk) e h R = (vc2 C n c_laws_FnExactIdleNodes_o9 sk e h R) := nr rfl
@[simp, simp ↓] theorem c_laws_FnExactIdleNodes_16_r : vc2 C (n + 1) [] (.code c_laws_FnExactIdleNodes_16 :: sk) e h R = (vc2 C n c_laws_FnExactIdleNodes_o10 sk e h R) := nr rfl
@[simp, simp ↓] theorem c_laws_FnExactIdleNodes_17_r : vc2 C (n + 1) [] (.code c_laws_FnExactIdleNodes_17 :: sk) e h R = (vc2 C n c_laws_FnExactIdleNodes_o11 sk e h R) := nr rfl
@[simp, simp ↓] theorem c_laws_FnExactIdleNodes_18_r : vc2 C (n + 1) [] (.code c_laws_FnExactIdleNodes_18 :: sk) e h R = (vc2 C n c_laws_FnExactIdleNodes_o12 sk e h R) := nr rfl
@[simp, simp ↓] theorem c_laws_FnExactIdleNodes_19_r : vc2 C (n + 1) [] (.code c_laws_FnExactIdleNodes_19 :: sk) e h R = (vc2 C n c_laws_FnExactIdleNodes_o13 sk e h R) := nr rfl
@[simp, simp ↓] theorem c_laws_FnExactIdleNodes_20_r : vc2 C (n + 1) [] (.code c_laws_FnExactIdleNodes_20 :: sk) e h R = (vc2 C n [] (.code c_laws_FnExactIdleNodes_19 :: .code .ret :: sk) e h R) := nr rfl
@[simp, simp ↓] theorem c_laws_FnExactIdleNodes_21_r : vc2 C (n + 1) [] (.code c_laws_FnExactIdleNodes_21 :: sk) e h R = (condK (ev e (.t 57)) (vc2 C n [] (.code c_laws_FnExactIdleNodes_20 :: sk) e h R) (vc2 C n [] (.code .skip :: sk) e h R)) := nr rfl
@[simp, simp ↓] theorem c_laws_FnExactIdleNodes_22_r : vc2 C (n + 1) [] (.code c_laws_FnExactIdleNodes_22 :: sk) e h R = (vc2 C n [] (.code c_laws_FnExactIdleNodes_18 :: .code c_laws_FnExactIdleNodes_21 :: sk) e h R) := nr rfl
@[simp, simp ↓] theorem c_laws_FnExactIdleNodes_23_r : vc2 C (n + 1) [] (.code c_laws_FnExactIdleNodes_23 :: sk) e h R = (draw2 C h (vK C n [] sk R h) c_laws_FnExactIdleNodes_o14 e) := nr rfl
@[simp, simp ↓] theorem c_laws_FnExactIdleNodes_24_r : vc2 C (n + 1) [] (.code c_laws_FnExactIdleNodes_24 :: sk) e h R = (vc2 C n c_laws_FnExactIdleNodes_o15 sk e h R) := nr rfl
@[simp, simp ↓] theorem c_laws_FnExactIdleNodes_25_r : vc2 C (n + 1) [] (.code c_laws_FnExactIdleNodes_25 :: sk) e h R = (vc2 C n [] (.code c_laws_FnExactIdleNodes_24 :: .code .ret :: sk) e h R) := nr rfl
@[simp, simp ↓] theorem c_laws_FnExactIdleNodes_26_r : vc2 C (n + 1) [] (.code c_laws_FnExactIdleNodes_26 :: sk) e h R = (condK (ev e (.t 62)) (vc2 C n [] (.code c_laws_FnExactIdleNodes_25 :: sk) e h R) (vc2 C n [] (.code .skip :: sk) e h R)) := nr rfl
@[simp, simp ↓] theorem c_laws_FnExactIdleNodes_27_r : vc2 C (n + 1) [] (.code c_laws_FnExactIdleNodes_27 :: sk) e h R = (vc2 C n [] (.code c_laws_FnExactIdleNodes_23 :: .code c_laws_FnExactIdleNodes_26 :: sk) e h R) := nr rfl
@[simp, simp ↓] theorem c_laws_FnExactIdleNodes_28_r : vc2 C (n + 1) [] (.code c_laws_FnExactIdleNodes_28 :: sk) e h R = (vc2 C n c_laws_FnExactIdleNodes_o16 sk e h R) := nr rfl
@[simp, simp ↓] theorem c_laws_FnExactIdleNodes_29_r : vc2 C (n + 1) [] (.code c_laws_FnExactIdleNodes_29 :: sk) e h R = (vc2 C n c_laws_FnExactIdleNodes_o17 sk e h R) := nr rfl
@[simp, simp ↓] theorem c_laws_FnExactIdleNodes_30_r : vc2 C (n + 1) [] (.code c_laws_FnExactIdleNodes_30 :: sk) e h R = (vc2 C n [] (.code c_laws_FnExactIdleNodes_29 :: .code .ret :: sk) e h R) := nr rfl
@[simp, simp ↓] theorem c_laws_FnExactIdleNodes_31_r : vc2 C (n + 1) [] (.code c_laws_FnExactIdleNodes_31 :: sk) e h R = (condK (ev e (.t 67)) (vc2 C n [] (.code c_laws_FnExactIdleNodes_30 :: sk) e h R) (vc2 C n [] (.code .skip :: sk) e h R)) := nr rfl
@[simp, simp ↓] theorem c_laws_FnExactIdleNodes_32_r : vc2 C (n + 1) [] (.code c_laws_FnExactIdleNodes_32 :: sk) e h R = (vc2 C n [] (.code c_laws_FnExactIdleNodes_28 :: .code c_laws_FnExactIdleNodes_31 :: sk) e h R) := nr rfl
@[simp, simp ↓] theorem c_laws_FnExactIdleNodes_33_r : vc2 C (n + 1) [] (.code c_laws_FnExactIdleNodes_33 :: sk) e h R = (vc2 C n c_laws_FnExactIdleNodes_o18 sk e h R) := nr rfl
@[simp, simp ↓] theorem c_laws_FnExactIdleNodes_34_r : vc2 C (n + 1) [] (.code c_laws_FnExactIdleNodes_34 :: sk) e h R = (vc2 C n c_laws_FnExactIdleNodes_o19 sk e h R) := nr rfl
@[simp, simp ↓] theorem c_laws_FnExactIdleNodes_35_r : vc2 C (n + 1) [] (.code c_laws_FnExactIdleNodes_35 :: sk) e h R = (vc2 C n c_laws_FnExactIdleNodes_o20 sk e h R) := nr rfl
@[simp, simp ↓] theorem c_laws_FnExactIdleNodes_36_r : vc2 C (n + 1) [] (.code c_laws_FnExactIdleNodes_36 :: sk) e h R = (vc2 C n c_laws_FnExactIdleNodes_o21 sk e h R) := nr rfl
@[simp, simp ↓] theorem c_laws_FnExactIdleNodes_37_r : vc2 C (n + 1) [] (.code c_laws_FnExactIdleNodes_37 :: sk) e h R = (vc2 C n c_laws_FnExactIdleNodes_o22 sk e h R) := nr rfl
@[simp, simp ↓] theorem c_laws_FnExactIdleNodes_38_r : vc2 C (n + 1) [] (.code c_laws_FnExactIdleNodes_38 :: sk) e h R = (vc2 C n [] (.code c_laws_FnExactIdleNodes_37 :: .code .ret :: sk) e h R) := nr rfl
@[simp, simp ↓] theorem c_laws_FnExactIdleNodes_39_r : vc2 C (n + 1) [] (.code c_laws_FnExactIdleNodes_39 :: sk) e h R = (condK (ev e (.t 86)) (vc2 C n [] (.code c_laws_FnExactIdleNodes_38 :: sk) e h R) (vc2 C n [] (.code .skip :: sk) e h R)) := nr rfl
@[simp, simp ↓] theorem c_laws_FnExactIdleNodes_40_r : vc2 C (n + 1) [] (.code c_laws_FnExactIdleNodes_40 :: sk) e h R = (vc2 C n [] (.code c_laws_FnExactIdleNodes_36 :: .code c_laws_FnExactIdleNodes_39 :: sk) e h R) := nr rfl
@[simp, simp ↓] theorem c_laws_FnExactIdleNodes_41_r : vc2 C (n + 1) [] (.code c_laws_FnExactIdleNodes_41 :: sk) e h R = (vc2 C n c_laws_FnExactIdleNodes_o23 sk e h R) := nr rfl
@[simp, simp ↓] theorem c_laws_FnExactIdleNodes_42_r : vc2 C (n + 1) [] (.code c_laws_FnExactIdleNodes_42 :: sk) e h R = (vc2 C n c_laws_FnExactIdleNodes_o24 sk e h R) := nr rfl
@[simp, simp ↓] theorem c_laws_FnExactIdleNodes_43_r : vc2 C (n + 1) [] (.code c_laws_FnExactIdleNodes_43 :: sk) e h R = (vc2 C n c_laws_FnExactIdleNodes_o25 sk e h R) := nr rfl
@[simp, simp ↓] theorem c_laws_FnExactIdleNodes_44_r : vc2 C (n + 1) [] (.code c_laws_FnExactIdleNodes_44 :: sk) e h R = (vc2 C n c_laws_FnExactIdleNodes_o26 sk e h R) := nr rfl
@[simp, simp ↓] theorem c_laws_FnExactIdleNodes_45_r : vc2 C (n + 1) [] (.code c_laws_FnExactIdleNodes_45 :: sk) e h R = (vc2 C n c_laws_FnExactIdleNodes_o27 sk e h R) := nr rfl
@[simp, simp ↓] theorem c_laws_FnExactIdleNodes_46_r : vc2 C (n + 1) [] (.code c_laws_FnExactIdleNodes_46 :: sk) e h R = (vc2 C n c_laws_FnExactIdleNodes_o28 sk e h R) := nr rfl
@[simp, simp ↓] theorem c_laws_FnExactIdleNodes_47_r : vc2 C (n + 1) [] (.code c_laws_FnExactIdleNodes_47 :: sk) e h R = (vc2 C n [] (.code c_laws_FnExactIdleNodes_46 :: .code .ret :: sk) e h R) := nr rfl
@[simp, simp ↓] theorem c_laws_FnExactIdleNodes_48_r : vc2 C (n + 1) [] (.code c_laws_FnExactIdleNodes_48 :: sk) e h R = (condK (ev e (.t 94)) (vc2 C n [] (.code c_laws_FnExactIdleNodes_47 :: sk) e h R) (vc2 C n [] (.code .skip :: sk) e h R)) := nr rfl
@[simp, simp ↓] theorem c_laws_FnExactIdleNodes_49_r : vc2 C (n + 1) [] (.code c_laws_FnExactIdleNodes_49 :: sk) e h R = (vc2 C n [] (.code c_laws_FnExactIdleNodes_45 :: .code c_laws_FnExactIdleNodes_48 :: sk) e h R) := nr rfl
@[simp, simp ↓] theorem c_laws_FnExactIdleNodes_50_r : vc2 C (n + 1) [] (.code c_laws_FnExactIdleNodes_50 :: sk) e h R = (vc2 C n c_laws_FnExactIdleNodes_o29 sk e h R) := nr rfl
@[simp, simp ↓] theorem c_laws_FnExactIdleNodes_51_r : vc2 C (n + 1) [] (.code c_laws_FnExactIdleNodes_51 :: sk) e h R = (vc2 C n c_laws_FnExactIdleNodes_o30 sk e h R) := nr rfl
@[simp, simp ↓] theorem c_laws_FnExactIdleNodes_52_r : vc2 C (n + 1) [] (.code c_laws_FnExactIdleNodes_52 :: sk) e h R = (vc2 C n [] (.code c_laws_FnExactIdleNodes_51 :: .code .ret :: sk) e h R) := nr rfl
@[simp, simp ↓] theorem c_laws_FnExactIdleNodes_53_r : vc2 C (n + 1) [] (.code c_laws_FnExactIdleNodes_53 :: sk) e h R = (condK (ev e (.t 97)) (vc2 C n [] (.code c_laws_FnExactIdleNodes_52 :: sk) e h R) (vc2 C n [] (.code .skip :: sk) e h R)) := nr rfl
@[simp, simp ↓] theorem c_laws_FnExactIdleNodes_54_r : vc2 C (n + 1) [] (.code c_laws_FnExactIdleNodes_54 :: sk) e h R = (vc2 C n [] (.code c_laws_FnExactIdleNodes_50 :: .code c_laws_FnExactIdleNodes_53 :: sk) e h R) := nr rfl
@[simp, simp ↓] theorem c_laws_FnExactIdleNodes_55_r : vc2 C (n + 1) [] (.code c_laws_FnExactIdleNodes_55 :: sk) e h R = (vc2 C n c_laws_FnExactIdleNodes_o31 sk e h R) := nr rfl
@[simp, simp ↓] theorem c_laws_FnExactIdleNodes_56_r : vc2 C (n + 1) [] (.code c_laws_FnExactIdleNodes_56 :: sk) e h R = (vc2 C n c_laws_FnExactIdleNodes_o32 sk e h R) := nr rfl
@[simp, simp ↓] theorem c_laws_FnExactIdleNodes_57_r : vc2 C (n + 1) [] (.code c_laws_FnExactIdleNodes_57 :: sk) e h R = (vc2 C n c_laws_FnExactIdleNodes_o33 sk e h R) := nr rfl
@[simp, simp ↓] theorem c_laws_FnExactIdleNodes_58_r : vc2 C (n + 1) [] (.code c_laws_FnExactIdleNodes_58 :: sk) e h R = (vc2 C n [] (.code c_laws_FnExactIdleNodes_57 :: .code .ret :: sk) e h R) := nr rfl
@[simp, simp ↓] theorem c_laws_FnExactIdleNodes_59_r : vc2 C (n + 1) [] (.code c_laws_FnExactIdleNodes_59 :: sk) e h R = (condK (ev e (.t 115)) (vc2 C n [] (.code c_laws_FnExactIdleNodes_58 :: sk) e h R) (vc2 C n [] (.code .skip :: sk) e h R)) := nr rfl
@[simp, simp ↓] theorem c_laws_FnExactIdleNodes_60_r : vc2 C (n + 1) [] (.code c_laws_FnExactIdleNodes_60 :: sk) e h R = (vc2 C n [] (.code c_laws_FnExactIdleNodes_56 :: .code c_laws_FnExactIdleNodes_59 :: sk) e h R) := nr rfl
@[simp, simp ↓] theorem c_laws_FnExactIdleNodes_61_r : vc2 C (n + 1) [] (.code c_laws_FnExactIdleNodes_61 :: sk) e h R = (vc2 C n c_laws_FnExactIdleNodes_o34 sk e h R) := nr rfl
@[simp, simp ↓] theorem c_laws_FnExactIdleNodes_62_r : vc2 C (n + 1) [] (.code c_laws_FnExactIdleNodes_62 :: sk) e h R = (vc2 C n c_laws_FnExactIdleNodes_o35 sk e h R) := nr rfl
@[simp, simp ↓] theorem c_laws_FnExactIdleNodes_63_r : vc2 C (n + 1) [] (.code c_laws_FnExactIdleNodes_63 :: sk) e h R = (vc2 C n c_laws_FnExactIdleNodes_o36 sk e h R) := nr rfl
@[simp, simp ↓] theorem c_laws_FnExactIdleNodes_64_r : vc2 C (n + 1) [] (.code c_laws_FnExactIdleNodes_64 :: sk) e h R = (vc2 C n c_laws_FnExactIdleNodes_o37 sk e h R) := nr rfl
@[simp, simp ↓] theorem c_laws_FnExactIdleNodes_65_r : vc2 C (n + 1) [] (.code c_laws_FnExactIdleNodes_65 :: sk) e h R = (vc2 C n [] (.code c_laws_FnExactIdleNodes_64 :: .code .ret :: sk) e h R) := nr rfl
@[simp, simp ↓] theorem c_laws_FnExactIdleNodes_66_r : vc2 C (n + 1) [] (.code c_laws_FnExactIdleNodes_66 :: sk) e h R = (condK (ev e (.t 120)) (vc2 C n [] (.code c_laws_FnExactIdleNodes_65 :: sk) e h R) (vc2 C n [] (.code .skip :: sk) e h R)) := nr rfl
@[simp, simp ↓] theorem c_laws_FnExactIdleNodes_67_r : vc2 C (n + 1) [] (.code c_laws_FnExactIdleNodes_67 :: sk) e h R = (vc2 C n [] (.code c_laws_FnExactIdleNodes_63 :: .code c_laws_FnExactIdleNodes_66 :: sk) e h R) := nr rfl
@[simp, simp ↓] theorem c_laws_FnExactIdleNodes_68_r : vc2 C (n + 1) [] (.code c_laws_FnExactIdleNodes_68 :: sk) e h R = (vc2 C n c_laws_FnExactIdleNodes_o38 sk e h R) := nr rfl
@[simp, simp ↓] theorem c_laws_FnExactIdleNodes_69_r : vc2 C (n + 1) [] (.code c_laws_FnExactIdleNodes_69 :: sk) e h R = (vc2 C n c_laws_FnExactIdleNodes_o39 sk e h R) := nr rfl
@[simp, simp ↓] theorem c_laws_FnExactIdleNodes_70_r : vc2 C (n + 1) [] (.code c_laws_FnExactIdleNodes_70 :: sk) e h R = (vc2 C n [] (.code c_laws_FnExactIdleNodes_69 :: .code .ret :: sk) e h R) := nr rfl
@[simp, simp ↓] theorem c_laws_FnExactIdleNodes_71_r : vc2 C (n + 1) [] (.code c_laws_FnExactIdleNodes_71 :: sk) e h R = (condK (ev e (.t 123)) (vc2 C n [] (.code c_laws_FnExactIdleNodes_70 :: sk) e h R) (vc2 C n [] (.code .skip :: sk) e h R)) := nr rfl
@[simp, simp ↓] theorem c_laws_FnExactIdleNodes_72_r : vc2 C (n + 1) [] (.code c_laws_FnExactIdleNodes_72 :: sk) e h R = (vc2 C n [] (.code c_laws_FnExactIdleNodes_68 :: .code c_laws_FnExactIdleNodes_71 :: sk) e h R) := nr rfl
@[simp, simp ↓] theorem c_laws_FnExactIdleNodes_73_r : vc2 C (n + 1) [] (.code c_laws_FnExactIdleNodes_73 :: sk) e h R = (vc2 C n c_laws_FnExactIdleNodes_o40 sk e h R) := nr rfl
@[simp, simp ↓] theorem c_laws_FnExactIdleNodes_74_r : vc2 C (n + 1) [] (.code c_laws_FnExactIdleNodes_74 :: sk) e h R = (vc2 C n [] (.code c_laws_FnExactIdleNodes_73 :: .code .ret :: sk) e h R) := nr rfl
@[simp, simp ↓] theorem c_laws_FnExactIdleNodes_75_r : vc2 C (n + 1) [] (.code c_laws_FnExactIdleNodes_75 :: sk) e h R = (vc2 C n [] (.code c_laws_FnExactIdleNodes_72 :: .code c_laws_FnExactIdleNodes_74 :: sk) e h R) := nr rfl
@[simp, simp ↓] theorem c_laws_FnExactIdleNodes_76_r : vc2 C (n + 1) [] (.code c_laws_FnExactIdleNodes_76 :: sk) e h R = (vc2 C n [] (.code c_laws_FnExactIdleNodes_67 :: .code c_laws_FnExactIdleNodes_75 :: sk) e h R) := nr rfl
@[simp, simp ↓] theorem c_laws_FnExactIdleNodes_77_r : vc2 C (n + 1) [] (.code c_laws_FnExactIdleNodes_77 :: sk) e h R = (vc2 C n [] (.code c_laws_FnExactIdleNodes_62 :: .code c_laws_FnExactIdleNodes_76 :: sk) e h R) := nr rfl
@[simp, simp ↓] theorem c_laws_FnExactIdleNodes_78_r : vc2 C (n + 1) [] (.code c_laws_FnExactIdleNodes_78 :: sk) e h R = (vc2 C n [] (.code c_laws_FnExactIdleNodes_61 :: .code c_laws_FnExactIdleNodes_77 :: sk) e h R) := nr rfl
@[simp, simp ↓] theorem c_laws_FnExactIdleNodes_79_r : vc2 C (n + 1) [] (.code c_laws_FnExactIdleNodes_79 :: sk) e h R = (vc2 C n [] (.code c_laws_FnExactIdleNodes_60 :: .code c_laws_FnExactIdleNodes_78 :: sk) e h R) := nr rfl
@[simp, simp ↓] theorem c_laws_FnExactIdleNodes_80_r : vc2 C (n + 1) [] (.code c_laws_FnExactIdleNodes_80 :: sk) e h R = (vc2 C n [] (.code c_laws_FnExactIdleNodes_55 :: .code c_laws_FnExactIdleNodes_79 :: sk) e h R) := nr rfl
@[simp, simp ↓] theorem c_laws_FnExactIdleNodes_81_r : vc2 C (n + 1) [] (.code c_laws_FnExactIdleNodes_81 :: sk) e h R = (vc2 C n [] (.code c_laws_FnExactIdleNodes_54 :: .code c_laws_FnExactIdleNodes_80 :: sk) e h R) := nr rfl
@[simp, simp ↓] theorem c_laws_FnExactIdleNodes_82_r : vc2 C (n + 1) [] (.code c_laws_FnExactIdleNodes_82 :: sk) e h R = (vc2 C n [] (.code c_laws_FnExactIdleNodes_49 :: .code c_laws_FnExactIdleNodes_81 :: sk) e h R) := nr rfl
@[simp, simp ↓] theorem c_laws_FnExactIdleNodes_83_r : vc2 C (n + 1) [] (.code c_laws_FnExactIdleNodes_83 :: sk) e h R = (vc2 C n [] (.code c_laws_FnExactIdleNodes_44 :: .code c_laws_FnExactIdleNodes_82 :: sk) e h R) := nr rfl
@[simp, simp ↓] theorem c_laws_FnExactIdleNodes_84_r : vc2 C (n + 1) [] (.code c_laws_FnExactIdleNodes_84 :: sk) e h R = (vc2 C n [] (.code c_laws_FnExactIdleNodes_43 :: .code c_laws_FnExactIdleNodes_83 :: sk) e h R) := nr rfl
@[simp, simp ↓] theorem c_laws_FnExactIdleNodes_85_r : vc2 C (n + 1) [] (.code c_laws_FnExactIdleNodes_85 :: sk) e h R = (vc2 C n [] (.code c_laws_FnExactIdleNodes_42 :: .code c_laws_FnExactIdleNodes_84 :: sk) e h R) := nr rfl
@[simp, simp ↓] theorem c_laws_FnExactIdleNodes_86_r : vc2 C (n + 1) [] (.code c_laws_FnExactIdleNodes_86 :: sk) e h R = (vc2 C n [] (.code c_laws_FnExactIdleNodes_41 :: .code c_laws_FnExactIdleNodes_85 :: sk) e h R) := nr rfl
@[simp, simp ↓] theorem c_laws_FnExactIdleNodes_87_r : vc2 C (n + 1) [] (.code c_laws_FnExactIdleNodes_87 :: sk) e h R = (vc2 C n [] (.code c_laws_FnExactIdleNodes_40 :: .code c_laws_FnExactIdleNodes_86 :: sk) e h R) := nr rfl
@[simp, simp ↓] theorem c_laws_FnExactIdleNodes_88_r : vc2 C (n + 1) [] (.code c_laws_FnExactIdleNodes_88 :: sk) e h R = (vc2 C n [] (.code c_laws_FnExactIdleNodes_35 :: .code c_laws_FnExactIdleNodes_87 :: sk) e h R) := nr rfl
@[simp, simp ↓] theorem c_laws_FnExactIdleNodes_89_r : vc2 C (n + 1) [] (.code c_laws_FnExactIdleNodes_89 :: sk) e h R = (vc2 C n [] (.code c_laws_FnExactIdleNodes_34 :: .code c_laws_FnExactIdleNodes_88 :: sk) e h R) := nr rfl
@[simp, simp ↓] theorem c_laws_FnExactIdleNodes_90_r : vc2 C (n + 1) [] (.code c_laws_FnExactIdleNodes_90 :: sk) e h R = (vc2 C n [] (.code c_laws_FnExactIdleNodes_33 :: .code c_laws_FnExactIdleNodes_89 :: sk) e h R) := nr rfl
@[simp, simp ↓] theorem c_laws_FnExactIdleNodes_91_r : vc2 C (n + 1) [] (.code c_laws_FnExactIdleNodes_91 :: sk) e h R = (vc2 C n [] (.code c_laws_FnExactIdleNodes_32 :: .code c_laws_FnExactIdleNodes_90 :: sk) e h R) := nr rfl
@[simp, simp ↓] theorem c_laws_FnExactIdleNodes_92_r : vc2 C (n + 1) [] (.code c_laws_FnExactIdleNodes_92 :: sk) e h R = (vc2 C n [] (.code c_laws_FnExactIdleNodes_27 :: .code c_laws_FnExactIdleNodes_91 :: sk) e h R) := nr rfl
@[simp, simp ↓] theorem c_laws_FnExactIdleNodes_93_r : vc2 C (n + 1) [] (.code c_laws_FnExactIdleNodes_93 :: sk) e h R = (vc2 C n [] (.code c_laws_FnExactIdleNodes_22 :: .code c_laws_FnExactIdleNodes_92 :: sk) e h R) := nr rfl
@[simp, simp ↓] theorem c_laws_FnExactIdleNodes_94_r : vc2 C (n + 1) [] (.code c_laws_FnExactIdleNodes_94 :: sk) e h R = (vc2 C n [] (.code c_laws_FnExactIdleNodes_17 :: .code c_laws_FnExactIdleNodes_93 :: sk) e h R) := nr rfl
@[simp, simp ↓] theorem c_laws_FnExactIdleNodes_95_r : vc2 C (n + 1) [] (.code c_laws_FnExactIdleNodes_95 :: sk) e h R = (vc2 C n [] (.code c_laws_FnExactIdleNodes_16 :: .code c_laws_FnExactIdleNodes_94 :: sk) e h R) := nr rfl
@[simp, simp ↓] theorem c_laws_FnExactIdleNodes_96_r : vc2 C (n + 1) [] (.code c_laws_FnExactIdleNodes_96 :: sk) e h R = (vc2 C n [] (.code c_laws_FnExactIdleNodes_15 :: .code c_laws_FnExactIdleNodes_95 :: sk) e h R) := nr rfl
@[simp, simp ↓] theorem c_laws_FnExactIdleNodes_97_r : vc2 C (n + 1) [] (.code c_laws_FnExactIdleNodes_97 :: sk) e h R = (vc2 C n [] (.code c_laws_FnExactIdleNodes_14 :: .code c_laws_FnExactIdleNodes_96 :: sk) e h R) := nr rfl
@[simp, simp ↓] theorem c_laws_FnExactIdleNodes_98_r : vc2 C (n + 1) [] (.code c_laws_FnExactIdleNodes_98 :: sk) e h R = (vc2 C n [] (.code c_laws_FnExactIdleNodes_13 :: .code c_laws_FnExactIdleNodes_97 :: sk) e h R) := nr rfl
@[simp, simp ↓] theorem c_laws_FnExactIdleNodes_99_r : vc2 C (n + 1) [] (.code c_laws_FnExactIdleNodes_99 :: sk) e h R = (vc2 C n [] (.code c_laws_FnExactIdleNodes_8 :: .code c_laws_FnExactIdleNodes_98 :: sk) e h R) := nr rfl
@[simp, simp ↓] theorem c_laws_FnExactIdleNodes_100_r : vc2 C (n + 1) [] (.code c_laws_FnExactIdleNodes_100 :: sk) e h R = (vc2 C n [] (.code c_laws_FnExactIdleNodes_7 :: .code c_laws_FnExactIdleNodes_99 :: sk) e h R) := nr rfl
@[simp, simp ↓] theorem c_laws_FnExactIdleNodes_101_r : vc2 C (n + 1) [] (.code c_laws_FnExactIdleNodes_101 :: sk) e h R = (vc2 C n [] (.code c_laws_FnExactIdleNodes_2 :: .code c_laws_FnExactIdleNodes_100 :: sk) e h R) := nr rfl
@[simp, simp ↓] theorem c_laws_FnExactIdleNodes_102_r : vc2 C (n + 1) [] (.code c_laws_FnExactIdleNodes_102 :: sk) e h R = (vc2 C n [] (.code c_laws_FnExactIdleNodes_1 :: .code c_laws_FnExactIdleNodes_101 :: sk) e h R) := nr rfl
@[simp, simp ↓] theorem c_laws_FnExactIdleNodes_103_r : vc2 C (n + 1) [] (.code c_laws_FnExactIdleNodes_103 :: sk) e h R = (vc2 C n [] (.code c_laws_FnExactIdleNodes_0 :: .code c_laws_FnExactIdleNodes_102 :: sk) e h R) := nr rfl
end
noncomputable def c_laws_FnExactIdleNodes_C (orc : Orc) : Cx := ⟨Try.prog, [10], 8, 124, [.tmp 6], orc⟩
@[simp] theorem c_laws_FnExactIdleNodes_C_P (orc : Orc) : (c_laws_FnExactIdleNodes_C orc).P = Try.prog := nr rfl
@[simp] theorem c_laws_FnExactIdleNodes_C_o (orc : Orc) : (c_laws_FnExactIdleNodes_C orc).orc = orc := nr rfl
@[simp] theorem c_laws_FnExactIdleNodes_C_r (orc : Orc) : (c_laws_FnExactIdleNodes_C orc).res = [.tmp 6] := nr rfl
theorem c_laws_FnExactIdleNodes_of {args : List AV} {h : Heap} {R : AV → Heap → Prop} {k : Nat} (ha : args.length = k) {orc : Orc} (hp : Pure Try.prog orc) (hk : Is (c_laws_FnExactIdleNodes_C orc) Try.f8 → Run2 (c_laws_FnExactIdleNodes_C orc) [.code c_laws_FnExactIdleNodes_103] (argEnv 0 args) h (Post R)) (hle : k ≤ 124 := by simp) : ACalls Try.prog 8 args h R :=
  contract2 [10] c_laws_FnExactIdleNodes_103 [.tmp 6] Try.func8 (by decide +kernel) rfl (by kernel_rfl) (by rw [ha]; exact hle) (by kernel_rfl) hp hk
theorem c_laws_FnExactIdleNodes_of0 {args : List AV} {h : Heap} {R : AV → Heap → Prop} {k : Nat} (ha : args.length = k) {orc : Orc} (hp : Pure Try.prog orc) (hk : Is (c_laws_FnExactIdleNodes_C orc) Try.f8 → Run2 (c_laws_FnExactIdleNodes_C orc) [.code c_laws_FnExactIdleNodes_103] (argEnv 0 args) h R) (hle : k ≤ 124 := by simp) : ACalls Try.prog 8 args h R :=
  contract20 [10] c_laws_FnExactIdleNodes_103 [.tmp 6] Try.func8 (by decide +kernel) rfl (by kernel_rfl) (by rw [ha]; exact hle) (by kernel_rfl) hp hk
theorem idle_law (x : Gr) (hx : x.wf) (r : LS) (hr : wfSS r) (k : Int) (hk : in64 k) : ACalls Try.prog 8 [x.av, (.snap 1 (r.map il)), (.int .i64 k)] [] (fun v h' => v = .bool true ∧ h' = []) := by
  refine c_laws_FnExactIdleNodes_of rfl orcM_p fun I => ?_
  have hx2_x := hx.2
  have hx2_r := hr
  refine Run2.of I 1000 ?_
  by_cases kx : (x.ts.length : Int) ≤ (1048576 : Int)
  · have hAx : ¬ (1048576 : Int) < x.ts.length := by omega
    have hBx : ¬ (1048576 : Int) - x.ts.length < 0 := by omega
    have hCx : (0 : Int) ≤ (1048576 : Int) - x.ts.length := by omega
    have lx : x.ts.length ≤ 1048576 := by omega
    have hDx : (1048576 : Int) - x.ts.length ≤ 1048576 := by omega
    by_cases kr : ((ssTot r) : Int) ≤ ((1048576 : Int) - x.ts.length)
    · have hAr : ¬ ((1048576 : Int) - x.ts.length) < (ssTot r) := by omega
      have hBr : ¬ ((1048576 : Int) - x.ts.length) - (ssTot r) < 0 := by omega
      have hCr : (0 : Int) ≤ ((1048576 : Int) - x.ts.length) - (ssTot r) := by omega
      have lr : (ssTot r) ≤ 1048576 := by omega
      have hDr : ((1048576 : Int) - x.ts.length) - (ssTot r) ≤ 1048576 := by omega
      have he := x.idle_len r k fun h => (Gr.iCode_ok h).1.1
      simp -implicitDefEqProofs [hx2_x, hx2_r, hAx, hBx, hCx, hDx, kx, hAr, hBr, hCr, hDr, kr]
      first | refine dcallK (toGraph_c x _ lx) ?_ | (refine (toGraph_c x _ lx).mono ?_; rintro v h' ⟨rfl, rfl⟩; refine gK.go ?_)
      simp -implicitDefEqProofs
      first | refine dcallK (toInt64SS_t r _ lr) ?_ | (refine (toInt64SS_t r _ lr).mono ?_; rintro v h' ⟨rfl, rfl⟩; refine gK.go ?_)
      simp -implicitDefEqProofs
      first | refine dcallK (specIdle_c x r k _ lx hx.1 lr) ?_ | (refine (specIdle_c x r k _ lx hx.1 lr).mono ?_; rintro v h' ⟨rfl, rfl⟩; refine gK.go ?_)
      simp -implicitDefEqProofs
      refine (toGraph_o x _ lx).monoN ?_
      rintro v0 h' ⟨g0, o0, d0, rfl⟩ n0
      obtain ⟨u0, rfl, ou0⟩ := id o0
      have c0 := ou0.cell
      refine gK.go ?_
      simp -implicitDefEqProofs [c0]
      refine (toInt64SS_n r _ lr).monoN ?_
      rintro v1 h' ⟨g1, o1, d1, rfl⟩ n1
      refine gK.go ?_
      simp -implicitDefEqProofs [c0]
      have L0 := o0.lentIn (L := (g1 ++ g0)) (fun p hp => List.mem_append_right _ (hp)) n1
      have L1 := o1.lentMid (A := []) (B := g0) (by simpa only [List.nil_append, List.append_nil, List.append_assoc] using n1)
      refine (ACalls.gives (g1 ++ g0) (fun p hp => hp) (S := fun v h' => ∃ w, v = .tup [w, .int .i64 (x.iCode r k)] ∧ OwnL iv 1 w (x.idle r k) h') ?_ ?_).monoN ?_
      · rw [lend_cons, lend_cons, lend_cons, lend_nil', lend1_cold (g1 ++ g0) (x := (.int .i64 k)) rfl]
        exact ACalls.wk (.cons L0.wk (.cons L1.wk (.cons (.refl _) .nil))) (implIdle_o x r k lx hx.1 lr)
      · rintro v h' ⟨w, rfl, ho⟩
        have := ho.own own_iv1
        exact ⟨by simp [own, owns, this.1], this.2⟩
      rintro v h' ⟨gg, ⟨w, rfl, og⟩, dg, rfl⟩ ng
      refine gK.go ?_
      simp -implicitDefEqProofs [c0]
      first | refine dcallK (eqI_own og (.snap (x.idle r k)) (fun p hp => List.mem_append_left _ hp) (show (x.idle r k).length ≤ 1048576 by omega)) ?_ | (refine (eqI_own og (.snap (x.idle r k)) (fun p hp => List.mem_append_left _ hp) (show (x.idle r k).length ≤ 1048576 by omega)).mono ?_; rintro v h' ⟨rfl, rfl⟩; refine gK.go ?_)
      simp -implicitDefEqProofs [c0]
      first | refine dcallK (toGraph_c x _ lx) ?_ | (refine (toGraph_c x _ lx).mono ?_; rintro v h' ⟨rfl, rfl⟩; refine gK.go ?_)
      simp -implicitDefEqProofs [c0]
      first | refine dcallK (eqG_own o0 x.is (fun p hp => List.mem_append_right _ (List.mem_append_right _ (hp))) lx) ?_ | (refine (eqG_own o0 x.is (fun p hp => List.mem_append_right _ (List.mem_append_right _ (hp))) lx).mono ?_; rintro v h' ⟨rfl, rfl⟩; refine gK.go ?_)
      simp -implicitDefEqProofs [c0]
      first | refine dcallK (toInt64SS_t r _ lr) ?_ | (refine (toInt64SS_t r _ lr).mono ?_; rintro v h' ⟨rfl, rfl⟩; refine gK.go ?_)
      simp -implicitDefEqProofs [c0]
      first | refine dcallK (eqL_own o1 (.is r) (fun p hp => List.mem_append_right _ (List.mem_append_left _ hp)) lr) ?_ | (refine (eqL_own o1 (.is r) (fun p hp => List.mem_append_right _ (List.mem_append_left _ hp)) lr).mono ?_; rintro v h' ⟨rfl, rfl⟩; refine gK.go ?_)
      simp -implicitDefEqProofs [c0]
      refine (markG_drop o0 (gg ++ g1) (fun p hp => List.mem_append_right _ (List.mem_append_right _ (hp))) ?_ ?_ (1) (by omega) (by omega)).monoN ?_
      · simpa only [List.append_assoc] using keepL (a := (gg ++ g1)) (b := g0) (by simpa only [List.append_assoc] using ng)
      · exact fun nd => nodupL (a := (gg ++ g1)) (b := g0) (by simpa only [List.append_assoc] using nd)
      rintro _ _ ⟨e1, e2⟩ nk0
      rw [e1, e2]; rw [e2] at nk0
      refine gK.go ?_
      simp -implicitDefEqProofs [c0]
      refine (markL_drop o1 gg (fun p hp => List.mem_append_right _ (hp)) ?_ ?_ (1 + 3 * (x.ts.length : Int)) (by omega) (by omega)).monoN ?_
      · simpa only [List.append_assoc] using keepL (a := gg) (b := g1) (by simpa only [List.append_assoc] using nk0)
      · exact fun nd => nodupL (a := gg) (b := g1) (by simpa only [List.append_assoc] using nd)
      rintro _ _ ⟨e1, e2⟩ nk1
      rw [e1, e2]; rw [e2] at nk1
      refine gK.go ?_
      have hk : ¬ (1 + 3 * (x.ts.length : Int) + (sumL r : Int)) < 0 := by omega
      simp -implicitDefEqProofs [c0, hk]
      first | refine dcallK (eqI_own og (.snap (x.idle r k)) (fun p hp => hp) (show (x.idle r k).length ≤ 1048576 by omega)) ?_ | (refine (eqI_own og (.snap (x.idle r k)) (fun p hp => hp) (show (x.idle r k).length ≤ 1048576 by omega)).mono ?_; rintro v h' ⟨rfl, rfl⟩; refine gK.go ?_)
      simp -implicitDefEqProofs [c0]
      skip
      refine (markI_keep og [] (fun p hp => hp) keepN (fun _ => by simp [dom]) 1 (by omega) (by have := (show (x.idle r k).length ≤ 1048576 by omega); omega)).mono ?_
      rintro _ _ ⟨gm, rfl, om, rfl⟩
      refine gK.go ?_
      simp -implicitDefEqProofs [c0]
      have hq : ¬ (1 + ((x.idle r k).length : Int) < 0) := by omega
      first | refine dcallK (heldI_own om (fun p hp => hp) 1 (by omega) (by have := (show (x.idle r k).length ≤ 1048576 by omega); simp; omega)) ?_ | (refine (heldI_own om (fun p hp => hp) 1 (by omega) (by have := (show (x.idle r k).length ≤ 1048576 by omega); simp; omega)).mono ?_; rintro v h' ⟨rfl, rfl⟩; refine gK.go ?_)
      simp -implicitDefEqProofs [c0, hq]
      first | refine dcallK (toGraph_c x _ lx) ?_ | (refine (toGraph_c x _ lx).mono ?_; rintro v h' ⟨rfl, rfl⟩; refine gK.go ?_)
      simp -implicitDefEqProofs [c0]
      first | refine dcallK (toInt64SS_t r _ lr) ?_ | (refine (toInt64SS_t r _ lr).mono ?_; rintro v h' ⟨rfl, rfl⟩; refine gK.go ?_)
      simp -implicitDefEqProofs [c0]
      refine (ACalls.gives [] (by simp) (S := fun v h' => ∃ w, v = .tup [w, .int .i64 (x.iCode r k)] ∧ OwnL iv 1 w (x.idle r k) h') ?_ ?_).mono ?_
      · exact implIdle_o x r k lx hx.1 lr
      · rintro v h' ⟨w, rfl, ho⟩
        have := ho.own own_iv1
        exact ⟨by simp [own, owns, this.1], this.2⟩
      rintro _ _ ⟨g9, ⟨w9, rfl, o9⟩, d9, rfl⟩
      refine gK.go ?_
      simp -implicitDefEqProofs [c0, hq]
      first | refine dcallK (eqI_own o9 (.snap (x.idle r k)) (fun p hp => List.mem_append_left _ hp) (show (x.idle r k).length ≤ 1048576 by omega)) ?_ | (refine (eqI_own o9 (.snap (x.idle r k)) (fun p hp => List.mem_append_left _ hp) (show (x.idle r k).length ≤ 1048576 by omega)).mono ?_; rintro v h' ⟨rfl, rfl⟩; refine gK.go ?_)
      simp -implicitDefEqProofs [c0, hq]
      first | refine dcallK (heldI_own om (fun p hp => List.mem_append_right _ hp) 1 (by omega) (by have := (show (x.idle r k).length ≤ 1048576 by omega); simp; omega)) ?_ | (refine (heldI_own om (fun p hp => List.mem_append_right _ hp) 1 (by omega) (by have := (show (x.idle r k).length ≤ 1048576 by omega); simp; omega)).mono ?_; rintro v h' ⟨rfl, rfl⟩; refine gK.go ?_)
      simp -implicitDefEqProofs [c0, hq]
      exact Post.none ⟨rfl, rfl⟩
    · have hAr : ((1048576 : Int) - x.ts.length) < (ssTot r) := by omega
      simp -implicitDefEqProofs [hx2_x, hx2_r, hAx, hBx, hCx, hDx, kx, hAr]
      exact .base ⟨rfl, rfl⟩
  · have hAx : (1048576 : Int) < x.ts.length := by omega
    simp -implicitDefEqProofs [hx2_x, hx2_r, hAx]
    exact .base ⟨rfl, rfl⟩
end Go.AG
namespace Go.Proofs.Ytlncpnefkpfojaa
open Go.ChangeShapes Go.WideShapes Go.ChangeAt Go.RowKit Go.AG
theorem own : ownKnob Try.prog.godebug = none := by kernel_rfl
theorem laidOut : laidOutB Try.prog = true := by kernel_rfl
set_option maxRecDepth 100000 in
theorem fnExactIdleNodes_lifted (os : Os) (started : os.Started) (H : Type) (enc : TypeId × Value → H) :
    ReturnsInHanded {} Try.checked os 8 .any (Rows.fnExactIdleNodesSpec.pre6 enc Try.prog Try.f8 Rows.fnExactIdleNodesRow.domain false) (Rows.fnExactIdleNodesSpec.post enc Try.prog Try.f8 false true false false) := by
  refine returnsInHanded_of_change (C := Try.checked) own started (by kernel_rfl) Try.func8
    (ChangeSpec.witness6 (enc := enc) (C := Try.checked) false ⟨#[], #[.agg #[.int .i64 0, .slice none 0 0], .slice none 0 0, .int .i64 0], []⟩ 8 (by kernel_rfl) (by kernel_rfl) (by kernel_rfl) (by kernel_rfl)) ?_
  intro W base args ds gs before hval0 hW _ _
  have hval : ∀ (j : Nat) t v, Try.f8.params[j]? = some t → args[j]? = some v → Value.okWide Try.prog W .any base t v := hval0
  refine law_post (tys := [tyG, tySS, (.int .i64)]) (tb := 4) laidOut rfl (by kernel_rfl) (by kernel_rfl) (by kernel_rfl) (by kernel_rfl) hval hW ?_ ?_
  · intro ds h
    match ds, h with
    | [a0, a1, a2], _ => rfl
  · rintro xs ⟨x0, r0, rfl, h0, x1, r1, rfl, h1, x2, r2, rfl, h2, hr⟩
    have hr0 : r2 = [] := hr
    subst hr0
    obtain ⟨p0, rfl, q0⟩ := Gr_of_shape h0
    obtain ⟨p1, rfl, q1⟩ := Lists_of_shape h1
    obtain ⟨p2, rfl, q2⟩ := Int_of_shape h2
    exact idle_law p0 q0 p1 q1 p2 q2
theorem fnExactIdleNodes_holds : Rows.FnExactIdleNodesSaid :=
  OpenClaim.holds_of_wide 8 Try.f8 rfl rfl rfl rfl rfl rfl rfl ⟨rfl, rfl, rfl, rfl, rfl⟩ rfl rfl rfl rfl rfl (by kernel_rfl) Try.func8 (by kernel_rfl)
    (of_decide_eq_true (by kernel_rfl)) (by unfold Func.isWrapper; first | (rw [if_pos (by decide +kernel)]; kernel_rfl) | (rw [if_neg (by decide +kernel)]; exact ⟨rfl, rfl⟩))
    (fun os started H enc _ => fnExactIdleNodes_lifted os started H enc)
end Go.Proofs.Ytlncpnefkpfojaa
