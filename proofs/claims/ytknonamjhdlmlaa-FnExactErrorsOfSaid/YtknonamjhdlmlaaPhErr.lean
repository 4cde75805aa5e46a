/- The law FnExactErrorsOf is true for every input: the program's ErrorsOf returns what the reference's returns. -/
import Derived.Test.YtknonamjhdlmlaaPhC
namespace Go.AG
open Go.Proofs Go.Proofs.Ytknonamjhdlmlaa
set_option linter.unusedSimpArgs false
set_option linter.unusedVariables false
set_option maxRecDepth 4000
noncomputable def orcM : List (Nat × (List AV → Option (Prop × AV))) := (14, o_szPhases) :: []
theorem orcM_p : Pure Try.prog (lk orcM) := (lk_pure o_szPhases_k lk_pure0)
@[simp] theorem orcM_l (g : FuncId) (l : List AV) : lk orcM g l = if g = 14 then o_szPhases l else none := nr rfl
abbrev c_laws_FnExactErrorsOf_o0 : List AJ := [.o ⟨(some 2), none, false, .box false 3 (.t 0), none⟩, .o ⟨(some 4), none, false, .mv (.c (.bool false)), (some [1, 2])⟩]
def c_laws_FnExactErrorsOf_0 : ACode := .region c_laws_FnExactErrorsOf_o0
abbrev c_laws_FnExactErrorsOf_o1 : List AJ := [.o ⟨(some 17), none, false, .mv (.t 1), none⟩, .o ⟨(some 18), none, false, .len (.t 17), none⟩, .o ⟨(some 19), none, false, .bin .gtr (.t 18) (.c (.int .i64 1048576)), (some [1, 2, 19])⟩]
def c_laws_FnExactErrorsOf_1 : ACode := .region c_laws_FnExactErrorsOf_o1
abbrev c_laws_FnExactErrorsOf_o2 : List AJ := [.o ⟨(some 4), none, false, .mv (.c (.bool true)), (some [4])⟩]
def c_laws_FnExactErrorsOf_2 : ACode := .region c_laws_FnExactErrorsOf_o2
def c_laws_FnExactErrorsOf_3 : ACode := .seq c_laws_FnExactErrorsOf_2 .ret
def c_laws_FnExactErrorsOf_4 : ACode := .cond (.t 19) c_laws_FnExactErrorsOf_3 .skip
def c_laws_FnExactErrorsOf_5 : ACode := .seq c_laws_FnExactErrorsOf_1 c_laws_FnExactErrorsOf_4
abbrev c_laws_FnExactErrorsOf_o3 : List AJ := [.o ⟨(some 5), none, false, .mv (.c (.int .i64 1048576)), (some [1, 2, 5])⟩]
def c_laws_FnExactErrorsOf_6 : ACode := .region c_laws_FnExactErrorsOf_o3
abbrev c_laws_FnExactErrorsOf_o4 : List AJ := [.o ⟨(some 20), none, false, .load 3 true (.t 2), none⟩, .o ⟨(some 21), none, false, .mv (.t 5), none⟩, .o ⟨(some 22), none, false, .call 14 [(.t 20), (.t 21)], none⟩, .o ⟨(some 5), none, false, .mv (.t 22), (some [1, 2, 5])⟩]
def c_laws_FnExactErrorsOf_7 : ACode := .region c_laws_FnExactErrorsOf_o4
abbrev c_laws_FnExactErrorsOf_o5 : List AJ := [.o ⟨(some 23), none, false, .mv (.t 5), none⟩, .o ⟨(some 24), none, false, .bin .lss (.t 23) (.c (.int .i64 0)), (some [1, 2, 24])⟩]
def c_laws_FnExactErrorsOf_8 : ACode := .region c_laws_FnExactErrorsOf_o5
abbrev c_laws_FnExactErrorsOf_o6 : List AJ := [.o ⟨(some 4), none, false, .mv (.c (.bool true)), (some [4])⟩]
def c_laws_FnExactErrorsOf_9 : ACode := .region c_laws_FnExactErrorsOf_o6
def c_laws_FnExactErrorsOf_10 : ACode := .seq c_laws_FnExactErrorsOf_9 .ret
def c_laws_FnExactErrorsOf_11 : ACode := .cond (.t 24) c_laws_FnExactErrorsOf_10 .skip
def c_laws_FnExactErrorsOf_12 : ACode := .seq c_laws_FnExactErrorsOf_8 c_laws_FnExactErrorsOf_11
abbrev c_laws_FnExactErrorsOf_o7 : List AJ := [.o ⟨(some 26), none, false, .load 3 true (.t 2), none⟩, .o ⟨(some 27), none, false, .call 16 [(.t 26)], none⟩, .o ⟨(some 28), none, false, .mv (.t 1), none⟩, .o ⟨(some 29), none, false, .call 22 [(.t 28)], none⟩, .o ⟨(some 30), none, false, .call 27 [(.t 27), (.t 29)], none⟩, .o ⟨(some 25), none, false, .mv (.t 30), none⟩, .o ⟨(some 31), none, false, .extract (.t 25) 0, none⟩, .o ⟨(some 32), none, false, .extract (.t 25) 1, none⟩, .o ⟨(some 6), none, false, .mv (.t 31), none⟩, .o ⟨(some 7), none, false, .mv (.t 32), (some [1, 2, 6, 7])⟩]
def c_laws_FnExactErrorsOf_13 : ACode := .region c_laws_FnExactErrorsOf_o7
abbrev c_laws_FnExactErrorsOf_o8 : List AJ := [.o ⟨(some 33), none, false, .load 3 true (.t 2), none⟩, .o ⟨(some 34), none, false, .call 16 [(.t 33)], none⟩, .v 8 3 (.agg [(.int .i64 0), (.int .i64 0), .nilsl]) [] (.t 34) (some [1, 2, 6, 7, 8])]
def c_laws_FnExactErrorsOf_14 : ACode := .region c_laws_FnExactErrorsOf_o8
abbrev c_laws_FnExactErrorsOf_o9 : List AJ := [.o ⟨(some 35), none, false, .mv (.t 1), none⟩, .o ⟨(some 36), none, false, .call 22 [(.t 35)], none⟩, .o ⟨(some 9), none, false, .mv (.t 36), (some [1, 2, 6, 7, 8, 9])⟩]
def c_laws_FnExactErrorsOf_15 : ACode := .region c_laws_FnExactErrorsOf_o9
abbrev c_laws_FnExactErrorsOf_o10 : List AJ := [.o ⟨(some 38), none, false, .load 3 true (.t 8), none⟩, .o ⟨(some 39), none, false, .mv (.t 9), none⟩, .o ⟨(some 40), none, false, .call 28 [(.t 38), (.t 39)], none⟩, .o ⟨(some 37), none, false, .mv (.t 40), none⟩, .o ⟨(some 41), none, false, .extract (.t 37) 0, none⟩, .o ⟨(some 42), none, false, .extract (.t 37) 1, none⟩, .o ⟨(some 10), none, false, .mv (.t 41), none⟩, .o ⟨(some 11), none, false, .mv (.t 42), (some [1, 2, 6, 7, 8, 9, 10, 11])⟩]
def c_laws_FnExactErrorsOf_16 : ACode := .region c_laws_FnExactErrorsOf_o10
abbrev c_laws_FnExactErrorsOf_o11 : List AJ := [.o ⟨(some 43), none, false, .mv (.t 10), none⟩, .o ⟨(some 44), none, false, .mv (.t 6), none⟩, .o ⟨(some 45), none, false, .call 24 [(.t 43), (.t 44)], none⟩, .o ⟨(some 46), none, false, .un .not (.t 45), none⟩, .o ⟨(some 47), none, false, .mv (.t 46), none⟩, .o ⟨(some 48), (some (47, false)), false, .mv (.t 11), none⟩, .o ⟨(some 49), (some (47, false)), false, .mv (.t 7), none⟩, .o ⟨(some 50), (some (47, false)), false, .bin .neq (.t 48) (.t 49), none⟩, .o ⟨(some 51), none, false, .pick (.t 47) (.c (.bool true)) (.t 50), (some [1, 2, 6, 7, 8, 9, 10, 11, 51])⟩]
def c_laws_FnExactErrorsOf_17 : ACode := .region c_laws_FnExactErrorsOf_o11
abbrev c_laws_FnExactErrorsOf_o12 : List AJ := [.o ⟨(some 4), none, false, .mv (.c (.bool false)), (some [4])⟩]
def c_laws_FnExactErrorsOf_18 : ACode := .region c_laws_FnExactErrorsOf_o12
def c_laws_FnExactErrorsOf_19 : ACode := .seq c_laws_FnExactErrorsOf_18 .ret
def c_laws_FnExactErrorsOf_20 : ACode := .cond (.t 51) c_laws_FnExactErrorsOf_19 .skip
def c_laws_FnExactErrorsOf_21 : ACode := .seq c_laws_FnExactErrorsOf_17 c_laws_FnExactErrorsOf_20
abbrev c_laws_FnExactErrorsOf_o13 : List AI := [⟨(some 52), none, false, .load 3 true (.t 8), none⟩, ⟨(some 53), none, false, .load 3 true (.t 2), none⟩, ⟨(some 54), none, false, .call 16 [(.t 53)], none⟩, ⟨(some 55), none, false, .call 18 [(.t 52), (.t 54)], none⟩, ⟨(some 56), none, false, .un .not (.t 55), (some [1, 2, 6, 7, 8, 9, 10, 11, 56])⟩]
def c_laws_FnExactErrorsOf_22 : ACode := .draw c_laws_FnExactErrorsOf_o13 [] rfl
abbrev c_laws_FnExactErrorsOf_o14 : List AJ := [.o ⟨(some 4), none, false, .mv (.c (.bool false)), (some [4])⟩]
def c_laws_FnExactErrorsOf_23 : ACode := .region c_laws_FnExactErrorsOf_o14
def c_laws_FnExactErrorsOf_24 : ACode := .seq c_laws_FnExactErrorsOf_23 .ret
def c_laws_FnExactErrorsOf_25 : ACode := .cond (.t 56) c_laws_FnExactErrorsOf_24 .skip
def c_laws_FnExactErrorsOf_26 : ACode := .seq c_laws_FnExactErrorsOf_22 c_laws_FnExactErrorsOf_25
abbrev c_laws_FnExactErrorsOf_o15 : List AJ := [.o ⟨(some 57), none, false, .mv (.t 9), none⟩, .o ⟨(some 58), none, false, .mv (.t 1), none⟩, .o ⟨(some 59), none, false, .call 22 [(.t 58)], none⟩, .o ⟨(some 60), none, false, .call 24 [(.t 57), (.t 59)], none⟩, .o ⟨(some 61), none, false, .un .not (.t 60), (some [1, 2, 6, 7, 8, 9, 10, 11, 61])⟩]
def c_laws_FnExactErrorsOf_27 : ACode := .region c_laws_FnExactErrorsOf_o15
abbrev c_laws_FnExactErrorsOf_o16 : List AJ := [.o ⟨(some 4), none, false, .mv (.c (.bool false)), (some [4])⟩]
def c_laws_FnExactErrorsOf_28 : ACode := .region c_laws_FnExactErrorsOf_o16
def c_laws_FnExactErrorsOf_29 : ACode := .seq c_laws_FnExactErrorsOf_28 .ret
def c_laws_FnExactErrorsOf_30 : ACode := .cond (.t 61) c_laws_FnExactErrorsOf_29 .skip
def c_laws_FnExactErrorsOf_31 : ACode := .seq c_laws_FnExactErrorsOf_27 c_laws_FnExactErrorsOf_30
abbrev c_laws_FnExactErrorsOf_o17 : List AJ := [.o ⟨(some 12), none, false, .mv (.c (.int .i64 1)), (some [1, 2, 6, 7, 8, 9, 10, 11, 12])⟩]
def c_laws_FnExactErrorsOf_32 : ACode := .region c_laws_FnExactErrorsOf_o17
abbrev c_laws_FnExactErrorsOf_o18 : List AJ := [.o ⟨(some 62), none, false, .load 3 true (.t 8), none⟩, .o ⟨(some 63), none, false, .mv (.t 12), none⟩, .o ⟨(some 64), none, false, .call 29 [(.t 62), (.t 63)], none⟩, .o ⟨(some 12), none, false, .mv (.t 64), (some [1, 2, 6, 7, 9, 10, 11, 12])⟩]
def c_laws_FnExactErrorsOf_33 : ACode := .region c_laws_FnExactErrorsOf_o18
abbrev c_laws_FnExactErrorsOf_o19 : List AJ := [.o ⟨(some 65), none, false, .mv (.t 9), none⟩, .o ⟨(some 66), none, false, .mv (.t 12), none⟩, .o ⟨(some 67), none, false, .call 30 [(.t 65), (.t 66)], none⟩, .o ⟨(some 12), none, false, .mv (.t 67), (some [1, 2, 6, 7, 10, 11, 12])⟩]
def c_laws_FnExactErrorsOf_34 : ACode := .region c_laws_FnExactErrorsOf_o19
abbrev c_laws_FnExactErrorsOf_o20 : List AJ := [.o ⟨(some 68), none, false, .mv (.t 12), none⟩, .o ⟨(some 69), none, false, .bin .lss (.t 68) (.c (.int .i64 0)), none⟩, .o ⟨(some 70), none, false, .mv (.t 69), none⟩, .o ⟨(some 71), (some (70, false)), false, .mv (.t 10), none⟩, .o ⟨(some 72), (some (70, false)), false, .mv (.t 6), none⟩, .o ⟨(some 73), (some (70, false)), false, .call 24 [(.t 71), (.t 72)], none⟩, .o ⟨(some 74), (some (70, false)), false, .un .not (.t 73), none⟩, .o ⟨(some 75), none, false, .pick (.t 70) (.c (.bool true)) (.t 74), none⟩, .o ⟨(some 76), none, false, .mv (.t 75), none⟩, .o ⟨(some 77), (some (76, false)), false, .mv (.t 11), (some [1, 2, 6, 7, 10, 76, 77])⟩, .o ⟨(some 78), (some (76, false)), false, .mv (.t 7), none⟩, .o ⟨(some 79), (some (76, false)), false, .bin .neq (.t 77) (.t 78), none⟩, .o ⟨(some 80), none, false, .pick (.t 76) (.c (.bool true)) (.t 79), (some [1, 2, 6, 7, 10, 80])⟩]
def c_laws_FnExactErrorsOf_35 : ACode := .region c_laws_FnExactErrorsOf_o20
abbrev c_laws_FnExactErrorsOf_o21 : List AJ := [.o ⟨(some 4), none, false, .mv (.c (.bool false)), (some [4])⟩]
def c_laws_FnExactErrorsOf_36 : ACode := .region c_laws_FnExactErrorsOf_o21
def c_laws_FnExactErrorsOf_37 : ACode := .seq c_laws_FnExactErrorsOf_36 .ret
def c_laws_FnExactErrorsOf_38 : ACode := .cond (.t 80) c_laws_FnExactErrorsOf_37 .skip
def c_laws_FnExactErrorsOf_39 : ACode := .seq c_laws_FnExactErrorsOf_35 c_laws_FnExactErrorsOf_38
abbrev c_laws_FnExactErrorsOf_o22 : List AJ := [.o ⟨(some 13), none, false, .mv (.c (.int .i64 1)), (some [1, 2, 6, 7, 10, 13])⟩]
def c_laws_FnExactErrorsOf_40 : ACode := .region c_laws_FnExactErrorsOf_o22
abbrev c_laws_FnExactErrorsOf_o23 : List AJ := [.o ⟨(some 81), none, false, .mv (.t 10), none⟩, .o ⟨(some 82), none, false, .mv (.t 13), none⟩, .o ⟨(some 83), none, false, .call 30 [(.t 81), (.t 82)], none⟩, .o ⟨(some 13), none, false, .mv (.t 83), (some [1, 2, 6, 7, 10, 13])⟩]
def c_laws_FnExactErrorsOf_41 : ACode := .region c_laws_FnExactErrorsOf_o23
abbrev c_laws_FnExactErrorsOf_o24 : List AJ := [.o ⟨(some 14), none, false, .mv (.c (.int .i64 1)), (some [1, 2, 6, 7, 10, 13, 14])⟩]
def c_laws_FnExactErrorsOf_42 : ACode := .region c_laws_FnExactErrorsOf_o24
abbrev c_laws_FnExactErrorsOf_o25 : List AJ := [.o ⟨(some 84), none, false, .mv (.t 10), none⟩, .o ⟨(some 85), none, false, .mv (.t 14), none⟩, .o ⟨(some 86), none, false, .call 31 [(.t 84), (.t 85)], none⟩, .o ⟨(some 14), none, false, .mv (.t 86), (some [1, 2, 6, 7, 10, 13, 14])⟩]
def c_laws_FnExactErrorsOf_43 : ACode := .region c_laws_FnExactErrorsOf_o25
abbrev c_laws_FnExactErrorsOf_o26 : List AJ := [.o ⟨(some 87), none, false, .mv (.t 14), none⟩, .o ⟨(some 88), none, false, .bin .lss (.t 87) (.c (.int .i64 0)), (some [1, 2, 6, 7, 10, 13, 14, 88])⟩]
def c_laws_FnExactErrorsOf_44 : ACode := .region c_laws_FnExactErrorsOf_o26
abbrev c_laws_FnExactErrorsOf_o27 : List AJ := [.o ⟨(some 4), none, false, .mv (.c (.bool false)), (some [4])⟩]
def c_laws_FnExactErrorsOf_45 : ACode := .region c_laws_FnExactErrorsOf_o27
def c_laws_FnExactErrorsOf_46 : ACode := .seq c_laws_FnExactErrorsOf_45 .ret
def c_laws_FnExactErrorsOf_47 : ACode := .cond (.t 88) c_laws_FnExactErrorsOf_46 .skip
def c_laws_FnExactErrorsOf_48 : ACode := .seq c_laws_FnExactErrorsOf_44 c_laws_FnExactErrorsOf_47
abbrev c_laws_FnExactErrorsOf_o28 : List AJ := [.o ⟨(some 89), none, false, .mv (.t 14), none⟩, .o ⟨(some 90), none, false, .mv (.t 13), none⟩, .o ⟨(some 91), none, false, .bin .neq (.t 89) (.t 90), (some [1, 2, 6, 7, 10, 13, 91])⟩]
def c_laws_FnExactErrorsOf_49 : ACode := .region c_laws_FnExactErrorsOf_o28
abbrev c_laws_FnExactErrorsOf_o29 : List AJ := [.o ⟨(some 4), none, false, .mv (.c (.bool false)), (some [4])⟩]
def c_laws_FnExactErrorsOf_50 : ACode := .region c_laws_FnExactErrorsOf_o29
def c_laws_FnExactErrorsOf_51 : ACode := .seq c_laws_FnExactErrorsOf_50 .ret
def c_laws_FnExactErrorsOf_52 : ACode := .cond (.t 91) c_laws_FnExactErrorsOf_51 .skip
def c_laws_FnExactErrorsOf_53 : ACode := .seq c_laws_FnExactErrorsOf_49 c_laws_FnExactErrorsOf_52
abbrev c_laws_FnExactErrorsOf_o30 : List AJ := [.o ⟨(some 93), none, false, .load 3 true (.t 2), none⟩, .o ⟨(some 94), none, false, .call 16 [(.t 93)], none⟩, .o ⟨(some 95), none, false, .mv (.t 1), none⟩, .o ⟨(some 96), none, false, .call 22 [(.t 95)], none⟩, .o ⟨(some 97), none, false, .call 28 [(.t 94), (.t 96)], none⟩, .o ⟨(some 92), none, false, .mv (.t 97), none⟩, .o ⟨(some 98), none, false, .extract (.t 92) 0, none⟩, .o ⟨(some 99), none, false, .extract (.t 92) 1, none⟩, .o ⟨(some 15), none, false, .mv (.t 98), none⟩, .o ⟨(some 16), none, false, .mv (.t 99), (some [6, 7, 10, 13, 15, 16])⟩]
def c_laws_FnExactErrorsOf_54 : ACode := .region c_laws_FnExactErrorsOf_o30
abbrev c_laws_FnExactErrorsOf_o31 : List AJ := [.o ⟨(some 100), none, false, .mv (.t 15), none⟩, .o ⟨(some 101), none, false, .mv (.t 6), none⟩, .o ⟨(some 102), none, false, .call 24 [(.t 100), (.t 101)], none⟩, .o ⟨(some 103), none, false, .un .not (.t 102), none⟩, .o ⟨(some 104), none, false, .mv (.t 103), none⟩, .o ⟨(some 105), (some (104, false)), false, .mv (.t 16), none⟩, .o ⟨(some 106), (some (104, false)), false, .mv (.t 7), none⟩, .o ⟨(some 107), (some (104, false)), false, .bin .neq (.t 105) (.t 106), none⟩, .o ⟨(some 108), none, false, .pick (.t 104) (.c (.bool true)) (.t 107), (some [10, 13, 108])⟩]
def c_laws_FnExactErrorsOf_55 : ACode := .region c_laws_FnExactErrorsOf_o31
abbrev c_laws_FnExactErrorsOf_o32 : List AJ := [.o ⟨(some 4), none, false, .mv (.c (.bool false)), (some [4])⟩]
def c_laws_FnExactErrorsOf_56 : ACode := .region c_laws_FnExactErrorsOf_o32
def c_laws_FnExactErrorsOf_57 : ACode := .seq c_laws_FnExactErrorsOf_56 .ret
def c_laws_FnExactErrorsOf_58 : ACode := .cond (.t 108) c_laws_FnExactErrorsOf_57 .skip
def c_laws_FnExactErrorsOf_59 : ACode := .seq c_laws_FnExactErrorsOf_55 c_laws_FnExactErrorsOf_58
abbrev c_laws_FnExactErrorsOf_o33 : List AJ := [.o ⟨(some 14), none, false, .mv (.c (.int .i64 1)), (some [10, 13, 14])⟩]
def c_laws_FnExactErrorsOf_60 : ACode := .region c_laws_FnExactErrorsOf_o33
abbrev c_laws_FnExactErrorsOf_o34 : List AJ := [.o ⟨(some 109), none, false, .mv (.t 10), none⟩, .o ⟨(some 110), none, false, .mv (.t 14), none⟩, .o ⟨(some 111), none, false, .call 31 [(.t 109), (.t 110)], none⟩, .o ⟨(some 14), none, false, .mv (.t 111), (some [13, 14])⟩]
def c_laws_FnExactErrorsOf_61 : ACode := .region c_laws_FnExactErrorsOf_o34
abbrev c_laws_FnExactErrorsOf_o35 : List AJ := [.o ⟨(some 112), none, false, .mv (.t 14), none⟩, .o ⟨(some 113), none, false, .bin .lss (.t 112) (.c (.int .i64 0)), (some [13, 14, 113])⟩]
def c_laws_FnExactErrorsOf_62 : ACode := .region c_laws_FnExactErrorsOf_o35
abbrev c_laws_FnExactErrorsOf_o36 : List AJ := [.o ⟨(some 4), none, false, .mv (.c (.bool false)), (some [4])⟩]
def c_laws_FnExactErrorsOf_63 : ACode := .region c_laws_FnExactErrorsOf_o36
def c_laws_FnExactErrorsOf_64 : ACode := .seq c_laws_FnExactErrorsOf_63 .ret
def c_laws_FnExactErrorsOf_65 : ACode := .cond (.t 113) c_laws_FnExactErrorsOf_64 .skip
def c_laws_FnExactErrorsOf_66 : ACode := .seq c_laws_FnExactErrorsOf_62 c_laws_FnExactErrorsOf_65
abbrev c_laws_FnExactErrorsOf_o37 : List AJ := [.o ⟨(some 114), none, false, .mv (.t 14), none⟩, .o ⟨(some 115), none, false, .mv (.t 13), none⟩, .o ⟨(some 116), none, false, .bin .neq (.t 114) (.t 115), (some [116])⟩]
def c_laws_FnExactErrorsOf_67 : ACode := .region c_laws_FnExactErrorsOf_o37
abbrev c_laws_FnExactErrorsOf_o38 : List AJ := [.o ⟨(some 4), none, false, .mv (.c (.bool false)), (some [4])⟩]
def c_laws_FnExactErrorsOf_68 : ACode := .region c_laws_FnExactErrorsOf_o38
def c_laws_FnExactErrorsOf_69 : ACode := .seq c_laws_FnExactErrorsOf_68 .ret
def c_laws_FnExactErrorsOf_70 : ACode := .cond (.t 116) c_laws_FnExactErrorsOf_69 .skip
def c_laws_FnExactErrorsOf_71 : ACode := .seq c_laws_FnExactErrorsOf_67 c_laws_FnExactErrorsOf_70
abbrev c_laws_FnExactErrorsOf_o39 : List AJ := [.o ⟨(some 4), none, false, .mv (.c (.bool true)), (some [4])⟩]
def c_laws_FnExactErrorsOf_72 : ACode := .region c_laws_FnExactErrorsOf_o39
def c_laws_FnExactErrorsOf_73 : ACode := .seq c_laws_FnExactErrorsOf_72 .ret
def c_laws_FnExactErrorsOf_74 : ACode := .seq c_laws_FnExactErrorsOf_71 c_laws_FnExactErrorsOf_73
def c_laws_FnExactErrorsOf_75 : ACode := .seq c_laws_FnExactErrorsOf_66 c_laws_FnExactErrorsOf_74
def c_laws_FnExactErrorsOf_76 : ACode := .seq c_laws_FnExactErrorsOf_61 c_laws_FnExactErrorsOf_75
def c_laws_FnExactErrorsOf_77 : ACode := .seq c_laws_FnExactErrorsOf_60 c_laws_FnExactErrorsOf_76
def c_laws_FnExactErrorsOf_78 : ACode := .seq c_laws_FnExactErrorsOf_59 c_laws_FnExactErrorsOf_77
def c_laws_FnExactErrorsOf_79 : ACode := .seq c_laws_FnExactErrorsOf_54 c_laws_FnExactErrorsOf_78
def c_laws_FnExactErrorsOf_80 : ACode := .seq c_laws_FnExactErrorsOf_53 c_laws_FnExactErrorsOf_79
def c_laws_FnExactErrorsOf_81 : ACode := .seq c_laws_FnExactErrorsOf_48 c_laws_FnExactErrorsOf_80
def c_laws_FnExactErrorsOf_82 : ACode := .seq c_laws_FnExactErrorsOf_43 c_laws_FnExactErrorsOf_81
def c_laws_FnExactErrorsOf_83 : ACode := .seq c_laws_FnExactErrorsOf_42 c_laws_FnExactErrorsOf_82
def c_laws_FnExactErrorsOf_84 : ACode := .seq c_laws_FnExactErrorsOf_41 c_laws_FnExactErrorsOf_83
def c_laws_FnExactErrorsOf_85 : ACode := .seq c_laws_FnExactErrorsOf_40 c_laws_FnExactErrorsOf_84
def c_laws_FnExactErrorsOf_86 : ACode := .seq c_laws_FnExactErrorsOf_39 c_laws_FnExactErrorsOf_85
def c_laws_FnExactErrorsOf_87 : ACode := .seq c_laws_FnExactErrorsOf_34 c_laws_FnExactErrorsOf_86
def c_laws_FnExactErrorsOf_88 : ACode := .seq c_laws_FnExactErrorsOf_33 c_laws_FnExactErrorsOf_87
def c_laws_FnExactErrorsOf_89 : ACode := .seq c_laws_FnExactErrorsOf_32 c_laws_FnExactErrorsOf_88
def c_laws_FnExactErrorsOf_90 : ACode := .seq c_laws_FnExactErrorsOf_31 c_laws_FnExactErrorsOf_89
def c_laws_FnExactErrorsOf_91 : ACode := .seq c_laws_FnExactErrorsOf_26 c_laws_FnExactErrorsOf_90
def c_laws_FnExactErrorsOf_92 : ACode := .seq c_laws_FnExactErrorsOf_21 c_laws_FnExactErrorsOf_91
def c_laws_FnExactErrorsOf_93 : ACode := .seq c_laws_FnExactErrorsOf_16 c_laws_FnExactErrorsOf_92
def c_laws_FnExactErrorsOf_94 : ACode := .seq c_laws_FnExactErrorsOf_15 c_laws_FnExactErrorsOf_93
def c_laws_FnExactErrorsOf_95 : ACode := .seq c_laws_FnExactErrorsOf_14 c_laws_FnExactErrorsOf_94
def c_laws_FnExactErrorsOf_96 : ACode := .seq c_laws_FnExactErrorsOf_13 c_laws_FnExactErrorsOf_95
def c_laws_FnExactErrorsOf_97 : ACode := .seq c_laws_FnExactErrorsOf_12 c_laws_FnExactErrorsOf_96
def c_laws_FnExactErrorsOf_98 : ACode := .seq c_laws_FnExactErrorsOf_7 c_laws_FnExactErrorsOf_97
def c_laws_FnExactErrorsOf_99 : ACode := .seq c_laws_FnExactErrorsOf_6 c_laws_FnExactErrorsOf_98
def c_laws_FnExactErrorsOf_100 : ACode := .seq c_laws_FnExactErrorsOf_5 c_laws_FnExactErrorsOf_99
def c_laws_FnExactErrorsOf_101 : ACode := .seq c_laws_FnExactErrorsOf_0 c_laws_FnExactErrorsOf_100
section
variable (C : Cx) (n : Nat) (sk : List AItem) (e : Env) (h : Heap) (R : AV → Heap → Prop)
@[simp, simp ↓] theorem c_laws_FnExactErrorsOf_0_r : vc2 C (n + 1) [] (.code c_laws_FnExactErrorsOf_0 :: sk) e h R = (vc2 C n c_laws_FnExactErrorsOf_o0 sk e h R) := nr rfl
@[simp, simp ↓] theorem c_laws_FnExactErrorsOf_1_r : vc2 C (n + 1) [] (.code c_laws_FnExactErrorsOf_1 :: sk) e h R = (vc2 C n c_laws_FnExactErrorsOf_o1 sk e h R) := nr rfl
@[simp, simp ↓] theorem c_laws_FnExactErrorsOf_2_r : vc2 C (n + 1) [] (.code c_laws_FnExactErrorsOf_2 :: sk) e h R = (vc2 C n c_laws_FnExactErrorsOf_o2 sk e h R) := nr rfl
@[simp, simp ↓] theorem c_laws_FnExactErrorsOf_3_r : vc2 C (n + 1) [] (.code c_laws_FnExactErrorsOf_3 :: sk) e h R = (vc2 C n [] (.code c_laws_FnExactErrorsOf_2 :: .code .ret :: sk) e h R) := nr rfl
@[simp, simp ↓] theorem c_laws_FnExactErrorsOf_4_r : vc2 C (n + 1) [] (.code c_laws_FnExactErrorsOf_4 :: sk) e h R = (condK (ev e (.t 19)) (vc2 C n [] (.code c_laws_FnExactErrorsOf_3 :: sk) e h R) (vc2 C n [] (.code .skip :: sk) e h R)) := nr rfl
@[simp, simp ↓] theorem c_laws_FnExactErrorsOf_5_r : vc2 C (n + 1) [] (.code c_laws_FnExactErrorsOf_5 :: sk) e h R = (vc2 C n [] (.code c_laws_FnExactErrorsOf_1 :: .code c_laws_FnExactErrorsOf_4 :: sk) e h R) := nr rfl
@[simp, simp ↓] theorem c_laws_FnExactErrorsOf_6_r : vc2 C (n + 1) [] (.code c_laws_FnExactErrorsOf_6 :: sk) e h R = (vc2 C n c_laws_FnExactErrorsOf_o3 sk e h R) := nr rfl
@[simp, simp ↓] theorem c_laws_FnExactErrorsOf_7_r : vc2 C (n + 1) [] (.code c_laws_FnExactErrorsOf_7 :: sk) e h R = (vc2 C n c_laws_FnExactErrorsOf_o4 sk e h R) := nr rfl
@[simp, simp ↓] theorem c_laws_FnExactErrorsOf_8_r : vc2 C (n + 1) [] (.code c_laws_FnExactErrorsOf_8 :: sk) e h R = (vc2 C n c_laws_FnExactErrorsOf_o5 sk e h R) := nr rfl
@[simp, simp ↓] theorem c_laws_FnExactErrorsOf_9_r : vc2 C (n + 1) [] (.code c_laws_FnExactErrorsOf_9 :: sk) e h R = (vc2 C n c_laws_FnExactErrorsOf_o6 sk e h R) := nr rfl
@[simp, simp ↓] theorem c_laws_FnExactErrorsOf_10_r : vc2 C (n + 1) [] (.code c_laws_FnExactErrorsOf_10 :: sk) e h R = (vc2 C n [] (.code c_laws_FnExactErrorsOf_9 :: .code .ret :: sk) e h R) := nr rfl
@[simp, simp ↓] theorem c_laws_FnExactErrorsOf_11_r : vc2 C (n + 1) [] (.code c_laws_FnExactErrorsOf_11 :: sk) e h R = (condK (ev e (.t 24)) (vc2 C n [] (.code c_laws_FnExactErrorsOf_10 :: sk) e h R) (vc2 C n [] (.code .skip :: sk) e h R)) := nr rfl
@[simp, simp ↓] theorem c_laws_FnExactErrorsOf_12_r : vc2 C (n + 1) [] (.code c_laws_FnExactErrorsOf_12 :: sk) e h R = (vc2 C n [] (.code c_laws_FnExactErrorsOf_8 :: .code c_laws_FnExactErrorsOf_11 :: sk) e h R) := nr rfl
@[simp, simp ↓] theorem c_laws_FnExactErrorsOf_13_r : vc2 C (n + 1) [] (.code c_laws_FnExactErrorsOf_13 :: sk) e h R = (vc2 C n c_laws_FnExactErrorsOf_o7 sk e h R) := nr rfl
@[simp, simp ↓] theorem c_laws_FnExactErrorsOf_14_r : vc2 C (n + 1) [] (.code c_laws_FnExactErrorsOf_14 :: sk) e h R = (vc2 C n c_laws_FnExactErrorsOf_o8 sk e h R) := nr rfl
@[simp, simp ↓] theorem c_laws_FnExactErrorsOf_15_r : vc2 C (n + 1) [] (.code c_laws_FnExactErrorsOf_15 :: sk) e h R = (vc2 C n c_laws_FnExactErrorsOf_o9 sk e h R) := nr rfl
@[simp, simp ↓] theorem c_laws_FnExactErrorsOf_16_r : vc2 C (n + 1) [] (.code c_laws_FnExactErrorsOf_16 :: sk) e h R = (vc2 C n c_laws_FnExactErrorsOf_o10 sk e h R) := nr rfl
@[simp, simp ↓] theorem c_laws_FnExactErrorsOf_17_r : vc2 C (n + 1) [] (.code c_laws_FnExactErrorsOf_17 :: sk) e h R = (vc2 C n c_laws_FnExactErrorsOf_o11 sk e h R) := nr rfl
@[simp, simp ↓] theorem c_laws_FnExactErrorsOf_18_r : vc2 C (n + 1) [] (.code c_laws_FnExactErrorsOf_18 :: sk) e h R = (vc2 C n c_laws_FnExactErrorsOf_o12 sk e h R) := nr rfl
@[simp, simp ↓] theorem c_laws_FnExactErrorsOf_19_r : vc2 C (n + 1) [] (.code c_laws_FnExactErrorsOf_19 :: sk) e h R = (vc2 C n [] (.code c_laws_FnExactErrorsOf_18 :: .code .ret :: sk) e h R) := nr rfl
@[simp, simp ↓] theorem c_laws_FnExactErrorsOf_20_r : vc2 C (n + 1) [] (.code c_laws_FnExactErrorsOf_20 :: sk) e h R = (condK (ev e (.t 51)) (vc2 C n [] (.code c_laws_FnExactErrorsOf_19 :: sk) e h R) (vc2 C n [] (.code .skip :: sk) e h R)) := nr rfl
@[simp, simp ↓] theorem c_laws_FnExactErrorsOf_21_r : vc2 C (n + 1) [] (.code c_laws_FnExactErrorsOf_21 :: sk) e h R = (vc2 C n [] (.code c_laws_FnExactErrorsOf_17 :: .code c_laws_FnExactErrorsOf_20 :: sk) e h R) := nr rfl
@[simp, simp ↓] theorem c_laws_FnExactErrorsOf_22_r : vc2 C (n + 1) [] (.code c_laws_FnExactErrorsOf_22 :: sk) e h R = (draw2 C h (vK C n [] sk R h) c_laws_FnExactErrorsOf_o13 e) := nr rfl
@[simp, simp ↓] theorem c_laws_FnExactErrorsOf_23_r : vc2 C (n + 1) [] (.code c_laws_FnExactErrorsOf_23 :: sk) e h R = (vc2 C n c_laws_FnExactErrorsOf_o14 sk e h R) := nr rfl
@[simp, simp ↓] theorem c_laws_FnExactErrorsOf_24_r : vc2 C (n + 1) [] (.code c_laws_FnExactErrorsOf_24 :: sk) e h R = (vc2 C n [] (.code c_laws_FnExactErrorsOf_23 :: .code .ret :: sk) e h R) := nr rfl
@[simp, simp ↓] theorem c_laws_FnExactErrorsOf_25_r : vc2 C (n + 1) [] (.code c_laws_FnExactErrorsOf_25 :: sk) e h R = (condK (ev e (.t 56)) (vc2 C n [] (.code c_laws_FnExactErrorsOf_24 :: sk) e h R) (vc2 C n [] (.code .skip :: sk) e h R)) := nr rfl
@[simp, simp ↓] theorem c_laws_FnExactErrorsOf_26_r : vc2 C (n + 1) [] (.code c_laws_FnExactErrorsOf_26 :: sk) e h R = (vc2 C n [] (.code c_laws_FnExactErrorsOf_22 :: .code c_laws_FnExactErrorsOf_25 :: sk) e h R) := nr rfl
@[simp, simp ↓] theorem c_laws_FnExactErrorsOf_27_r : vc2 C (n + 1) [] (.code c_laws_FnExactErrorsOf_27 :: sk) e h R = (vc2 C n c_laws_FnExactErrorsOf_o15 sk e h R) := nr rfl
@[simp, simp ↓] theorem c_laws_FnExactErrorsOf_28_r : vc2 C (n + 1) [] (.code c_laws_FnExactErrorsOf_28 :: sk) e h R = (vc2 C n c_laws_FnExactErrorsOf_o16 sk e h R) := nr rfl
@[simp, simp ↓] theorem c_laws_FnExactErrorsOf_29_r : vc2 C (n + 1) [] (.code c_laws_FnExactErrorsOf_29 :: sk) e h R = (vc2 C n [] (.code c_laws_FnExactErrorsOf_28 :: .code .ret :: sk) e h R) := nr rfl
@[simp, simp ↓] theorem c_laws_FnExactErrorsOf_30_r : vc2 C (n + 1) [] (.code c_laws_FnExactErrorsOf_30 :: sk) e h R = (condK (ev e (.t 61)) (vc2 C n [] (.code c_laws_FnExactErrorsOf_29 :: sk) e h R) (vc2 C n [] (.code .skip :: sk) e h R)) := nr rfl
@[simp, simp ↓] theorem c_laws_FnExactErrorsOf_31_r : vc2 C (n + 1) [] (.code c_laws_FnExactErrorsOf_31 :: sk) e h R = (vc2 C n [] (.code c_laws_FnExactErrorsOf_27 :: .code c_laws_FnExactErrorsOf_30 :: sk) e h R) := nr rfl
@[simp, simp ↓] theorem c_laws_FnExactErrorsOf_32_r : vc2 C (n + 1) [] (.code c_laws_FnExactErrorsOf_32 :: sk) e h R = (vc2 C n c_laws_FnExactErrorsOf_o17 sk e h R) := nr rfl
@[simp, simp ↓] theorem c_laws_FnExactErrorsOf_33_r : vc2 C (n + 1) [] (.code c_laws_FnExactErrorsOf_33 :: sk) e h R = (vc2 C n c_laws_FnExactErrorsOf_o18 sk e h R) := nr rfl
@[simp, simp ↓] theorem c_laws_FnExactErrorsOf_34_r : vc2 C (n + 1) [] (.code c_laws_FnExactErrorsOf_34 :: sk) e h R = (vc2 C n c_laws_FnExactErrorsOf_o19 sk e h R) := nr rfl
@[simp, simp ↓] theorem c_laws_FnExactErrorsOf_35_r : vc2 C (n + 1) [] (.code c_laws_FnExactErrorsOf_35 :: sk) e h R = (vc2 C n c_laws_FnExactErrorsOf_o20 sk e h R) := nr rfl
@[simp, simp ↓] theorem c_laws_FnExactErrorsOf_36_r : vc2 C (n + 1) [] (.code c_laws_FnExactErrorsOf_36 :: sk) e h R = (vc2 C n c_laws_FnExactErrorsOf_o21 sk e h R) := nr rfl
@[simp, simp ↓] theorem c_laws_FnExactErrorsOf_37_r : vc2 C (n + 1) [] (.code c_laws_FnExactErrorsOf_37 :: sk) e h R = (vc2 C n [] (.code c_laws_FnExactErrorsOf_36 :: .code .ret :: sk) e h R) := nr rfl
@[simp, simp ↓] theorem c_laws_FnExactErrorsOf_38_r : vc2 C (n + 1) [] (.code c_laws_FnExactErrorsOf_38 :: sk) e h R = (condK (ev e (.t 80)) (vc2 C n [] (.code c_laws_FnExactErrorsOf_37 :: sk) e h R) (vc2 C n [] (.code .skip :: sk) e h R)) := nr rfl
@[simp, simp ↓] theorem c_laws_FnExactErrorsOf_39_r : vc2 C (n + 1) [] (.code c_laws_FnExactErrorsOf_39 :: sk) e h R = (vc2 C n [] (.code c_laws_FnExactErrorsOf_35 :: .code c_laws_FnExactErrorsOf_38 :: sk) e h R) := nr rfl
@[simp, simp ↓] theorem c_laws_FnExactErrorsOf_40_r : vc2 C (n + 1) [] (.code c_laws_FnExactErrorsOf_40 :: sk) e h R = (vc2 C n c_laws_FnExactErrorsOf_o22 sk e h R) := nr rfl
@[simp, simp ↓] theorem c_laws_FnExactErrorsOf_41_r : vc2 C (n + 1) [] (.code c_laws_FnExactErrorsOf_41 :: sk) e h R = (vc2 C n c_laws_FnExactErrorsOf_o23 sk e h R) := nr rfl
@[simp, simp ↓] theorem c_laws_FnExactErrorsOf_42_r : vc2 C (n + 1) [] (.code c_laws_FnExactErrorsOf_42 :: sk) e h R = (vc2 C n c_laws_FnExactErrorsOf_o24 sk e h R) := nr rfl
@[simp, simp ↓] theorem c_laws_FnExactErrorsOf_43_r : vc2 C (n + 1) [] (.code c_laws_FnExactErrorsOf_43 :: sk) e h R = (vc2 C n c_laws_FnExactErrorsOf_o25 sk e h R) := nr rfl
@[simp, simp ↓] theorem c_laws_FnExactErrorsOf_44_r : vc2 C (n + 1) [] (.code c_laws_FnExactErrorsOf_44 :: sk) e h R = (vc2 C n c_laws_FnExactErrorsOf_o26 sk e h R) := nr rfl
@[simp, simp ↓] theorem c_laws_FnExactErrorsOf_45_r : vc2 C (n + 1) [] (.code c_laws_FnExactErrorsOf_45 :: sk) e h R = (vc2 C n c_laws_FnExactErrorsOf_o27 sk e h R) := nr rfl
@[simp, simp ↓] theorem c_laws_FnExactErrorsOf_46_r : vc2 C (n + 1) [] (.code c_laws_FnExactErrorsOf_46 :: sk) e h R = (vc2 C n [] (.code c_laws_FnExactErrorsOf_45 :: .code .ret :: sk) e h R) := nr rfl
@[simp, simp ↓] theorem c_laws_FnExactErrorsOf_47_r : vc2 C (n + 1) [] (.code c_laws_FnExactErrorsOf_47 :: sk) e h R = (condK (ev e (.t 88)) (vc2 C n [] (.code c_laws_FnExactErrorsOf_46 :: sk) e h R) (vc2 C n [] (.code .skip :: sk) e h R)) := nr rfl
@[simp, simp ↓] theorem c_laws_FnExactErrorsOf_48_r : vc2 C (n + 1) [] (.code c_laws_FnExactErrorsOf_48 :: sk) e h R = (vc2 C n [] (.code c_laws_FnExactErrorsOf_44 :: .code c_laws_FnExactErrorsOf_47 :: sk) e h R) := nr rfl
@[simp, simp ↓] theorem c_laws_FnExactErrorsOf_49_r : vc2 C (n + 1) [] (.code c_laws_FnExactErrorsOf_49 :: sk) e h R = (vc2 C n c_laws_FnExactErrorsOf_o28 sk e h R) := nr rfl
@[simp, simp ↓] theorem c_laws_FnExactErrorsOf_50_r : vc2 C (n + 1) [] (.code c_laws_FnExactErrorsOf_50 :: sk) e h R = (vc2 C n c_laws_FnExactErrorsOf_o29 sk e h R) := nr rfl
@[simp, simp ↓] theorem c_laws_FnExactErrorsOf_51_r : vc2 C (n + 1) [] (.code c_laws_FnExactErrorsOf_51 :: sk) e h R = (vc2 C n [] (.code c_laws_FnExactErrorsOf_50 :: .code .ret :: sk) e h R) := nr rfl
@[simp, simp ↓] theorem c_laws_FnExactErrorsOf_52_r : vc2 C (n + 1) [] (.code c_laws_FnExactErrorsOf_52 :: sk) e h R = (condK (ev e (.t 91)) (vc2 C n [] (.code c_laws_FnExactErrorsOf_51 :: sk) e h R) (vc2 C n [] (.code .skip :: sk) e h R)) := nr rfl
@[simp, simp ↓] theorem c_laws_FnExactErrorsOf_53_r : vc2 C (n + 1) [] (.code c_laws_FnExactErrorsOf_53 :: sk) e h R = (vc2 C n [] (.code c_laws_FnExactErrorsOf_49 :: .code c_laws_FnExactErrorsOf_52 :: sk) e h R) := nr rfl
@[simp, simp ↓] theorem c_laws_FnExactErrorsOf_54_r : vc2 C (n + 1) [] (.code c_laws_FnExactErrorsOf_54 :: sk) e h R = (vc2 C n c_laws_FnExactErrorsOf_o30 sk e h R) := nr rfl
@[simp, simp ↓] theorem c_laws_FnExactErrorsOf_55_r : vc2 C (n + 1) [] (.code c_laws_FnExactErrorsOf_55 :: sk) e h R = (vc2 C n c_laws_FnExactErrorsOf_o31 sk e h R) := nr rfl
@[simp, simp ↓] theorem c_laws_FnExactErrorsOf_56_r : vc2 C (n + 1) [] (.code c_laws_FnExactErrorsOf_56 :: sk) e h R = (vc2 C n c_laws_FnExactErrorsOf_o32 sk e h R) := nr rfl
@[simp, simp ↓] theorem c_laws_FnExactErrorsOf_57_r : vc2 C (n + 1) [] (.code c_laws_FnExactErrorsOf_57 :: sk) e h R = (vc2 C n [] (.code c_laws_FnExactErrorsOf_56 :: .code .ret :: sk) e h R) := nr rfl
@[simp, simp ↓] theorem c_laws_FnExactErrorsOf_58_r : vc2 C (n + 1) [] (.code c_laws_FnExactErrorsOf_58 :: sk) e h R = (condK (ev e (.t 108)) (vc2 C n [] (.code c_laws_FnExactErrorsOf_57 :: sk) e h R) (vc2 C n [] (.code .skip :: sk) e h R)) := nr rfl
@[simp, simp ↓] theorem c_laws_FnExactErrorsOf_59_r : vc2 C (n + 1) [] (.code c_laws_FnExactErrorsOf_59 :: sk) e h R = (vc2 C n [] (.code c_laws_FnExactErrorsOf_55 :: .code c_laws_FnExactErrorsOf_58 :: sk) e h R) := nr rfl
@[simp, simp ↓] theorem c_laws_FnExactErrorsOf_60_r : vc2 C (n + 1) [] (.code c_laws_FnExactErrorsOf_60 :: sk) e h R = (vc2 C n c_laws_FnExactErrorsOf_o33 sk e h R) := nr rfl
@[simp, simp ↓] theorem c_laws_FnExactErrorsOf_61_r : vc2 C (n + 1) [] (.code c_laws_FnExactErrorsOf_61 :: sk) e h R = (vc2 C n c_laws_FnExactErrorsOf_o34 sk e h R) := nr rfl
@[simp, simp ↓] theorem c_laws_FnExactErrorsOf_62_r : vc2 C (n + 1) [] (.code c_laws_FnExactErrorsOf_62 :: sk) e h R = (vc2 C n c_laws_FnExactErrorsOf_o35 sk e h R) := nr rfl
@[simp, simp ↓] theorem c_laws_FnExactErrorsOf_63_r : vc2 C (n + 1) [] (.code c_laws_FnExactErrorsOf_63 :: sk) e h R = (vc2 C n c_laws_FnExactErrorsOf_o36 sk e h R) := nr rfl
@[simp, simp ↓] theorem c_laws_FnExactErrorsOf_64_r : vc2 C (n + 1) [] (.code c_laws_FnExactErrorsOf_64 :: sk) e h R = (vc2 C n [] (.code c_laws_FnExactErrorsOf_63 :: .code .ret :: sk) e h R) := nr rfl
@[simp, simp ↓] theorem c_laws_FnExactErrorsOf_65_r : vc2 C (n + 1) [] (.code c_laws_FnExactErrorsOf_65 :: sk) e h R = (condK (ev e (.t 113)) (vc2 C n [] (.code c_laws_FnExactErrorsOf_64 :: sk) e h R) (vc2 C n [] (.code .skip :: sk) e h R)) := nr rfl
@[simp, simp ↓] theorem c_laws_FnExactErrorsOf_66_r : vc2 C (n + 1) [] (.code c_laws_FnExactErrorsOf_66 :: sk) e h R = (vc2 C n [] (.code c_laws_FnExactErrorsOf_62 :: .code c_laws_FnExactErrorsOf_65 :: sk) e h R) := nr rfl
@[simp, simp ↓] theorem c_laws_FnExactErrorsOf_67_r : vc2 C (n + 1) [] (.code c_laws_FnExactErrorsOf_67 :: sk) e h R = (vc2 C n c_laws_FnExactErrorsOf_o37 sk e h R) := nr rfl
@[simp, simp ↓] theorem c_laws_FnExactErrorsOf_68_r : vc2 C (n + 1) [] (.code c_laws_FnExactErrorsOf_68 :: sk) e h R = (vc2 C n c_laws_FnExactErrorsOf_o38 sk e h R) := nr rfl
@[simp, simp ↓] theorem c_laws_FnExactErrorsOf_69_r : vc2 C (n + 1) [] (.code c_laws_FnExactErrorsOf_69 :: sk) e h R = (vc2 C n [] (.code c_laws_FnExactErrorsOf_68 :: .code .ret :: sk) e h R) := nr rfl
@[simp, simp ↓] theorem c_laws_FnExactErrorsOf_70_r : vc2 C (n + 1) [] (.code c_laws_FnExactErrorsOf_70 :: sk) e h R = (condK (ev e (.t 116)) (vc2 C n [] (.code c_laws_FnExactErrorsOf_69 :: sk) e h R) (vc2 C n [] (.code .skip :: sk) e h R)) := nr rfl
@[simp, simp ↓] theorem c_laws_FnExactErrorsOf_71_r : vc2 C (n + 1) [] (.code c_laws_FnExactErrorsOf_71 :: sk) e h R = (vc2 C n [] (.code c_laws_FnExactErrorsOf_67 :: .code c_laws_FnExactErrorsOf_70 :: sk) e h R) := nr rfl
@[simp, simp ↓] theorem c_laws_FnExactErrorsOf_72_r : vc2 C (n + 1) [] (.code c_laws_FnExactErrorsOf_72 :: sk) e h R = (vc2 C n c_laws_FnExactErrorsOf_o39 sk e h R) := nr rfl
@[simp, simp ↓] theorem c_laws_FnExactErrorsOf_73_r : vc2 C (n + 1) [] (.code c_laws_FnExactErrorsOf_73 :: sk) e h R = (vc2 C n [] (.code c_laws_FnExactErrorsOf_72 :: .code .ret :: sk) e h R) := nr rfl
@[simp, simp ↓] theorem c_laws_FnExactErrorsOf_74_r : vc2 C (n + 1) [] (.code c_laws_FnExactErrorsOf_74 :: sk) e h R = (vc2 C n [] (.code c_laws_FnExactErrorsOf_71 :: .code c_laws_FnExactErrorsOf_73 :: sk) e h R) := nr rfl
@[simp, simp ↓] theorem c_laws_FnExactErrorsOf_75_r : vc2 C (n + 1) [] (.code c_laws_FnExactErrorsOf_75 :: sk) e h R = (vc2 C n [] (.code c_laws_FnExactErrorsOf_66 :: .code c_laws_FnExactErrorsOf_74 :: sk) e h R) := nr rfl
@[simp, simp ↓] theorem c_laws_FnExactErrorsOf_76_r : vc2 C (n + 1) [] (.code c_laws_FnExactErrorsOf_76 :: sk) e h R = (vc2 C n [] (.code c_laws_FnExactErrorsOf_61 :: .code c_laws_FnExactErrorsOf_75 :: sk) e h R) := nr rfl
@[simp, simp ↓] theorem c_laws_FnExactErrorsOf_77_r : vc2 C (n + 1) [] (.code c_laws_FnExactErrorsOf_77 :: sk) e h R = (vc2 C n [] (.code c_laws_FnExactErrorsOf_60 :: .code c_laws_FnExactErrorsOf_76 :: sk) e h R) := nr rfl
@[simp, simp ↓] theorem c_laws_FnExactErrorsOf_78_r : vc2 C (n + 1) [] (.code c_laws_FnExactErrorsOf_78 :: sk) e h R = (vc2 C n [] (.code c_laws_FnExactErrorsOf_59 :: .code c_laws_FnExactErrorsOf_77 :: sk) e h R) := nr rfl
@[simp, simp ↓] theorem c_laws_FnExactErrorsOf_79_r : vc2 C (n + 1) [] (.code c_laws_FnExactErrorsOf_79 :: sk) e h R = (vc2 C n [] (.code c_laws_FnExactErrorsOf_54 :: .code c_laws_FnExactErrorsOf_78 :: sk) e h R) := nr rfl
@[simp, simp ↓] theorem c_laws_FnExactErrorsOf_80_r : vc2 C (n + 1) [] (.code c_laws_FnExactErrorsOf_80 :: sk) e h R = (vc2 C n [] (.code c_laws_FnExactErrorsOf_53 :: .code c_laws_FnExactErrorsOf_79 :: sk) e h R) := nr rfl
@[simp, simp ↓] theorem c_laws_FnExactErrorsOf_81_r : vc2 C (n + 1) [] (.code c_laws_FnExactErrorsOf_81 :: sk) e h R = (vc2 C n [] (.code c_laws_FnExactErrorsOf_48 :: .code c_laws_FnExactErrorsOf_80 :: sk) e h R) := nr rfl
@[simp, simp ↓] theorem c_laws_FnExactErrorsOf_82_r : vc2 C (n + 1) [] (.code c_laws_FnExactErrorsOf_82 :: sk) e h R = (vc2 C n [] (.code c_laws_FnExactErrorsOf_43 :: .code c_laws_FnExactErrorsOf_81 :: sk) e h R) := nr rfl
@[simp, simp ↓] theorem c_laws_FnExactErrorsOf_83_r : vc2 C (n + 1) [] (.code c_laws_FnExactErrorsOf_83 :: sk) e h R = (vc2 C n [] (.code c_laws_FnExactErrorsOf_42 :: .code c_laws_FnExactErrorsOf_82 :: sk) e h R) := nr rfl
@[simp, simp ↓] theorem c_laws_FnExactErrorsOf_84_r : vc2 C (n + 1) [] (.code c_laws_FnExactErrorsOf_84 :: sk) e h R = (vc2 C n [] (.code c_laws_FnExactErrorsOf_41 :: .code c_laws_FnExactErrorsOf_83 :: sk) e h R) := nr rfl
@[simp, simp ↓] theorem c_laws_FnExactErrorsOf_85_r : vc2 C (n + 1) [] (.code c_laws_FnExactErrorsOf_85 :: sk) e h R = (vc2 C n [] (.code c_laws_FnExactErrorsOf_40 :: .code c_laws_FnExactErrorsOf_84 :: sk) e h R) := nr rfl
@[simp, simp ↓] theorem c_laws_FnExactErrorsOf_86_r : vc2 C (n + 1) [] (.code c_laws_FnExactErrorsOf_86 :: sk) e h R = (vc2 C n [] (.code c_laws_FnExactErrorsOf_39 :: .code c_laws_FnExactErrorsOf_85 :: sk) e h R) := nr rfl
@[simp, simp ↓] theorem c_laws_FnExactErrorsOf_87_r : vc2 C (n + 1) [] (.code c_laws_FnExactErrorsOf_87 :: sk) e h R = (vc2 C n [] (.code c_laws_FnExactErrorsOf_34 :: .code c_laws_FnExactErrorsOf_86 :: sk) e h R) := nr rfl
@[simp, simp ↓] theorem c_laws_FnExactErrorsOf_88_r : vc2 C (n + 1) [] (.code c_laws_FnExactErrorsOf_88 :: sk) e h R = (vc2 C n [] (.code c_laws_FnExactErrorsOf_33 :: .code c_laws_FnExactErrorsOf_87 :: sk) e h R) := nr rfl
@[simp, simp ↓] theorem c_laws_FnExactErrorsOf_89_r : vc2 C (n + 1) [] (.code c_laws_FnExactErrorsOf_89 :: sk) e h R = (vc2 C n [] (.code c_laws_FnExactErrorsOf_32 :: .code c_laws_FnExactErrorsOf_88 :: sk) e h R) := nr rfl
@[simp, simp ↓] theorem c_laws_FnExactErrorsOf_90_r : vc2 C (n + 1) [] (.code c_laws_FnExactErrorsOf_90 :: sk) e h R = (vc2 C n [] (.code c_laws_FnExactErrorsOf_31 :: .code c_laws_FnExactErrorsOf_89 :: sk) e h R) := nr rfl
@[simp, simp ↓] theorem c_laws_FnExactErrorsOf_91_r : vc2 C (n + 1) [] (.code c_laws_FnExactErrorsOf_91 :: sk) e h R = (vc2 C n [] (.code c_laws_FnExactErrorsOf_26 :: .code c_laws_FnExactErrorsOf_90 :: sk) e h R) := nr rfl
@[simp, simp ↓] theorem c_laws_FnExactErrorsOf_92_r : vc2 C (n + 1) [] (.code c_laws_FnExactErrorsOf_92 :: sk) e h R = (vc2 C n [] (.code c_laws_FnExactErrorsOf_21 :: .code c_laws_FnExactErrorsOf_91 :: sk) e h R) := nr rfl
@[simp, simp ↓] theorem c_laws_FnExactErrorsOf_93_r : vc2 C (n + 1) [] (.code c_laws_FnExactErrorsOf_93 :: sk) e h R = (vc2 C n [] (.code c_laws_FnExactErrorsOf_16 :: .code c_laws_FnExactErrorsOf_92 :: sk) e h R) := nr rfl
@[simp, simp ↓] theorem c_laws_FnExactErrorsOf_94_r : vc2 C (n + 1) [] (.code c_laws_FnExactErrorsOf_94 :: sk) e h R = (vc2 C n [] (.code c_laws_FnExactErrorsOf_15 :: .code c_laws_FnExactErrorsOf_93 :: sk) e h R) := nr rfl
@[simp, simp ↓] theorem c_laws_FnExactErrorsOf_95_r : vc2 C (n + 1) [] (.code c_laws_FnExactErrorsOf_95 :: sk) e h R = (vc2 C n [] (.code c_laws_FnExactErrorsOf_14 :: .code c_laws_FnExactErrorsOf_94 :: sk) e h R) := nr rfl
@[simp, simp ↓] theorem c_laws_FnExactErrorsOf_96_r : vc2 C (n + 1) [] (.code c_laws_FnExactErrorsOf_96 :: sk) e h R = (vc2 C n [] (.code c_laws_FnExactErrorsOf_13 :: .code c_laws_FnExactErrorsOf_95 :: sk) e h R) := nr rfl
@[simp, simp ↓] theorem c_laws_FnExactErrorsOf_97_r : vc2 C (n + 1) [] (.code c_laws_FnExactErrorsOf_97 :: sk) e h R = (vc2 C n [] (.code c_laws_FnExactErrorsOf_12 :: .code c_laws_FnExactErrorsOf_96 :: sk) e h R) := nr rfl
@[simp, simp ↓] theorem c_laws_FnExactErrorsOf_98_r : vc2 C (n + 1) [] (.code c_laws_FnExactErrorsOf_98 :: sk) e h R = (vc2 C n [] (.code c_laws_FnExactErrorsOf_7 :: .code c_laws_FnExactErrorsOf_97 :: sk) e h R) := nr rfl
@[simp, simp ↓] theorem c_laws_FnExactErrorsOf_99_r : vc2 C (n + 1) [] (.code c_laws_FnExactErrorsOf_99 :: sk) e h R = (vc2 C n [] (.code c_laws_FnExactErrorsOf_6 :: .code c_laws_FnExactErrorsOf_98 :: sk) e h R) := nr rfl
@[simp, simp ↓] theorem c_laws_FnExactErrorsOf_100_r : vc2 C (n + 1) [] (.code c_laws_FnExactErrorsOf_100 :: sk) e h R = (vc2 C n [] (.code c_laws_FnExactErrorsOf_5 :: .code c_laws_FnExactErrorsOf_99 :: sk) e h R) := nr rfl
@[simp, simp ↓] theorem c_laws_FnExactErrorsOf_101_r : vc2 C (n + 1) [] (.code c_laws_FnExactErrorsOf_101 :: sk) e h R = (vc2 C n [] (.code c_laws_FnExactErrorsOf_0 :: .code c_laws_FnExactErrorsOf_100 :: sk) e h R) := nr rfl
end
noncomputable def c_laws_FnExactErrorsOf_C (orc : Orc) : Cx := ⟨Try.prog, [8], 7, 117, [.tmp 4], orc⟩
@[simp] theorem c_laws_FnExactErrorsOf_C_P (orc : Orc) : (c_laws_FnExactErrorsOf_C orc).P = Try.prog := nr rfl
@[simp] theorem c_laws_FnExactErrorsOf_C_o (orc : Orc) : (c_laws_FnExactErrorsOf_C orc).orc = orc := nr rfl
@[simp] theorem c_laws_FnExactErrorsOf_C_r (orc : Orc) : (c_laws_FnExactErrorsOf_C orc).res = [.tmp 4] := nr rfl
theorem c_laws_FnExactErrorsOf_of {args : List AV} {h : Heap} {R : AV → Heap → Prop} {k : Nat} (ha : args.length = k) {orc : Orc} (hp : Pure Try.prog orc) (hk : Is (c_laws_FnExactErrorsOf_C orc) Try.f7 → Run2 (c_laws_FnExactErrorsOf_C orc) [.code c_laws_FnExactErrorsOf_101] (argEnv 0 args) h (Post R)) (hle : k ≤ 117 := by simp) : ACalls Try.prog 7 args h R :=
  contract2 [8] c_laws_FnExactErrorsOf_101 [.tmp 4] Try.func7 (by decide +kernel) rfl (by kernel_rfl) (by rw [ha]; exact hle) (by kernel_rfl) hp hk
theorem c_laws_FnExactErrorsOf_of0 {args : List AV} {h : Heap} {R : AV → Heap → Prop} {k : Nat} (ha : args.length = k) {orc : Orc} (hp : Pure Try.prog orc) (hk : Is (c_laws_FnExactErrorsOf_C orc) Try.f7 → Run2 (c_laws_FnExactErrorsOf_C orc) [.code c_laws_FnExactErrorsOf_101] (argEnv 0 args) h R) (hle : k ≤ 117 := by simp) : ACalls Try.prog 7 args h R :=
  contract20 [8] c_laws_FnExactErrorsOf_101 [.tmp 4] Try.func7 (by decide +kernel) rfl (by kernel_rfl) (by rw [ha]; exact hle) (by kernel_rfl) hp hk
theorem errors_law (x : Ph) (hx : x.wf) (p : List Int) (hp : wfI p) : ACalls Try.prog 7 [x.av, (.snap 1 (p.map iv))] [] (fun v h' => v = .bool true ∧ h' = []) := by
  refine c_laws_FnExactErrorsOf_of rfl orcM_p fun I => ?_
  have hx2_x := hx.2
  have hx2_p := hp.2
  refine Run2.of I 1000 ?_
  by_cases lp : p.length ≤ 1048576
  · have hAp : ¬ (1048576 : Int) < p.length := by omega
    by_cases kx : (x.ts.length : Int) ≤ (1048576 : Int)
    · have hAx : ¬ (1048576 : Int) < x.ts.length := by omega
      have hBx : ¬ (1048576 : Int) - x.ts.length < 0 := by omega
      have hCx : (0 : Int) ≤ (1048576 : Int) - x.ts.length := by omega
      have lx : x.ts.length ≤ 1048576 := by omega
      have he := x.eres_len p
      simp -implicitDefEqProofs [hx2_x, hx2_p, hAp, hAx, hBx, hCx]
      first | refine dcallK (toPhases_c x _ lx) ?_ | (refine (toPhases_c x _ lx).mono ?_; rintro v h' ⟨rfl, rfl⟩; refine gK.go ?_)
      simp -implicitDefEqProofs
      first | refine dcallK (toInt64S_c p _ lp) ?_ | (refine (toInt64S_c p _ lp).mono ?_; rintro v h' ⟨rfl, rfl⟩; refine gK.go ?_)
      simp -implicitDefEqProofs
      first | refine dcallK (specErrors_c x p _ hx.1 lx lp) ?_ | (refine (specErrors_c x p _ hx.1 lx lp).mono ?_; rintro v h' ⟨rfl, rfl⟩; refine gK.go ?_)
      simp -implicitDefEqProofs
      refine (toPhases_o x _ lx).monoN ?_
      rintro v0 h' ⟨g0, o0, d0, rfl⟩ n0
      obtain ⟨u0, rfl, ou0⟩ := id o0
      have c0 := ou0.cell
      refine gK.go ?_
      simp -implicitDefEqProofs [c0]
      refine (toInt64S_o p _ lp).monoN ?_
      rintro v1 h' ⟨g1, o1, d1, rfl⟩ n1
      refine gK.go ?_
      simp -implicitDefEqProofs [c0]
      have L0 := o0.lentIn (L := (g1 ++ g0)) (fun p hp => List.mem_append_right _ (hp)) n1
      have L1 := o1.lentIn cold_iv1 (L := (g1 ++ g0)) (fun p hp => List.mem_append_left _ hp) n1
      refine (ACalls.gives (g1 ++ g0) (fun p hp => hp) (S := fun v h' => ∃ w, v = .tup [w, .int .i64 (x.ecode p)] ∧ OwnL iv 1 w (x.eres p) h') ?_ ?_).monoN ?_
      · rw [lend_cons, lend_cons, lend_nil']
        exact ACalls.wk (.cons L0.wk (.cons L1.wk .nil)) (implErrors_o x p hx.1 lx lp)
      · rintro v h' ⟨w, rfl, ho⟩
        have := ho.own own_iv1
        exact ⟨by simp [own, owns, this.1], this.2⟩
      rintro v h' ⟨gg, ⟨w, rfl, og⟩, dg, rfl⟩ ng
      refine gK.go ?_
      simp -implicitDefEqProofs [c0]
      first | refine dcallK (eqI_own og (x.eav_is p) (fun p hp => List.mem_append_left _ hp) (show (x.eres p).length ≤ 1048576 by omega)) ?_ | (refine (eqI_own og (x.eav_is p) (fun p hp => List.mem_append_left _ hp) (show (x.eres p).length ≤ 1048576 by omega)).mono ?_; rintro v h' ⟨rfl, rfl⟩; refine gK.go ?_)
      simp -implicitDefEqProofs [c0]
      first | refine dcallK (toPhases_c x _ lx) ?_ | (refine (toPhases_c x _ lx).mono ?_; rintro v h' ⟨rfl, rfl⟩; refine gK.go ?_)
      simp -implicitDefEqProofs [c0]
      first | refine dcallK (eqPh_own o0 x.is (fun p hp => List.mem_append_right _ (List.mem_append_right _ (hp))) lx) ?_ | (refine (eqPh_own o0 x.is (fun p hp => List.mem_append_right _ (List.mem_append_right _ (hp))) lx).mono ?_; rintro v h' ⟨rfl, rfl⟩; refine gK.go ?_)
      simp -implicitDefEqProofs [c0]
      first | refine dcallK (toInt64S_c p _ lp) ?_ | (refine (toInt64S_c p _ lp).mono ?_; rintro v h' ⟨rfl, rfl⟩; refine gK.go ?_)
      simp -implicitDefEqProofs [c0]
      first | refine dcallK (eqI_own o1 (.snap p) (fun p hp => List.mem_append_right _ (List.mem_append_left _ hp)) lp) ?_ | (refine (eqI_own o1 (.snap p) (fun p hp => List.mem_append_right _ (List.mem_append_left _ hp)) lp).mono ?_; rintro v h' ⟨rfl, rfl⟩; refine gK.go ?_)
      simp -implicitDefEqProofs [c0]
      refine (markPh_drop o0 (gg ++ g1) (fun p hp => List.mem_append_right _ (List.mem_append_right _ (hp))) ?_ ?_ (1) (by omega) (by omega)).monoN ?_
      · simpa only [List.append_assoc] using keepL (a := (gg ++ g1)) (b := g0) (by simpa only [List.append_assoc] using ng)
      · exact fun nd => nodupL (a := (gg ++ g1)) (b := g0) (by simpa only [List.append_assoc] using nd)
      rintro _ _ ⟨e1, e2⟩ nk0
      rw [e1, e2]; rw [e2] at nk0
      refine gK.go ?_
      simp -implicitDefEqProofs [c0]
      refine (markI_drop o1 gg (fun p hp => List.mem_append_right _ (hp)) ?_ ?_ (1 + 3 * (x.ts.length : Int)) (by omega) (by omega)).monoN ?_
      · simpa only [List.append_assoc] using keepL (a := gg) (b := g1) (by simpa only [List.append_assoc] using nk0)
      · exact fun nd => nodupL (a := gg) (b := g1) (by simpa only [List.append_assoc] using nd)
      rintro _ _ ⟨e1, e2⟩ nk1
      rw [e1, e2]; rw [e2] at nk1
      refine gK.go ?_
      have hk : ¬ (1 + 3 * (x.ts.length : Int) + (p.length : Int)) < 0 := by omega
      simp -implicitDefEqProofs [c0, hk]
      first | refine dcallK (eqI_own og (x.eav_is p) (fun p hp => hp) (show (x.eres p).length ≤ 1048576 by omega)) ?_ | (refine (eqI_own og (x.eav_is p) (fun p hp => hp) (show (x.eres p).length ≤ 1048576 by omega)).mono ?_; rintro v h' ⟨rfl, rfl⟩; refine gK.go ?_)
      simp -implicitDefEqProofs [c0]
      skip
      refine (markI_keep og [] (fun p hp => hp) keepN (fun _ => by simp [dom]) 1 (by omega) (by have := (show (x.eres p).length ≤ 1048576 by omega); omega)).mono ?_
      rintro _ _ ⟨gm, rfl, om, rfl⟩
      refine gK.go ?_
      simp -implicitDefEqProofs [c0]
      have hq : ¬ (1 + ((x.eres p).length : Int) < 0) := by omega
      first | refine dcallK (heldI_own om (fun p hp => hp) 1 (by omega) (by have := (show (x.eres p).length ≤ 1048576 by omega); simp; omega)) ?_ | (refine (heldI_own om (fun p hp => hp) 1 (by omega) (by have := (show (x.eres p).length ≤ 1048576 by omega); simp; omega)).mono ?_; rintro v h' ⟨rfl, rfl⟩; refine gK.go ?_)
      simp -implicitDefEqProofs [c0, hq]
      first | refine dcallK (toPhases_c x _ lx) ?_ | (refine (toPhases_c x _ lx).mono ?_; rintro v h' ⟨rfl, rfl⟩; refine gK.go ?_)
      simp -implicitDefEqProofs [c0]
      first | refine dcallK (toInt64S_c p _ lp) ?_ | (refine (toInt64S_c p _ lp).mono ?_; rintro v h' ⟨rfl, rfl⟩; refine gK.go ?_)
      simp -implicitDefEqProofs [c0]
      refine (ACalls.gives [] (by simp) (S := fun v h' => ∃ w, v = .tup [w, .int .i64 (x.ecode p)] ∧ OwnL iv 1 w (x.eres p) h') ?_ ?_).mono ?_
      · exact implErrors_o x p hx.1 lx lp
      · rintro v h' ⟨w, rfl, ho⟩
        have := ho.own own_iv1
        exact ⟨by simp [own, owns, this.1], this.2⟩
      rintro _ _ ⟨g9, ⟨w9, rfl, o9⟩, d9, rfl⟩
      refine gK.go ?_
      simp -implicitDefEqProofs [c0, hq]
      first | refine dcallK (eqI_own o9 (x.eav_is p) (fun p hp => List.mem_append_left _ hp) (show (x.eres p).length ≤ 1048576 by omega)) ?_ | (refine (eqI_own o9 (x.eav_is p) (fun p hp => List.mem_append_left _ hp) (show (x.eres p).length ≤ 1048576 by omega)).mono ?_; rintro v h' ⟨rfl, rfl⟩; refine gK.go ?_)
      simp -implicitDefEqProofs [c0, hq]
      first | refine dcallK (heldI_own om (fun p hp => List.mem_append_right _ hp) 1 (by omega) (by have := (show (x.eres p).length ≤ 1048576 by omega); simp; omega)) ?_ | (refine (heldI_own om (fun p hp => List.mem_append_right _ hp) 1 (by omega) (by have := (show (x.eres p).length ≤ 1048576 by omega); simp; omega)).mono ?_; rintro v h' ⟨rfl, rfl⟩; refine gK.go ?_)
      simp -implicitDefEqProofs [c0, hq]
      exact Post.none ⟨rfl, rfl⟩
    · have hAx : (1048576 : Int) < x.ts.length := by omega
      simp -implicitDefEqProofs [hx2_x, hx2_p, hAp, hAx]
      exact .base ⟨rfl, rfl⟩
  · have hAp : (1048576 : Int) < p.length := by omega
    simp -implicitDefEqProofs [hx2_x, hx2_p, hAp]
    exact .base ⟨rfl, rfl⟩
end Go.AG
namespace Go.Proofs.Ytknonamjhdlmlaa
open Go.ChangeShapes Go.WideShapes Go.ChangeAt Go.RowKit Go.AG
theorem own : ownKnob Try.prog.godebug = none := by kernel_rfl
theorem laidOut : laidOutB Try.prog = true := by kernel_rfl
set_option maxRecDepth 100000 in
theorem fnExactErrorsOf_lifted (os : Os) (started : os.Started) (H : Type) (enc : TypeId × Value → H) :
    ReturnsInHanded {} Try.checked os 7 .any (Rows.fnExactErrorsOfSpec.pre6 enc Try.prog Try.f7 Rows.fnExactErrorsOfRow.domain false) (Rows.fnExactErrorsOfSpec.post enc Try.prog Try.f7 false true false false) := by
  refine returnsInHanded_of_change (C := Try.checked) own started (by kernel_rfl) Try.func7
    (ChangeSpec.witness6 (enc := enc) (C := Try.checked) false ⟨#[], #[.agg #[.int .i64 0, .int .i64 0, .slice none 0 0], .slice none 0 0], []⟩ 8 (by kernel_rfl) (by kernel_rfl) (by kernel_rfl) (by kernel_rfl)) ?_
  intro W base args ds gs before hval0 hW _ _
  have hval : ∀ (j : Nat) t v, Try.f7.params[j]? = some t → args[j]? = some v → Value.okWide Try.prog W .any base t v := hval0
  refine law_post (tys := [tyPh, (.slice (.int .i64))]) (tb := 4) laidOut rfl (by kernel_rfl) (by kernel_rfl) (by kernel_rfl) (by kernel_rfl) hval hW ?_ ?_
  · intro ds h
    match ds, h with
    | [a0, a1], _ => rfl
  · rintro xs ⟨x0, r0, rfl, h0, x1, r1, rfl, h1, hr⟩
    have hr0 : r1 = [] := hr
    subst hr0
    obtain ⟨p0, rfl, q0⟩ := Ph_of_shape h0
    obtain ⟨p1, rfl, q1⟩ := Ints_of_shape h1
    exact errors_law p0 q0 p1 q1
theorem fnExactErrorsOf_holds : Rows.FnExactErrorsOfSaid :=
  OpenClaim.holds_of_wide 7 Try.f7 rfl rfl rfl rfl rfl rfl rfl ⟨rfl, rfl, rfl, rfl, rfl⟩ rfl rfl rfl rfl rfl (by kernel_rfl) Try.func7 (by kernel_rfl)
    (of_decide_eq_true (by kernel_rfl)) (by unfold Func.isWrapper; first | (rw [if_pos (by decide +kernel)]; kernel_rfl) | (rw [if_neg (by decide +kernel)]; exact ⟨rfl, rfl⟩))
    (fun os started H enc _ => fnExactErrorsOf_lifted os started H enc)
end Go.Proofs.Ytknonamjhdlmlaa
