/- The law FnExactLongBars is true for every input: the program's LongBars returns what the reference's returns. -/
import Derived.Test.YtdgahpcgenlcjaaBrLong
namespace Go.AG
open Go.Proofs Go.Proofs.Ytdgahpcgenlcjaa
set_option linter.unusedSimpArgs false
set_option linter.unusedVariables false
set_option maxRecDepth 4000
noncomputable def orcM : List (Nat × (List AV → Option (Prop × AV))) := (9, o_szBarS) :: []
theorem orcM_p : Pure Try.prog (lk orcM) := (lk_pure o_szBarS_k lk_pure0)
@[simp] theorem orcM_l (g : FuncId) (l : List AV) : lk orcM g l = if g = 9 then o_szBarS l else none := nr rfl
abbrev c_laws_FnExactLongBars_o0 : List AJ := [.o ⟨(some 4), none, false, .mv (.c (.bool false)), (some [0, 1])⟩]
def c_laws_FnExactLongBars_0 : ACode := .region c_laws_FnExactLongBars_o0
abbrev c_laws_FnExactLongBars_o1 : List AJ := [.o ⟨(some 5), none, false, .mv (.c (.int .i64 1048576)), (some [0, 1, 5])⟩]
def c_laws_FnExactLongBars_1 : ACode := .region c_laws_FnExactLongBars_o1
abbrev c_laws_FnExactLongBars_o2 : List AJ := [.o ⟨(some 16), none, false, .mv (.t 0), none⟩, .o ⟨(some 17), none, false, .mv (.t 5), none⟩, .o ⟨(some 18), none, false, .call 9 [(.t 16), (.t 17)], none⟩, .o ⟨(some 5), none, false, .mv (.t 18), (some [0, 1, 5])⟩]
def c_laws_FnExactLongBars_2 : ACode := .region c_laws_FnExactLongBars_o2
abbrev c_laws_FnExactLongBars_o3 : List AJ := [.o ⟨(some 19), none, false, .mv (.t 5), none⟩, .o ⟨(some 20), none, false, .bin .lss (.t 19) (.c (.int .i64 0)), (some [0, 1, 20])⟩]
def c_laws_FnExactLongBars_3 : ACode := .region c_laws_FnExactLongBars_o3
abbrev c_laws_FnExactLongBars_o4 : List AJ := [.o ⟨(some 4), none, false, .mv (.c (.bool true)), (some [4])⟩]
def c_laws_FnExactLongBars_4 : ACode := .region c_laws_FnExactLongBars_o4
def c_laws_FnExactLongBars_5 : ACode := .seq c_laws_FnExactLongBars_4 .ret
def c_laws_FnExactLongBars_6 : ACode := .cond (.t 20) c_laws_FnExactLongBars_5 .skip
def c_laws_FnExactLongBars_7 : ACode := .seq c_laws_FnExactLongBars_3 c_laws_FnExactLongBars_6
abbrev c_laws_FnExactLongBars_o5 : List AJ := [.o ⟨(some 22), none, false, .mv (.t 0), none⟩, .o ⟨(some 23), none, false, .call 11 [(.t 22)], none⟩, .o ⟨(some 24), none, false, .mv (.t 1), none⟩, .o ⟨(some 25), none, false, .call 19 [(.t 23), (.t 24)], none⟩, .o ⟨(some 21), none, false, .mv (.t 25), none⟩, .o ⟨(some 26), none, false, .extract (.t 21) 0, none⟩, .o ⟨(some 27), none, false, .extract (.t 21) 1, none⟩, .o ⟨(some 6), none, false, .mv (.t 26), none⟩, .o ⟨(some 7), none, false, .mv (.t 27), (some [0, 1, 6, 7])⟩]
def c_laws_FnExactLongBars_8 : ACode := .region c_laws_FnExactLongBars_o5
abbrev c_laws_FnExactLongBars_o6 : List AJ := [.o ⟨(some 28), none, false, .mv (.t 0), none⟩, .o ⟨(some 29), none, false, .call 11 [(.t 28)], none⟩, .o ⟨(some 8), none, false, .mv (.t 29), (some [0, 1, 6, 7, 8])⟩]
def c_laws_FnExactLongBars_9 : ACode := .region c_laws_FnExactLongBars_o6
abbrev c_laws_FnExactLongBars_o7 : List AJ := [.o ⟨(some 31), none, false, .mv (.t 8), none⟩, .o ⟨(some 32), none, false, .mv (.t 1), none⟩, .o ⟨(some 33), none, false, .call 20 [(.t 31), (.t 32)], none⟩, .o ⟨(some 30), none, false, .mv (.t 33), none⟩, .o ⟨(some 34), none, false, .extract (.t 30) 0, none⟩, .o ⟨(some 35), none, false, .extract (.t 30) 1, none⟩, .o ⟨(some 9), none, false, .mv (.t 34), none⟩, .o ⟨(some 10), none, false, .mv (.t 35), (some [0, 1, 6, 7, 8, 9, 10])⟩]
def c_laws_FnExactLongBars_10 : ACode := .region c_laws_FnExactLongBars_o7
abbrev c_laws_FnExactLongBars_o8 : List AJ := [.o ⟨(some 36), none, false, .mv (.t 9), none⟩, .o ⟨(some 37), none, false, .mv (.t 6), none⟩, .o ⟨(some 38), none, false, .call 13 [(.t 36), (.t 37)], none⟩, .o ⟨(some 39), none, false, .un .not (.t 38), none⟩, .o ⟨(some 40), none, false, .mv (.t 39), none⟩, .o ⟨(some 41), (some (40, false)), false, .mv (.t 10), none⟩, .o ⟨(some 42), (some (40, false)), false, .mv (.t 7), none⟩, .o ⟨(some 43), (some (40, false)), false, .bin .neq (.t 41) (.t 42), none⟩, .o ⟨(some 44), none, false, .pick (.t 40) (.c (.bool true)) (.t 43), (some [0, 1, 6, 7, 8, 9, 10, 44])⟩]
def c_laws_FnExactLongBars_11 : ACode := .region c_laws_FnExactLongBars_o8
abbrev c_laws_FnExactLongBars_o9 : List AJ := [.o ⟨(some 4), none, false, .mv (.c (.bool false)), (some [4])⟩]
def c_laws_FnExactLongBars_12 : ACode := .region c_laws_FnExactLongBars_o9
def c_laws_FnExactLongBars_13 : ACode := .seq c_laws_FnExactLongBars_12 .ret
def c_laws_FnExactLongBars_14 : ACode := .cond (.t 44) c_laws_FnExactLongBars_13 .skip
def c_laws_FnExactLongBars_15 : ACode := .seq c_laws_FnExactLongBars_11 c_laws_FnExactLongBars_14
abbrev c_laws_FnExactLongBars_o10 : List AJ := [.o ⟨(some 45), none, false, .mv (.t 8), none⟩, .o ⟨(some 46), none, false, .mv (.t 0), none⟩, .o ⟨(some 47), none, false, .call 11 [(.t 46)], none⟩, .o ⟨(some 48), none, false, .call 13 [(.t 45), (.t 47)], none⟩, .o ⟨(some 49), none, false, .un .not (.t 48), (some [0, 1, 6, 7, 8, 9, 10, 49])⟩]
def c_laws_FnExactLongBars_16 : ACode := .region c_laws_FnExactLongBars_o10
abbrev c_laws_FnExactLongBars_o11 : List AJ := [.o ⟨(some 4), none, false, .mv (.c (.bool false)), (some [4])⟩]
def c_laws_FnExactLongBars_17 : ACode := .region c_laws_FnExactLongBars_o11
def c_laws_FnExactLongBars_18 : ACode := .seq c_laws_FnExactLongBars_17 .ret
def c_laws_FnExactLongBars_19 : ACode := .cond (.t 49) c_laws_FnExactLongBars_18 .skip
def c_laws_FnExactLongBars_20 : ACode := .seq c_laws_FnExactLongBars_16 c_laws_FnExactLongBars_19
abbrev c_laws_FnExactLongBars_o12 : List AJ := [.o ⟨(some 11), none, false, .mv (.c (.int .i64 1)), (some [0, 1, 6, 7, 8, 9, 10, 11])⟩]
def c_laws_FnExactLongBars_21 : ACode := .region c_laws_FnExactLongBars_o12
abbrev c_laws_FnExactLongBars_o13 : List AJ := [.o ⟨(some 50), none, false, .mv (.t 8), none⟩, .o ⟨(some 51), none, false, .mv (.t 11), none⟩, .o ⟨(some 52), none, false, .call 21 [(.t 50), (.t 51)], none⟩, .o ⟨(some 11), none, false, .mv (.t 52), (some [0, 1, 6, 7, 9, 10, 11])⟩]
def c_laws_FnExactLongBars_22 : ACode := .region c_laws_FnExactLongBars_o13
abbrev c_laws_FnExactLongBars_o14 : List AJ := [.o ⟨(some 53), none, false, .mv (.t 11), none⟩, .o ⟨(some 54), none, false, .bin .lss (.t 53) (.c (.int .i64 0)), none⟩, .o ⟨(some 55), none, false, .mv (.t 54), none⟩, .o ⟨(some 56), (some (55, false)), false, .mv (.t 9), none⟩, .o ⟨(some 57), (some (55, false)), false, .mv (.t 6), none⟩, .o ⟨(some 58), (some (55, false)), false, .call 13 [(.t 56), (.t 57)], none⟩, .o ⟨(some 59), (some (55, false)), false, .un .not (.t 58), none⟩, .o ⟨(some 60), none, false, .pick (.t 55) (.c (.bool true)) (.t 59), none⟩, .o ⟨(some 61), none, false, .mv (.t 60), none⟩, .o ⟨(some 62), (some (61, false)), false, .mv (.t 10), (some [0, 1, 6, 7, 9, 61, 62])⟩, .o ⟨(some 63), (some (61, false)), false, .mv (.t 7), none⟩, .o ⟨(some 64), (some (61, false)), false, .bin .neq (.t 62) (.t 63), none⟩, .o ⟨(some 65), none, false, .pick (.t 61) (.c (.bool true)) (.t 64), (some [0, 1, 6, 7, 9, 65])⟩]
def c_laws_FnExactLongBars_23 : ACode := .region c_laws_FnExactLongBars_o14
abbrev c_laws_FnExactLongBars_o15 : List AJ := [.o ⟨(some 4), none, false, .mv (.c (.bool false)), (some [4])⟩]
def c_laws_FnExactLongBars_24 : ACode := .region c_laws_FnExactLongBars_o15
def c_laws_FnExactLongBars_25 : ACode := .seq c_laws_FnExactLongBars_24 .ret
def c_laws_FnExactLongBars_26 : ACode := .cond (.t 65) c_laws_FnExactLongBars_25 .skip
def c_laws_FnExactLongBars_27 : ACode := .seq c_laws_FnExactLongBars_23 c_laws_FnExactLongBars_26
abbrev c_laws_FnExactLongBars_o16 : List AJ := [.o ⟨(some 12), none, false, .mv (.c (.int .i64 1)), (some [0, 1, 6, 7, 9, 12])⟩]
def c_laws_FnExactLongBars_28 : ACode := .region c_laws_FnExactLongBars_o16
abbrev c_laws_FnExactLongBars_o17 : List AJ := [.o ⟨(some 66), none, false, .mv (.t 9), none⟩, .o ⟨(some 67), none, false, .mv (.t 12), none⟩, .o ⟨(some 68), none, false, .call 21 [(.t 66), (.t 67)], none⟩, .o ⟨(some 12), none, false, .mv (.t 68), (some [0, 1, 6, 7, 9, 12])⟩]
def c_laws_FnExactLongBars_29 : ACode := .region c_laws_FnExactLongBars_o17
abbrev c_laws_FnExactLongBars_o18 : List AJ := [.o ⟨(some 13), none, false, .mv (.c (.int .i64 1)), (some [0, 1, 6, 7, 9, 12, 13])⟩]
def c_laws_FnExactLongBars_30 : ACode := .region c_laws_FnExactLongBars_o18
abbrev c_laws_FnExactLongBars_o19 : List AJ := [.o ⟨(some 69), none, false, .mv (.t 9), none⟩, .o ⟨(some 70), none, false, .mv (.t 13), none⟩, .o ⟨(some 71), none, false, .call 22 [(.t 69), (.t 70)], none⟩, .o ⟨(some 13), none, false, .mv (.t 71), (some [0, 1, 6, 7, 9, 12, 13])⟩]
def c_laws_FnExactLongBars_31 : ACode := .region c_laws_FnExactLongBars_o19
abbrev c_laws_FnExactLongBars_o20 : List AJ := [.o ⟨(some 72), none, false, .mv (.t 13), none⟩, .o ⟨(some 73), none, false, .bin .lss (.t 72) (.c (.int .i64 0)), (some [0, 1, 6, 7, 9, 12, 13, 73])⟩]
def c_laws_FnExactLongBars_32 : ACode := .region c_laws_FnExactLongBars_o20
abbrev c_laws_FnExactLongBars_o21 : List AJ := [.o ⟨(some 4), none, false, .mv (.c (.bool false)), (some [4])⟩]
def c_laws_FnExactLongBars_33 : ACode := .region c_laws_FnExactLongBars_o21
def c_laws_FnExactLongBars_34 : ACode := .seq c_laws_FnExactLongBars_33 .ret
def c_laws_FnExactLongBars_35 : ACode := .cond (.t 73) c_laws_FnExactLongBars_34 .skip
def c_laws_FnExactLongBars_36 : ACode := .seq c_laws_FnExactLongBars_32 c_laws_FnExactLongBars_35
abbrev c_laws_FnExactLongBars_o22 : List AJ := [.o ⟨(some 74), none, false, .mv (.t 13), none⟩, .o ⟨(some 75), none, false, .mv (.t 12), none⟩, .o ⟨(some 76), none, false, .bin .neq (.t 74) (.t 75), (some [0, 1, 6, 7, 9, 12, 76])⟩]
def c_laws_FnExactLongBars_37 : ACode := .region c_laws_FnExactLongBars_o22
abbrev c_laws_FnExactLongBars_o23 : List AJ := [.o ⟨(some 4), none, false, .mv (.c (.bool false)), (some [4])⟩]
def c_laws_FnExactLongBars_38 : ACode := .region c_laws_FnExactLongBars_o23
def c_laws_FnExactLongBars_39 : ACode := .seq c_laws_FnExactLongBars_38 .ret
def c_laws_FnExactLongBars_40 : ACode := .cond (.t 76) c_laws_FnExactLongBars_39 .skip
def c_laws_FnExactLongBars_41 : ACode := .seq c_laws_FnExactLongBars_37 c_laws_FnExactLongBars_40
abbrev c_laws_FnExactLongBars_o24 : List AJ := [.o ⟨(some 78), none, false, .mv (.t 0), none⟩, .o ⟨(some 79), none, false, .call 11 [(.t 78)], none⟩, .o ⟨(some 80), none, false, .mv (.t 1), none⟩, .o ⟨(some 81), none, false, .call 20 [(.t 79), (.t 80)], none⟩, .o ⟨(some 77), none, false, .mv (.t 81), none⟩, .o ⟨(some 82), none, false, .extract (.t 77) 0, none⟩, .o ⟨(some 83), none, false, .extract (.t 77) 1, none⟩, .o ⟨(some 14), none, false, .mv (.t 82), none⟩, .o ⟨(some 15), none, false, .mv (.t 83), (some [6, 7, 9, 12, 14, 15])⟩]
def c_laws_FnExactLongBars_42 : ACode := .region c_laws_FnExactLongBars_o24
abbrev c_laws_FnExactLongBars_o25 : List AJ := [.o ⟨(some 84), none, false, .mv (.t 14), none⟩, .o ⟨(some 85), none, false, .mv (.t 6), none⟩, .o ⟨(some 86), none, false, .call 13 [(.t 84), (.t 85)], none⟩, .o ⟨(some 87), none, false, .un .not (.t 86), none⟩, .o ⟨(some 88), none, false, .mv (.t 87), none⟩, .o ⟨(some 89), (some (88, false)), false, .mv (.t 15), none⟩, .o ⟨(some 90), (some (88, false)), false, .mv (.t 7), none⟩, .o ⟨(some 91), (some (88, false)), false, .bin .neq (.t 89) (.t 90), none⟩, .o ⟨(some 92), none, false, .pick (.t 88) (.c (.bool true)) (.t 91), (some [9, 12, 92])⟩]
def c_laws_FnExactLongBars_43 : ACode := .region c_laws_FnExactLongBars_o25
abbrev c_laws_FnExactLongBars_o26 : List AJ := [.o ⟨(some 4), none, false, .mv (.c (.bool false)), (some [4])⟩]
def c_laws_FnExactLongBars_44 : ACode := .region c_laws_FnExactLongBars_o26
def c_laws_FnExactLongBars_45 : ACode := .seq c_laws_FnExactLongBars_44 .ret
def c_laws_FnExactLongBars_46 : ACode := .cond (.t 92) c_laws_FnExactLongBars_45 .skip
def c_laws_FnExactLongBars_47 : ACode := .seq c_laws_FnExactLongBars_43 c_laws_FnExactLongBars_46
abbrev c_laws_FnExactLongBars_o27 : List AJ := [.o ⟨(some 13), none, false, .mv (.c (.int .i64 1)), (some [9, 12, 13])⟩]
def c_laws_FnExactLongBars_48 : ACode := .region c_laws_FnExactLongBars_o27
abbrev c_laws_FnExactLongBars_o28 : List AJ := [.o ⟨(some 93), none, false, .mv (.t 9), none⟩, .o ⟨(some 94), none, false, .mv (.t 13), none⟩, .o ⟨(some 95), none, false, .call 22 [(.t 93), (.t 94)], none⟩, .o ⟨(some 13), none, false, .mv (.t 95), (some [12, 13])⟩]
def c_laws_FnExactLongBars_49 : ACode := .region c_laws_FnExactLongBars_o28
abbrev c_laws_FnExactLongBars_o29 : List AJ := [.o ⟨(some 96), none, false, .mv (.t 13), none⟩, .o ⟨(some 97), none, false, .bin .lss (.t 96) (.c (.int .i64 0)), (some [12, 13, 97])⟩]
def c_laws_FnExactLongBars_50 : ACode := .region c_laws_FnExactLongBars_o29
abbrev c_laws_FnExactLongBars_o30 : List AJ := [.o ⟨(some 4), none, false, .mv (.c (.bool false)), (some [4])⟩]
def c_laws_FnExactLongBars_51 : ACode := .region c_laws_FnExactLongBars_o30
def c_laws_FnExactLongBars_52 : ACode := .seq c_laws_FnExactLongBars_51 .ret
def c_laws_FnExactLongBars_53 : ACode := .cond (.t 97) c_laws_FnExactLongBars_52 .skip
def c_laws_FnExactLongBars_54 : ACode := .seq c_laws_FnExactLongBars_50 c_laws_FnExactLongBars_53
abbrev c_laws_FnExactLongBars_o31 : List AJ := [.o ⟨(some 98), none, false, .mv (.t 13), none⟩, .o ⟨(some 99), none, false, .mv (.t 12), none⟩, .o ⟨(some 100), none, false, .bin .neq (.t 98) (.t 99), (some [100])⟩]
def c_laws_FnExactLongBars_55 : ACode := .region c_laws_FnExactLongBars_o31
abbrev c_laws_FnExactLongBars_o32 : List AJ := [.o ⟨(some 4), none, false, .mv (.c (.bool false)), (some [4])⟩]
def c_laws_FnExactLongBars_56 : ACode := .region c_laws_FnExactLongBars_o32
def c_laws_FnExactLongBars_57 : ACode := .seq c_laws_FnExactLongBars_56 .ret
def c_laws_FnExactLongBars_58 : ACode := .cond (.t 100) c_laws_FnExactLongBars_57 .skip
def c_laws_FnExactLongBars_59 : ACode := .seq c_laws_FnExactLongBars_55 c_laws_FnExactLongBars_58
abbrev c_laws_FnExactLongBars_o33 : List AJ := [.o ⟨(some 4), none, false, .mv (.c (.bool true)), (some [4])⟩]
def c_laws_FnExactLongBars_60 : ACode := .region c_laws_FnExactLongBars_o33
def c_laws_FnExactLongBars_61 : ACode := .seq c_laws_FnExactLongBars_60 .ret
def c_laws_FnExactLongBars_62 : ACode := .seq c_laws_FnExactLongBars_59 c_laws_FnExactLongBars_61
def c_laws_FnExactLongBars_63 : ACode := .seq c_laws_FnExactLongBars_54 c_laws_FnExactLongBars_62
def c_laws_FnExactLongBars_64 : ACode := .seq c_laws_FnExactLongBars_49 c_laws_FnExactLongBars_63
def c_laws_FnExactLongBars_65 : ACode := .seq c_laws_FnExactLongBars_48 c_laws_FnExactLongBars_64
def c_laws_FnExactLongBars_66 : ACode := .seq c_laws_FnExactLongBars_47 c_laws_FnExactLongBars_65
def c_laws_FnExactLongBars_67 : ACode := .seq c_laws_FnExactLongBars_42 c_laws_FnExactLongBars_66
def c_laws_FnExactLongBars_68 : ACode := .seq c_laws_FnExactLongBars_41 c_laws_FnExactLongBars_67
def c_laws_FnExactLongBars_69 : ACode := .seq c_laws_FnExactLongBars_36 c_laws_FnExactLongBars_68
def c_laws_FnExactLongBars_70 : ACode := .seq c_laws_FnExactLongBars_31 c_laws_FnExactLongBars_69
def c_laws_FnExactLongBars_71 : ACode := .seq c_laws_FnExactLongBars_30 c_laws_FnExactLongBars_70
def c_laws_FnExactLongBars_72 : ACode := .seq c_laws_FnExactLongBars_29 c_laws_FnExactLongBars_71
def c_laws_FnExactLongBars_73 : ACode := .seq c_laws_FnExactLongBars_28 c_laws_FnExactLongBars_72
def c_laws_FnExactLongBars_74 : ACode := .seq c_laws_FnExactLongBars_27 c_laws_FnExactLongBars_73
def c_laws_FnExactLongBars_75 : ACode := .seq c_laws_FnExactLongBars_22 c_laws_FnExactLongBars_74
def c_laws_FnExactLongBars_76 : ACode := .seq c_laws_FnExactLongBars_21 c_laws_FnExactLongBars_75
def c_laws_FnExactLongBars_77 : ACode := .seq c_laws_FnExactLongBars_20 c_laws_FnExactLongBars_76
def c_laws_FnExactLongBars_78 : ACode := .seq c_laws_FnExactLongBars_15 c_laws_FnExactLongBars_77
def c_laws_FnExactLongBars_79 : ACode := .seq c_laws_FnExactLongBars_10 c_laws_FnExactLongBars_78
def c_laws_FnExactLongBars_80 : ACode := .seq c_laws_FnExactLongBars_9 c_laws_FnExactLongBars_79
def c_laws_FnExactLongBars_81 : ACode := .seq c_laws_FnExactLongBars_8 c_laws_FnExactLongBars_80
def c_laws_FnExactLongBars_82 : ACode := .seq c_laws_FnExactLongBars_7 c_laws_FnExactLongBars_81
def c_laws_FnExactLongBars_83 : ACode := .seq c_laws_FnExactLongBars_2 c_laws_FnExactLongBars_82
def c_laws_FnExactLongBars_84 : ACode := .seq c_laws_FnExactLongBars_1 c_laws_FnExactLongBars_83
def c_laws_FnExactLongBars_85 : ACode := .seq c_laws_FnExactLongBars_0 c_laws_FnExactLongBars_84
section
variable (C : Cx) (n : Nat) (sk : List AItem) (e : Env) (h : Heap) (R : AV → Heap → Prop)
@[simp, simp ↓] theorem c_laws_FnExactLongBars_0_r : vc2 C (n + 1) [] (.code c_laws_FnExactLongBars_0 :: sk) e h R = (vc2 C n c_laws_FnExactLongBars_o0 sk e h R) := nr rfl
@[simp, simp ↓] theorem c_laws_FnExactLongBars_1_r : vc2 C (n + 1) [] (.code c_laws_FnExactLongBars_1 :: sk) e h R = (vc2 C n c_laws_FnExactLongBars_o1 sk e h R) := nr rfl
@[simp, simp ↓] theorem c_laws_FnExactLongBars_2_r : vc2 C (n + 1) [] (.code c_laws_FnExactLongBars_2 :: sk) e h R = (vc2 C n c_laws_FnExactLongBars_o2 sk e h R) := nr rfl
@[simp, simp ↓] theorem c_laws_FnExactLongBars_3_r : vc2 C (n + 1) [] (.code c_laws_FnExactLongBars_3 :: sk) e h R = (vc2 C n c_laws_FnExactLongBars_o3 sk e h R) := nr rfl
@[simp, simp ↓] theorem c_laws_FnExactLongBars_4_r : vc2 C (n + 1) [] (.code c_laws_FnExactLongBars_4 :: sk) e h R = (vc2 C n c_laws_FnExactLongBars_o4 sk e h R) := nr rfl
@[simp, simp ↓] theorem c_laws_FnExactLongBars_5_r : vc2 C (n + 1) [] (.code c_laws_FnExactLongBars_5 :: sk) e h R = (vc2 C n [] (.code c_laws_FnExactLongBars_4 :: .code .ret :: sk) e h R) := nr rfl
@[simp, simp ↓] theorem c_laws_FnExactLongBars_6_r : vc2 C (n + 1) [] (.code c_laws_FnExactLongBars_6 :: sk) e h R = (condK (ev e (.t 20)) (vc2 C n [] (.code c_laws_FnExactLongBars_5 :: sk) e h R) (vc2 C n [] (.code .skip :: sk) e h R)) := nr rfl
@[simp, simp ↓] theorem c_laws_FnExactLongBars_7_r : vc2 C (n + 1) [] (.code c_laws_FnExactLongBars_7 :: sk) e h R = (vc2 C n [] (.code c_laws_FnExactLongBars_3 :: .code c_laws_FnExactLongBars_6 :: sk) e h R) := nr rfl
@[simp, simp ↓] theorem c_laws_FnExactLongBars_8_r : vc2 C (n + 1) [] (.code c_laws_FnExactLongBars_8 :: sk) e h R = (vc2 C n c_laws_FnExactLongBars_o5 sk e h R) := nr rfl
@[simp, simp ↓] theorem c_laws_FnExactLongBars_9_r : vc2 C (n + 1) [] (.code c_laws_FnExactLongBars_9 :: sk) e h R = (vc2 C n c_laws_FnExactLongBars_o6 sk e h R) := nr rfl
@[simp, simp ↓] theorem c_laws_FnExactLongBars_10_r : vc2 C (n + 1) [] (.code c_laws_FnExactLongBars_10 :: sk) e h R = (vc2 C n c_laws_FnExactLongBars_o7 sk e h R) := nr rfl
@[simp, simp ↓] theorem c_laws_FnExactLongBars_11_r : vc2 C (n + 1) [] (.code c_laws_FnExactLongBars_11 :: sk) e h R = (vc2 C n c_laws_FnExactLongBars_o8 sk e h R) := nr rfl
@[simp, simp ↓] theorem c_laws_FnExactLongBars_12_r : vc2 C (n + 1) [] (.code c_laws_FnExactLongBars_12 :: sk) e h R = (vc2 C n c_laws_FnExactLongBars_o9 sk e h R) := nr rfl
@[simp, simp ↓] theorem c_laws_FnExactLongBars_13_r : vc2 C (n + 1) [] (.code c_laws_FnExactLongBars_13 :: sk) e h R = (vc2 C n [] (.code c_laws_FnExactLongBars_12 :: .code .ret :: sk) e h R) := nr rfl
@[simp, simp ↓] theorem c_laws_FnExactLongBars_14_r : vc2 C (n + 1) [] (.code c_laws_FnExactLongBars_14 :: sk) e h R = (condK (ev e (.t 44)) (vc2 C n [] (.code c_laws_FnExactLongBars_13 :: sk) e h R) (vc2 C n [] (.code .skip :: sk) e h R)) := nr rfl
@[simp, simp ↓] theorem c_laws_FnExactLongBars_15_r : vc2 C (n + 1) [] (.code c_laws_FnExactLongBars_15 :: sk) e h R = (vc2 C n [] (.code c_laws_FnExactLongBars_11 :: .code c_laws_FnExactLongBars_14 :: sk) e h R) := nr rfl
@[simp, simp ↓] theorem c_laws_FnExactLongBars_16_r : vc2 C (n + 1) [] (.code c_laws_FnExactLongBars_16 :: sk) e h R = (vc2 C n c_laws_FnExactLongBars_o10 sk e h R) := nr rfl
@[simp, simp ↓] theorem c_laws_FnExactLongBars_17_r : vc2 C (n + 1) [] (.code c_laws_FnExactLongBars_17 :: sk) e h R = (vc2 C n c_laws_FnExactLongBars_o11 sk e h R) := nr rfl
@[simp, simp ↓] theorem c_laws_FnExactLongBars_18_r : vc2 C (n + 1) [] (.code c_laws_FnExactLongBars_18 :: sk) e h R = (vc2 C n [] (.code c_laws_FnExactLongBars_17 :: .code .ret :: sk) e h R) := nr rfl
@[simp, simp ↓] theorem c_laws_FnExactLongBars_19_r : vc2 C (n + 1) [] (.code c_laws_FnExactLongBars_19 :: sk) e h R = (condK (ev e (.t 49)) (vc2 C n [] (.code c_laws_FnExactLongBars_18 :: sk) e h R) (vc2 C n [] (.code .skip :: sk) e h R)) := nr rfl
@[simp, simp ↓] theorem c_laws_FnExactLongBars_20_r : vc2 C (n + 1) [] (.code c_laws_FnExactLongBars_20 :: sk) e h R = (vc2 C n [] (.code c_laws_FnExactLongBars_16 :: .code c_laws_FnExactLongBars_19 :: sk) e h R) := nr rfl
@[simp, simp ↓] theorem c_laws_FnExactLongBars_21_r : vc2 C (n + 1) [] (.code c_laws_FnExactLongBars_21 :: sk) e h R = (vc2 C n c_laws_FnExactLongBars_o12 sk e h R) := nr rfl
@[simp, simp ↓] theorem c_laws_FnExactLongBars_22_r : vc2 C (n + 1) [] (.code c_laws_FnExactLongBars_22 :: sk) e h R = (vc2 C n c_laws_FnExactLongBars_o13 sk e h R) := nr rfl
@[simp, simp ↓] theorem c_laws_FnExactLongBars_23_r : vc2 C (n + 1) [] (.code c_laws_FnExactLongBars_23 :: sk) e h R = (vc2 C n c_laws_FnExactLongBars_o14 sk e h R) := nr rfl
@[simp, simp ↓] theorem c_laws_FnExactLongBars_24_r : vc2 C (n + 1) [] (.code c_laws_FnExactLongBars_24 :: sk) e h R = (vc2 C n c_laws_FnExactLongBars_o15 sk e h R) := nr rfl
@[simp, simp ↓] theorem c_laws_FnExactLongBars_25_r : vc2 C (n + 1) [] (.code c_laws_FnExactLongBars_25 :: sk) e h R = (vc2 C n [] (.code c_laws_FnExactLongBars_24 :: .code .ret :: sk) e h R) := nr rfl
@[simp, simp ↓] theorem c_laws_FnExactLongBars_26_r : vc2 C (n + 1) [] (.code c_laws_FnExactLongBars_26 :: sk) e h R = (condK (ev e (.t 65)) (vc2 C n [] (.code c_laws_FnExactLongBars_25 :: sk) e h R) (vc2 C n [] (.code .skip :: sk) e h R)) := nr rfl
@[simp, simp ↓] theorem c_laws_FnExactLongBars_27_r : vc2 C (n + 1) [] (.code c_laws_FnExactLongBars_27 :: sk) e h R = (vc2 C n [] (.code c_laws_FnExactLongBars_23 :: .code c_laws_FnExactLongBars_26 :: sk) e h R) := nr rfl
@[simp, simp ↓] theorem c_laws_FnExactLongBars_28_r : vc2 C (n + 1) [] (.code c_laws_FnExactLongBars_28 :: sk) e h R = (vc2 C n c_laws_FnExactLongBars_o16 sk e h R) := nr rfl
@[simp, simp ↓] theorem c_laws_FnExactLongBars_29_r : vc2 C (n + 1) [] (.code c_laws_FnExactLongBars_29 :: sk) e h R = (vc2 C n c_laws_FnExactLongBars_o17 sk e h R) := nr rfl
@[simp, simp ↓] theorem c_laws_FnExactLongBars_30_r : vc2 C (n + 1) [] (.code c_laws_FnExactLongBars_30 :: sk) e h R = (vc2 C n c_laws_FnExactLongBars_o18 sk e h R) := nr rfl
@[simp, simp ↓] theorem c_laws_FnExactLongBars_31_r : vc2 C (n + 1) [] (.code c_laws_FnExactLongBars_31 :: sk) e h R = (vc2 C n c_laws_FnExactLongBars_o19 sk e h R) := nr rfl
@[simp, simp ↓] theorem c_laws_FnExactLongBars_32_r : vc2 C (n + 1) [] (.code c_laws_FnExactLongBars_32 :: sk) e h R = (vc2 C n c_laws_FnExactLongBars_o20 sk e h R) := nr rfl
@[simp, simp ↓] theorem c_laws_FnExactLongBars_33_r : vc2 C (n + 1) [] (.code c_laws_FnExactLongBars_33 :: sk) e h R = (vc2 C n c_laws_FnExactLongBars_o21 sk e h R) := nr rfl
@[simp, simp ↓] theorem c_laws_FnExactLongBars_34_r : vc2 C (n + 1) [] (.code c_laws_FnExactLongBars_34 :: sk) e h R = (vc2 C n [] (.code c_laws_FnExactLongBars_33 :: .code .ret :: sk) e h R) := nr rfl
@[simp, simp ↓] theorem c_laws_FnExactLongBars_35_r : vc2 C (n + 1) [] (.code c_laws_FnExactLongBars_35 :: sk) e h R = (condK (ev e (.t 73)) (vc2 C n [] (.code c_laws_FnExactLongBars_34 :: sk) e h R) (vc2 C n [] (.code .skip :: sk) e h R)) := nr rfl
@[simp, simp ↓] theorem c_laws_FnExactLongBars_36_r : vc2 C (n + 1) [] (.code c_laws_FnExactLongBars_36 :: sk) e h R = (vc2 C n [] (.code c_laws_FnExactLongBars_32 :: .code c_laws_FnExactLongBars_35 :: sk) e h R) := nr rfl
@[simp, simp ↓] theorem c_laws_FnExactLongBars_37_r : vc2 C (n + 1) [] (.code c_laws_FnExactLongBars_37 :: sk) e h R = (vc2 C n c_laws_FnExactLongBars_o22 sk e h R) := nr rfl
@[simp, simp ↓] theorem c_laws_FnExactLongBars_38_r : vc2 C (n + 1) [] (.code c_laws_FnExactLongBars_38 :: sk) e h R = (vc2 C n c_laws_FnExactLongBars_o23 sk e h R) := nr rfl
@[simp, simp ↓] theorem c_laws_FnExactLongBars_39_r : vc2 C (n + 1) [] (.code c_laws_FnExactLongBars_39 :: sk) e h R = (vc2 C n [] (.code c_laws_FnExactLongBars_38 :: .code .ret :: sk) e h R) := nr rfl
@[simp, simp ↓] theorem c_laws_FnExactLongBars_40_r : vc2 C (n + 1) [] (.code c_laws_FnExactLongBars_40 :: sk) e h R = (condK (ev e (.t 76)) (vc2 C n [] (.code c_laws_FnExactLongBars_39 :: sk) e h R) (vc2 C n [] (.code .skip :: sk) e h R)) := nr rfl
@[simp, simp ↓] theorem c_laws_FnExactLongBars_41_r : vc2 C (n + 1) [] (.code c_laws_FnExactLongBars_41 :: sk) e h R = (vc2 C n [] (.code c_laws_FnExactLongBars_37 :: .code c_laws_FnExactLongBars_40 :: sk) e h R) := nr rfl
@[simp, simp ↓] theorem c_laws_FnExactLongBars_42_r : vc2 C (n + 1) [] (.code c_laws_FnExactLongBars_42 :: sk) e h R = (vc2 C n c_laws_FnExactLongBars_o24 sk e h R) := nr rfl
@[simp, simp ↓] theorem c_laws_FnExactLongBars_43_r : vc2 C (n + 1) [] (.code c_laws_FnExactLongBars_43 :: sk) e h R = (vc2 C n c_laws_FnExactLongBars_o25 sk e h R) := nr rfl
@[simp, simp ↓] theorem c_laws_FnExactLongBars_44_r : vc2 C (n + 1) [] (.code c_laws_FnExactLongBars_44 :: sk) e h R = (vc2 C n c_laws_FnExactLongBars_o26 sk e h R) := nr rfl
@[simp, simp ↓] theorem c_laws_FnExactLongBars_45_r : vc2 C (n + 1) [] (.code c_laws_FnExactLongBars_45 :: sk) e h R = (vc2 C n [] (.code c_laws_FnExactLongBars_44 :: .code .ret :: sk) e h R) := nr rfl
@[simp, simp ↓] theorem c_laws_FnExactLongBars_46_r : vc2 C (n + 1) [] (.code c_laws_FnExactLongBars_46 :: sk) e h R = (condK (ev e (.t 92)) (vc2 C n [] (.code c_laws_FnExactLongBars_45 :: sk) e h R) (vc2 C n [] (.code .skip :: sk) e h R)) := nr rfl
@[simp, simp ↓] theorem c_laws_FnExactLongBars_47_r : vc2 C (n + 1) [] (.code c_laws_FnExactLongBars_47 :: sk) e h R = (vc2 C n [] (.code c_laws_FnExactLongBars_43 :: .code c_laws_FnExactLongBars_46 :: sk) e h R) := nr rfl
@[simp, simp ↓] theorem c_laws_FnExactLongBars_48_r : vc2 C (n + 1) [] (.code c_laws_FnExactLongBars_48 :: sk) e h R = (vc2 C n c_laws_FnExactLongBars_o27 sk e h R) := nr rfl
@[simp, simp ↓] theorem c_laws_FnExactLongBars_49_r : vc2 C (n + 1) [] (.code c_laws_FnExactLongBars_49 :: sk) e h R = (vc2 C n c_laws_FnExactLongBars_o28 sk e h R) := nr rfl
@[simp, simp ↓] theorem c_laws_FnExactLongBars_50_r : vc2 C (n + 1) [] (.code c_laws_FnExactLongBars_50 :: sk) e h R = (vc2 C n c_laws_FnExactLongBars_o29 sk e h R) := nr rfl
@[simp, simp ↓] theorem c_laws_FnExactLongBars_51_r : vc2 C (n + 1) [] (.code c_laws_FnExactLongBars_51 :: sk) e h R = (vc2 C n c_laws_FnExactLongBars_o30 sk e h R) := nr rfl
@[simp, simp ↓] theorem c_laws_FnExactLongBars_52_r : vc2 C (n + 1) [] (.code c_laws_FnExactLongBars_52 :: sk) e h R = (vc2 C n [] (.code c_laws_FnExactLongBars_51 :: .code .ret :: sk) e h R) := nr rfl
@[simp, simp ↓] theorem c_laws_FnExactLongBars_53_r : vc2 C (n + 1) [] (.code c_laws_FnExactLongBars_53 :: sk) e h R = (condK (ev e (.t 97)) (vc2 C n [] (.code c_laws_FnExactLongBars_52 :: sk) e h R) (vc2 C n [] (.code .skip :: sk) e h R)) := nr rfl
@[simp, simp ↓] theorem c_laws_FnExactLongBars_54_r : vc2 C (n + 1) [] (.code c_laws_FnExactLongBars_54 :: sk) e h R = (vc2 C n [] (.code c_laws_FnExactLongBars_50 :: .code c_laws_FnExactLongBars_53 :: sk) e h R) := nr rfl
@[simp, simp ↓] theorem c_laws_FnExactLongBars_55_r : vc2 C (n + 1) [] (.code c_laws_FnExactLongBars_55 :: sk) e h R = (vc2 C n c_laws_FnExactLongBars_o31 sk e h R) := nr rfl
@[simp, simp ↓] theorem c_laws_FnExactLongBars_56_r : vc2 C (n + 1) [] (.code c_laws_FnExactLongBars_56 :: sk) e h R = (vc2 C n c_laws_FnExactLongBars_o32 sk e h R) := nr rfl
@[simp, simp ↓] theorem c_laws_FnExactLongBars_57_r : vc2 C (n + 1) [] (.code c_laws_FnExactLongBars_57 :: sk) e h R = (vc2 C n [] (.code c_laws_FnExactLongBars_56 :: .code .ret :: sk) e h R) := nr rfl
@[simp, simp ↓] theorem c_laws_FnExactLongBars_58_r : vc2 C (n + 1) [] (.code c_laws_FnExactLongBars_58 :: sk) e h R = (condK (ev e (.t 100)) (vc2 C n [] (.code c_laws_FnExactLongBars_57 :: sk) e h R) (vc2 C n [] (.code .skip :: sk) e h R)) := nr rfl
@[simp, simp ↓] theorem c_laws_FnExactLongBars_59_r : vc2 C (n + 1) [] (.code c_laws_FnExactLongBars_59 :: sk) e h R = (vc2 C n [] (.code c_laws_FnExactLongBars_55 :: .code c_laws_FnExactLongBars_58 :: sk) e h R) := nr rfl
@[simp, simp ↓] theorem c_laws_FnExactLongBars_60_r : vc2 C (n + 1) [] (.code c_laws_FnExactLongBars_60 :: sk) e h R = (vc2 C n c_laws_FnExactLongBars_o33 sk e h R) := nr rfl
@[simp, simp ↓] theorem c_laws_FnExactLongBars_61_r : vc2 C (n + 1) [] (.code c_laws_FnExactLongBars_61 :: sk) e h R = (vc2 C n [] (.code c_laws_FnExactLongBars_60 :: .code .ret :: sk) e h R) := nr rfl
@[simp, simp ↓] theorem c_laws_FnExactLongBars_62_r : vc2 C (n + 1) [] (.code c_laws_FnExactLongBars_62 :: sk) e h R = (vc2 C n [] (.code c_laws_FnExactLongBars_59 :: .code c_laws_FnExactLongBars_61 :: sk) e h R) := nr rfl
@[simp, simp ↓] theorem c_laws_FnExactLongBars_63_r : vc2 C (n + 1) [] (.code c_laws_FnExactLongBars_63 :: sk) e h R = (vc2 C n [] (.code c_laws_FnExactLongBars_54 :: .code c_laws_FnExactLongBars_62 :: sk) e h R) := nr rfl
@[simp, simp ↓] theorem c_laws_FnExactLongBars_64_r : vc2 C (n + 1) [] (.code c_laws_FnExactLongBars_64 :: sk) e h R = (vc2 C n [] (.code c_laws_FnExactLongBars_49 :: .code c_laws_FnExactLongBars_63 :: sk) e h R) := nr rfl
@[simp, simp ↓] theorem c_laws_FnExactLongBars_65_r : vc2 C (n + 1) [] (.code c_laws_FnExactLongBars_65 :: sk) e h R = (vc2 C n [] (.code c_laws_FnExactLongBars_48 :: .code c_laws_FnExactLongBars_64 :: sk) e h R) := nr rfl
@[simp, simp ↓] theorem c_laws_FnExactLongBars_66_r : vc2 C (n + 1) [] (.code c_laws_FnExactLongBars_66 :: sk) e h R = (vc2 C n [] (.code c_laws_FnExactLongBars_47 :: .code c_laws_FnExactLongBars_65 :: sk) e h R) := nr rfl
@[simp, simp ↓] theorem c_laws_FnExactLongBars_67_r : vc2 C (n + 1) [] (.code c_laws_FnExactLongBars_67 :: sk) e h R = (vc2 C n [] (.code c_laws_FnExactLongBars_42 :: .code c_laws_FnExactLongBars_66 :: sk) e h R) := nr rfl
@[simp, simp ↓] theorem c_laws_FnExactLongBars_68_r : vc2 C (n + 1) [] (.code c_laws_FnExactLongBars_68 :: sk) e h R = (vc2 C n [] (.code c_laws_FnExactLongBars_41 :: .code c_laws_FnExactLongBars_67 :: sk) e h R) := nr rfl
@[simp, simp ↓] theorem c_laws_FnExactLongBars_69_r : vc2 C (n + 1) [] (.code c_laws_FnExactLongBars_69 :: sk) e h R = (vc2 C n [] (.code c_laws_FnExactLongBars_36 :: .code c_laws_FnExactLongBars_68 :: sk) e h R) := nr rfl
@[simp, simp ↓] theorem c_laws_FnExactLongBars_70_r : vc2 C (n + 1) [] (.code c_laws_FnExactLongBars_70 :: sk) e h R = (vc2 C n [] (.code c_laws_FnExactLongBars_31 :: .code c_laws_FnExactLongBars_69 :: sk) e h R) := nr rfl
@[simp, simp ↓] theorem c_laws_FnExactLongBars_71_r : vc2 C (n + 1) [] (.code c_laws_FnExactLongBars_71 :: sk) e h R = (vc2 C n [] (.code c_laws_FnExactLongBars_30 :: .code c_laws_FnExactLongBars_70 :: sk) e h R) := nr rfl
@[simp, simp ↓] theorem c_laws_FnExactLongBars_72_r : vc2 C (n + 1) [] (.code c_laws_FnExactLongBars_72 :: sk) e h R = (vc2 C n [] (.code c_laws_FnExactLongBars_29 :: .code c_laws_FnExactLongBars_71 :: sk) e h R) := nr rfl
@[simp, simp ↓] theorem c_laws_FnExactLongBars_73_r : vc2 C (n + 1) [] (.code c_laws_FnExactLongBars_73 :: sk) e h R = (vc2 C n [] (.code c_laws_FnExactLongBars_28 :: .code c_laws_FnExactLongBars_72 :: sk) e h R) := nr rfl
@[simp, simp ↓] theorem c_laws_FnExactLongBars_74_r : vc2 C (n + 1) [] (.code c_laws_FnExactLongBars_74 :: sk) e h R = (vc2 C n [] (.code c_laws_FnExactLongBars_27 :: .code c_laws_FnExactLongBars_73 :: sk) e h R) := nr rfl
@[simp, simp ↓] theorem c_laws_FnExactLongBars_75_r : vc2 C (n + 1) [] (.code c_laws_FnExactLongBars_75 :: sk) e h R = (vc2 C n [] (.code c_laws_FnExactLongBars_22 :: .code c_laws_FnExactLongBars_74 :: sk) e h R) := nr rfl
@[simp, simp ↓] theorem c_laws_FnExactLongBars_76_r : vc2 C (n + 1) [] (.code c_laws_FnExactLongBars_76 :: sk) e h R = (vc2 C n [] (.code c_laws_FnExactLongBars_21 :: .code c_laws_FnExactLongBars_75 :: sk) e h R) := nr rfl
@[simp, simp ↓] theorem c_laws_FnExactLongBars_77_r : vc2 C (n + 1) [] (.code c_laws_FnExactLongBars_77 :: sk) e h R = (vc2 C n [] (.code c_laws_FnExactLongBars_20 :: .code c_laws_FnExactLongBars_76 :: sk) e h R) := nr rfl
@[simp, simp ↓] theorem c_laws_FnExactLongBars_78_r : vc2 C (n + 1) [] (.code c_laws_FnExactLongBars_78 :: sk) e h R = (vc2 C n [] (.code c_laws_FnExactLongBars_15 :: .code c_laws_FnExactLongBars_77 :: sk) e h R) := nr rfl
@[simp, simp ↓] theorem c_laws_FnExactLongBars_79_r : vc2 C (n + 1) [] (.code c_laws_FnExactLongBars_79 :: sk) e h R = (vc2 C n [] (.code c_laws_FnExactLongBars_10 :: .code c_laws_FnExactLongBars_78 :: sk) e h R) := nr rfl
@[simp, simp ↓] theorem c_laws_FnExactLongBars_80_r : vc2 C (n + 1) [] (.code c_laws_FnExactLongBars_80 :: sk) e h R = (vc2 C n [] (.code c_laws_FnExactLongBars_9 :: .code c_laws_FnExactLongBars_79 :: sk) e h R) := nr rfl
@[simp, simp ↓] theorem c_laws_FnExactLongBars_81_r : vc2 C (n + 1) [] (.code c_laws_FnExactLongBars_81 :: sk) e h R = (vc2 C n [] (.code c_laws_FnExactLongBars_8 :: .code c_laws_FnExactLongBars_80 :: sk) e h R) := nr rfl
@[simp, simp ↓] theorem c_laws_FnExactLongBars_82_r : vc2 C (n + 1) [] (.code c_laws_FnExactLongBars_82 :: sk) e h R = (vc2 C n [] (.code c_laws_FnExactLongBars_7 :: .code c_laws_FnExactLongBars_81 :: sk) e h R) := nr rfl
@[simp, simp ↓] theorem c_laws_FnExactLongBars_83_r : vc2 C (n + 1) [] (.code c_laws_FnExactLongBars_83 :: sk) e h R = (vc2 C n [] (.code c_laws_FnExactLongBars_2 :: .code c_laws_FnExactLongBars_82 :: sk) e h R) := nr rfl
@[simp, simp ↓] theorem c_laws_FnExactLongBars_84_r : vc2 C (n + 1) [] (.code c_laws_FnExactLongBars_84 :: sk) e h R = (vc2 C n [] (.code c_laws_FnExactLongBars_1 :: .code c_laws_FnExactLongBars_83 :: sk) e h R) := nr rfl
@[simp, simp ↓] theorem c_laws_FnExactLongBars_85_r : vc2 C (n + 1) [] (.code c_laws_FnExactLongBars_85 :: sk) e h R = (vc2 C n [] (.code c_laws_FnExactLongBars_0 :: .code c_laws_FnExactLongBars_84 :: sk) e h R) := nr rfl
end
noncomputable def c_laws_FnExactLongBars_C (orc : Orc) : Cx := ⟨Try.prog, [], 6, 101, [.tmp 4], orc⟩
@[simp] theorem c_laws_FnExactLongBars_C_P (orc : Orc) : (c_laws_FnExactLongBars_C orc).P = Try.prog := nr rfl
@[simp] theorem c_laws_FnExactLongBars_C_o (orc : Orc) : (c_laws_FnExactLongBars_C orc).orc = orc := nr rfl
@[simp] theorem c_laws_FnExactLongBars_C_r (orc : Orc) : (c_laws_FnExactLongBars_C orc).res = [.tmp 4] := nr rfl
theorem c_laws_FnExactLongBars_of {args : List AV} {h : Heap} {R : AV → Heap → Prop} {k : Nat} (ha : args.length = k) {orc : Orc} (hp : Pure Try.prog orc) (hk : Is (c_laws_FnExactLongBars_C orc) Try.f6 → Run2 (c_laws_FnExactLongBars_C orc) [.code c_laws_FnExactLongBars_85] (argEnv 0 args) h (Post R)) (hle : k ≤ 101 := by simp) : ACalls Try.prog 6 args h R :=
  contract2 [] c_laws_FnExactLongBars_85 [.tmp 4] Try.func6 (by decide +kernel) rfl (by kernel_rfl) (by rw [ha]; exact hle) (by kernel_rfl) hp hk
theorem c_laws_FnExactLongBars_of0 {args : List AV} {h : Heap} {R : AV → Heap → Prop} {k : Nat} (ha : args.length = k) {orc : Orc} (hp : Pure Try.prog orc) (hk : Is (c_laws_FnExactLongBars_C orc) Try.f6 → Run2 (c_laws_FnExactLongBars_C orc) [.code c_laws_FnExactLongBars_85] (argEnv 0 args) h R) (hle : k ≤ 101 := by simp) : ACalls Try.prog 6 args h R :=
  contract20 [] c_laws_FnExactLongBars_85 [.tmp 4] Try.func6 (by decide +kernel) rfl (by kernel_rfl) (by rw [ha]; exact hle) (by kernel_rfl) hp hk
theorem long_law (l : List T) (hl : wfB l) (k : Int) (hk : in64 k) : ACalls Try.prog 6 [(.snap 3 (l.map T.av)), (.int .i64 k)] [] (fun v h' => v = .bool true ∧ h' = []) := by
  refine c_laws_FnExactLongBars_of rfl orcM_p fun I => ?_
  have hx2_l := hl.2
  refine Run2.of I 1000 ?_
  by_cases kl : (l.length : Int) ≤ (1048576 : Int)
  · have hAl : ¬ (1048576 : Int) < l.length := by omega
    have hBl : ¬ (1048576 : Int) - l.length < 0 := by omega
    have hCl : (0 : Int) ≤ (1048576 : Int) - l.length := by omega
    have ll : l.length ≤ 1048576 := by omega
    have he := longL_len l k
    simp -implicitDefEqProofs [hx2_l, hAl, hBl, hCl]
    first | refine dcallK (toBarS_c l _ ll) ?_ | (refine (toBarS_c l _ ll).mono ?_; rintro v h' ⟨rfl, rfl⟩; refine gK.go ?_)
    simp -implicitDefEqProofs
    first | refine dcallK (specLong_c l k _ ll hl.1) ?_ | (refine (specLong_c l k _ ll hl.1).mono ?_; rintro v h' ⟨rfl, rfl⟩; refine gK.go ?_)
    simp -implicitDefEqProofs
    refine (toBarS_o l _ ll).monoN ?_
    rintro v0 h' ⟨g0, o0, d0, rfl⟩ n0
    refine gK.go ?_
    simp -implicitDefEqProofs
    simp only [List.append_nil] at n0
    have L0 := o0.lentIn T.cold (L := g0) (fun p hp => hp) n0
    refine (ACalls.gives g0 (fun p hp => hp) (S := fun v h' => ∃ w, v = .tup [w, .int .i64 (longCode l k)] ∧ OwnL T.av 3 w (longL l k) h') ?_ ?_).monoN ?_
    · rw [lend_cons, lend_cons, lend_nil', lend1_cold g0 (x := (.int .i64 k)) rfl]
      exact ACalls.wk (.cons L0.wk (.cons (.refl _) .nil)) (implLong_o l k ll hl.1)
    · rintro v h' ⟨w, rfl, ho⟩
      have := ho.own T.own
      exact ⟨by simp [own, owns, this.1], this.2⟩
    rintro v h' ⟨gg, ⟨w, rfl, og⟩, dg, rfl⟩ ng
    refine gK.go ?_
    simp -implicitDefEqProofs
    first | refine dcallK (eqB_own og (.snap (longL l k)) (fun p hp => List.mem_append_left _ hp) (show (longL l k).length ≤ 1048576 by omega)) ?_ | (refine (eqB_own og (.snap (longL l k)) (fun p hp => List.mem_append_left _ hp) (show (longL l k).length ≤ 1048576 by omega)).mono ?_; rintro v h' ⟨rfl, rfl⟩; refine gK.go ?_)
    simp -implicitDefEqProofs
    first | refine dcallK (toBarS_c l _ ll) ?_ | (refine (toBarS_c l _ ll).mono ?_; rintro v h' ⟨rfl, rfl⟩; refine gK.go ?_)
    simp -implicitDefEqProofs
    first | refine dcallK (eqB_own o0 (.snap l) (fun p hp => List.mem_append_right _ (hp)) ll) ?_ | (refine (eqB_own o0 (.snap l) (fun p hp => List.mem_append_right _ (hp)) ll).mono ?_; rintro v h' ⟨rfl, rfl⟩; refine gK.go ?_)
    simp -implicitDefEqProofs
    refine (markB_drop o0 gg (fun p hp => List.mem_append_right _ (hp)) ?_ ?_ (1) (by omega) (by omega)).monoN ?_
    · simpa only [List.append_assoc] using keepL (a := gg) (b := g0) (by simpa only [List.append_assoc] using ng)
    · exact fun nd => nodupL (a := gg) (b := g0) (by simpa only [List.append_assoc] using nd)
    rintro _ _ ⟨e1, e2⟩ nk0
    rw [e1, e2]; rw [e2] at nk0
    refine gK.go ?_
    have hk : ¬ (1 + 3 * (l.length : Int)) < 0 := by omega
    simp -implicitDefEqProofs [hk]
    first | refine dcallK (eqB_own og (.snap (longL l k)) (fun p hp => hp) (show (longL l k).length ≤ 1048576 by omega)) ?_ | (refine (eqB_own og (.snap (longL l k)) (fun p hp => hp) (show (longL l k).length ≤ 1048576 by omega)).mono ?_; rintro v h' ⟨rfl, rfl⟩; refine gK.go ?_)
    simp -implicitDefEqProofs
    skip
    refine (markB_keep og [] (fun p hp => hp) keepN (fun _ => by simp [dom]) 1 (by omega) (by have := (show (longL l k).length ≤ 1048576 by omega); omega)).mono ?_
    rintro _ _ ⟨gm, rfl, om, rfl⟩
    refine gK.go ?_
    simp -implicitDefEqProofs
    have hq : ¬ (1 + 3 * ((longL l k).length : Int) < 0) := by omega
    first | refine dcallK (heldB_own om (fun p hp => hp) 1 (by omega) (by have := (show (longL l k).length ≤ 1048576 by omega); simp; omega)) ?_ | (refine (heldB_own om (fun p hp => hp) 1 (by omega) (by have := (show (longL l k).length ≤ 1048576 by omega); simp; omega)).mono ?_; rintro v h' ⟨rfl, rfl⟩; refine gK.go ?_)
    simp -implicitDefEqProofs [hq]
    first | refine dcallK (toBarS_c l _ ll) ?_ | (refine (toBarS_c l _ ll).mono ?_; rintro v h' ⟨rfl, rfl⟩; refine gK.go ?_)
    simp -implicitDefEqProofs
    refine (ACalls.gives [] (by simp) (S := fun v h' => ∃ w, v = .tup [w, .int .i64 (longCode l k)] ∧ OwnL T.av 3 w (longL l k) h') ?_ ?_).mono ?_
    · exact implLong_o l k ll hl.1
    · rintro v h' ⟨w, rfl, ho⟩
      have := ho.own T.own
      exact ⟨by simp [own, owns, this.1], this.2⟩
    rintro _ _ ⟨g9, ⟨w9, rfl, o9⟩, d9, rfl⟩
    refine gK.go ?_
    simp -implicitDefEqProofs [hq]
    first | refine dcallK (eqB_own o9 (.snap (longL l k)) (fun p hp => List.mem_append_left _ hp) (show (longL l k).length ≤ 1048576 by omega)) ?_ | (refine (eqB_own o9 (.snap (longL l k)) (fun p hp => List.mem_append_left _ hp) (show (longL l k).length ≤ 1048576 by omega)).mono ?_; rintro v h' ⟨rfl, rfl⟩; refine gK.go ?_)
    simp -implicitDefEqProofs [hq]
    first | refine dcallK (heldB_own om (fun p hp => List.mem_append_right _ hp) 1 (by omega) (by have := (show (longL l k).length ≤ 1048576 by omega); simp; omega)) ?_ | (refine (heldB_own om (fun p hp => List.mem_append_right _ hp) 1 (by omega) (by have := (show (longL l k).length ≤ 1048576 by omega); simp; omega)).mono ?_; rintro v h' ⟨rfl, rfl⟩; refine gK.go ?_)
    simp -implicitDefEqProofs [hq]
    exact Post.none ⟨rfl, rfl⟩
  · have hAl : (1048576 : Int) < l.length := by omega
    simp -implicitDefEqProofs [hx2_l, hAl]
    exact .base ⟨rfl, rfl⟩
end Go.AG
namespace Go.Proofs.Ytdgahpcgenlcjaa
open Go.ChangeShapes Go.WideShapes Go.ChangeAt Go.RowKit Go.AG
theorem own : ownKnob Try.prog.godebug = none := by kernel_rfl
theorem laidOut : laidOutB Try.prog = true := by kernel_rfl
set_option maxRecDepth 100000 in
theorem fnExactLongBars_lifted (os : Os) (started : os.Started) (H : Type) (enc : TypeId × Value → H) :
    ReturnsInHanded {} Try.checked os 6 .any (Rows.fnExactLongBarsSpec.pre6 enc Try.prog Try.f6 Rows.fnExactLongBarsRow.domain false) (Rows.fnExactLongBarsSpec.post enc Try.prog Try.f6 false true false false) := by
  refine returnsInHanded_of_change (C := Try.checked) own started (by kernel_rfl) Try.func6
    (ChangeSpec.witness6 (enc := enc) (C := Try.checked) false ⟨#[], #[.slice none 0 0, .int .i64 0], []⟩ 8 (by kernel_rfl) (by kernel_rfl) (by kernel_rfl) (by kernel_rfl)) ?_
  intro W base args ds gs before hval0 hW _ _
  have hval : ∀ (j : Nat) t v, Try.f6.params[j]? = some t → args[j]? = some v → Value.okWide Try.prog W .any base t v := hval0
  refine law_post (tys := [tyB, (.int .i64)]) (tb := 4) laidOut rfl (by kernel_rfl) (by kernel_rfl) (by kernel_rfl) (by kernel_rfl) hval hW ?_ ?_
  · intro ds h
    match ds, h with
    | [a0, a1], _ => rfl
  · rintro xs ⟨x0, r0, rfl, h0, x1, r1, rfl, h1, hr⟩
    have hr0 : r1 = [] := hr
    subst hr0
    obtain ⟨p0, rfl, q0⟩ := Bars_of_shape h0
    obtain ⟨p1, rfl, q1⟩ := Int_of_shape h1
    exact long_law p0 q0 p1 q1
theorem fnExactLongBars_holds : Rows.FnExactLongBarsSaid :=
  OpenClaim.holds_of_wide 6 Try.f6 rfl rfl rfl rfl rfl rfl rfl ⟨rfl, rfl, rfl, rfl, rfl⟩ rfl rfl rfl rfl rfl (by kernel_rfl) Try.func6 (by kernel_rfl)
    (of_decide_eq_true (by kernel_rfl)) (by unfold Func.isWrapper; first | (rw [if_pos (by decide +kernel)]; kernel_rfl) | (rw [if_neg (by decide +kernel)]; exact ⟨rfl, rfl⟩))
    (fun os started H enc _ => fnExactLongBars_lifted os started H enc)
end Go.Proofs.Ytdgahpcgenlcjaa
