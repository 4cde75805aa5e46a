/- The law FnExactTurnPhases is true for every input: the program's TurnPhases returns what the reference's returns. -/
import Derived.Test.YtknonamjhdlmlaaPhTurnB
namespace Go.AG
open Go.Proofs Go.Proofs.Ytknonamjhdlmlaa
set_option linter.unusedSimpArgs false
set_option linter.unusedVariables false
set_option maxRecDepth 4000
theorem Ph.turned_len (x : Ph) (p : List Int) : (x.turned p).ts.length ≤ x.ts.length := by
  unfold Ph.turned
  split <;> simp
noncomputable def orcM : List (Nat × (List AV → Option (Prop × AV))) := (14, o_szPhases) :: []
theorem orcM_p : Pure Try.prog (lk orcM) := (lk_pure o_szPhases_k lk_pure0)
@[simp] theorem orcM_l (g : FuncId) (l : List AV) : lk orcM g l = if g = 14 then o_szPhases l else none := nr rfl
abbrev c_laws_FnExactTurnPhases_o0 : List AJ := [.o ⟨(some 2), none, false, .box false 3 (.t 0), none⟩, .o ⟨(some 4), none, false, .mv (.c (.bool false)), (some [1, 2])⟩]
def c_laws_FnExactTurnPhases_0 : ACode := .region c_laws_FnExactTurnPhases_o0
abbrev c_laws_FnExactTurnPhases_o1 : List AJ := [.o ⟨(some 17), none, false, .mv (.t 1), none⟩, .o ⟨(some 18), none, false, .len (.t 17), none⟩, .o ⟨(some 19), none, false, .bin .gtr (.t 18) (.c (.int .i64 1048576)), (some [1, 2, 19])⟩]
def c_laws_FnExactTurnPhases_1 : ACode := .region c_laws_FnExactTurnPhases_o1
abbrev c_laws_FnExactTurnPhases_o2 : List AJ := [.o ⟨(some 4), none, false, .mv (.c (.bool true)), (some [4])⟩]
def c_laws_FnExactTurnPhases_2 : ACode := .region c_laws_FnExactTurnPhases_o2
def c_laws_FnExactTurnPhases_3 : ACode := .seq c_laws_FnExactTurnPhases_2 .ret
def c_laws_FnExactTurnPhases_4 : ACode := .cond (.t 19) c_laws_FnExactTurnPhases_3 .skip
def c_laws_FnExactTurnPhases_5 : ACode := .seq c_laws_FnExactTurnPhases_1 c_laws_FnExactTurnPhases_4
abbrev c_laws_FnExactTurnPhases_o3 : List AJ := [.o ⟨(some 5), none, false, .mv (.c (.int .i64 1048576)), (some [1, 2, 5])⟩]
def c_laws_FnExactTurnPhases_6 : ACode := .region c_laws_FnExactTurnPhases_o3
abbrev c_laws_FnExactTurnPhases_o4 : List AJ := [.o ⟨(some 20), none, false, .load 3 true (.t 2), none⟩, .o ⟨(some 21), none, false, .mv (.t 5), none⟩, .o ⟨(some 22), none, false, .call 14 [(.t 20), (.t 21)], none⟩, .o ⟨(some 5), none, false, .mv (.t 22), (some [1, 2, 5])⟩]
def c_laws_FnExactTurnPhases_7 : ACode := .region c_laws_FnExactTurnPhases_o4
abbrev c_laws_FnExactTurnPhases_o5 : List AJ := [.o ⟨(some 23), none, false, .mv (.t 5), none⟩, .o ⟨(some 24), none, false, .bin .lss (.t 23) (.c (.int .i64 0)), (some [1, 2, 24])⟩]
def c_laws_FnExactTurnPhases_8 : ACode := .region c_laws_FnExactTurnPhases_o5
abbrev c_laws_FnExactTurnPhases_o6 : List AJ := [.o ⟨(some 4), none, false, .mv (.c (.bool true)), (some [4])⟩]
def c_laws_FnExactTurnPhases_9 : ACode := .region c_laws_FnExactTurnPhases_o6
def c_laws_FnExactTurnPhases_10 : ACode := .seq c_laws_FnExactTurnPhases_9 .ret
def c_laws_FnExactTurnPhases_11 : ACode := .cond (.t 24) c_laws_FnExactTurnPhases_10 .skip
def c_laws_FnExactTurnPhases_12 : ACode := .seq c_laws_FnExactTurnPhases_8 c_laws_FnExactTurnPhases_11
abbrev c_laws_FnExactTurnPhases_o7 : List AJ := [.o ⟨(some 26), none, false, .load 3 true (.t 2), none⟩, .o ⟨(some 27), none, false, .call 16 [(.t 26)], none⟩, .o ⟨(some 28), none, false, .mv (.t 1), none⟩, .o ⟨(some 29), none, false, .call 22 [(.t 28)], none⟩, .o ⟨(some 30), none, false, .call 32 [(.t 27), (.t 29)], none⟩, .o ⟨(some 25), none, false, .mv (.t 30), none⟩, .o ⟨(some 31), none, false, .extract (.t 25) 0, none⟩, .o ⟨(some 32), none, false, .extract (.t 25) 1, none⟩, .v 6 3 (.agg [(.int .i64 0), (.int .i64 0), .nilsl]) [] (.t 31) none, .o ⟨(some 7), none, false, .mv (.t 32), (some [1, 2, 6, 7])⟩]
def c_laws_FnExactTurnPhases_13 : ACode := .region c_laws_FnExactTurnPhases_o7
abbrev c_laws_FnExactTurnPhases_o8 : List AJ := [.o ⟨(some 33), none, false, .load 3 true (.t 2), none⟩, .o ⟨(some 34), none, false, .call 16 [(.t 33)], none⟩, .v 8 3 (.agg [(.int .i64 0), (.int .i64 0), .nilsl]) [] (.t 34) (some [1, 2, 6, 7, 8])]
def c_laws_FnExactTurnPhases_14 : ACode := .region c_laws_FnExactTurnPhases_o8
abbrev c_laws_FnExactTurnPhases_o9 : List AJ := [.o ⟨(some 35), none, false, .mv (.t 1), none⟩, .o ⟨(some 36), none, false, .call 22 [(.t 35)], none⟩, .o ⟨(some 9), none, false, .mv (.t 36), (some [1, 2, 6, 7, 8, 9])⟩]
def c_laws_FnExactTurnPhases_15 : ACode := .region c_laws_FnExactTurnPhases_o9
abbrev c_laws_FnExactTurnPhases_o10 : List AJ := [.o ⟨(some 38), none, false, .load 3 true (.t 8), none⟩, .o ⟨(some 39), none, false, .mv (.t 9), none⟩, .o ⟨(some 40), none, false, .call 33 [(.t 38), (.t 39)], none⟩, .o ⟨(some 37), none, false, .mv (.t 40), none⟩, .o ⟨(some 41), none, false, .extract (.t 37) 0, none⟩, .o ⟨(some 42), none, false, .extract (.t 37) 1, none⟩, .v 10 3 (.agg [(.int .i64 0), (.int .i64 0), .nilsl]) [] (.t 41) none, .o ⟨(some 11), none, false, .mv (.t 42), (some [1, 2, 6, 7, 8, 9, 10, 11])⟩]
def c_laws_FnExactTurnPhases_16 : ACode := .region c_laws_FnExactTurnPhases_o10
abbrev c_laws_FnExactTurnPhases_o11 : List AJ := [.o ⟨(some 43), none, false, .load 3 true (.t 10), none⟩, .o ⟨(some 44), none, false, .load 3 true (.t 6), none⟩, .o ⟨(some 45), none, false, .call 18 [(.t 43), (.t 44)], none⟩, .o ⟨(some 46), none, false, .un .not (.t 45), none⟩, .o ⟨(some 47), none, false, .mv (.t 46), none⟩, .o ⟨(some 48), (some (47, false)), false, .mv (.t 11), none⟩, .o ⟨(some 49), (some (47, false)), false, .mv (.t 7), none⟩, .o ⟨(some 50), (some (47, false)), false, .bin .neq (.t 48) (.t 49), none⟩, .o ⟨(some 51), none, false, .pick (.t 47) (.c (.bool true)) (.t 50), (some [1, 2, 6, 7, 8, 9, 10, 11, 51])⟩]
def c_laws_FnExactTurnPhases_17 : ACode := .region c_laws_FnExactTurnPhases_o11
abbrev c_laws_FnExactTurnPhases_o12 : List AJ := [.o ⟨(some 4), none, false, .mv (.c (.bool false)), (some [4])⟩]
def c_laws_FnExactTurnPhases_18 : ACode := .region c_laws_FnExactTurnPhases_o12
def c_laws_FnExactTurnPhases_19 : ACode := .seq c_laws_FnExactTurnPhases_18 .ret
def c_laws_FnExactTurnPhases_20 : ACode := .cond (.t 51) c_laws_FnExactTurnPhases_19 .skip
def c_laws_FnExactTurnPhases_21 : ACode := .seq c_laws_FnExactTurnPhases_17 c_laws_FnExactTurnPhases_20
abbrev c_laws_FnExactTurnPhases_o13 : List AI := [⟨(some 52), none, false, .load 3 true (.t 8), none⟩, ⟨(some 53), none, false, .load 3 true (.t 2), none⟩, ⟨(some 54), none, false, .call 16 [(.t 53)], none⟩, ⟨(some 55), none, false, .call 18 [(.t 52), (.t 54)], none⟩, ⟨(some 56), none, false, .un .not (.t 55), (some [1, 2, 6, 7, 8, 9, 10, 11, 56])⟩]
def c_laws_FnExactTurnPhases_22 : ACode := .draw c_laws_FnExactTurnPhases_o13 [] rfl
abbrev c_laws_FnExactTurnPhases_o14 : List AJ := [.o ⟨(some 4), none, false, .mv (.c (.bool false)), (some [4])⟩]
def c_laws_FnExactTurnPhases_23 : ACode := .region c_laws_FnExactTurnPhases_o14
def c_laws_FnExactTurnPhases_24 : ACode := .seq c_laws_FnExactTurnPhases_23 .ret
def c_laws_FnExactTurnPhases_25 : ACode := .cond (.t 56) c_laws_FnExactTurnPhases_24 .skip
def c_laws_FnExactTurnPhases_26 : ACode := .seq c_laws_FnExactTurnPhases_22 c_laws_FnExactTurnPhases_25
abbrev c_laws_FnExactTurnPhases_o15 : List AJ := [.o ⟨(some 57), none, false, .mv (.t 9), none⟩, .o ⟨(some 58), none, false, .mv (.t 1), none⟩, .o ⟨(some 59), none, false, .call 22 [(.t 58)], none⟩, .o ⟨(some 60), none, false, .call 24 [(.t 57), (.t 59)], none⟩, .o ⟨(some 61), none, false, .un .not (.t 60), (some [1, 2, 6, 7, 8, 9, 10, 11, 61])⟩]
def c_laws_FnExactTurnPhases_27 : ACode := .region c_laws_FnExactTurnPhases_o15
abbrev c_laws_FnExactTurnPhases_o16 : List AJ := [.o ⟨(some 4), none, false, .mv (.c (.bool false)), (some [4])⟩]
def c_laws_FnExactTurnPhases_28 : ACode := .region c_laws_FnExactTurnPhases_o16
def c_laws_FnExactTurnPhases_29 : ACode := .seq c_laws_FnExactTurnPhases_28 .ret
def c_laws_FnExactTurnPhases_30 : ACode := .cond (.t 61) c_laws_FnExactTurnPhases_29 .skip
def c_laws_FnExactTurnPhases_31 : ACode := .seq c_laws_FnExactTurnPhases_27 c_laws_FnExactTurnPhases_30
abbrev c_laws_FnExactTurnPhases_o17 : List AJ := [.o ⟨(some 12), none, false, .mv (.c (.int .i64 1)), (some [1, 2, 6, 7, 8, 9, 10, 11, 12])⟩]
def c_laws_FnExactTurnPhases_32 : ACode := .region c_laws_FnExactTurnPhases_o17
abbrev c_laws_FnExactTurnPhases_o18 : List AJ := [.o ⟨(some 62), none, false, .load 3 true (.t 8), none⟩, .o ⟨(some 63), none, false, .mv (.t 12), none⟩, .o ⟨(some 64), none, false, .call 29 [(.t 62), (.t 63)], none⟩, .o ⟨(some 12), none, false, .mv (.t 64), (some [1, 2, 6, 7, 9, 10, 11, 12])⟩]
def c_laws_FnExactTurnPhases_33 : ACode := .region c_laws_FnExactTurnPhases_o18
abbrev c_laws_FnExactTurnPhases_o19 : List AJ := [.o ⟨(some 65), none, false, .mv (.t 9), none⟩, .o ⟨(some 66), none, false, .mv (.t 12), none⟩, .o ⟨(some 67), none, false, .call 30 [(.t 65), (.t 66)], none⟩, .o ⟨(some 12), none, false, .mv (.t 67), (some [1, 2, 6, 7, 10, 11, 12])⟩]
def c_laws_FnExactTurnPhases_34 : ACode := .region c_laws_FnExactTurnPhases_o19
abbrev c_laws_FnExactTurnPhases_o20 : List AJ := [.o ⟨(some 68), none, false, .mv (.t 12), none⟩, .o ⟨(some 69), none, false, .bin .lss (.t 68) (.c (.int .i64 0)), none⟩, .o ⟨(some 70), none, false, .mv (.t 69), none⟩, .o ⟨(some 71), (some (70, false)), false, .load 3 true (.t 10), none⟩, .o ⟨(some 72), (some (70, false)), false, .load 3 true (.t 6), none⟩, .o ⟨(some 73), (some (70, false)), false, .call 18 [(.t 71), (.t 72)], none⟩, .o ⟨(some 74), (some (70, false)), false, .un .not (.t 73), none⟩, .o ⟨(some 75), none, false, .pick (.t 70) (.c (.bool true)) (.t 74), none⟩, .o ⟨(some 76), none, false, .mv (.t 75), none⟩, .o ⟨(some 77), (some (76, false)), false, .mv (.t 11), (some [1, 2, 6, 7, 10, 76, 77])⟩, .o ⟨(some 78), (some (76, false)), false, .mv (.t 7), none⟩, .o ⟨(some 79), (some (76, false)), false, .bin .neq (.t 77) (.t 78), none⟩, .o ⟨(some 80), none, false, .pick (.t 76) (.c (.bool true)) (.t 79), (some [1, 2, 6, 7, 10, 80])⟩]
def c_laws_FnExactTurnPhases_35 : ACode := .region c_laws_FnExactTurnPhases_o20
abbrev c_laws_FnExactTurnPhases_o21 : List AJ := [.o ⟨(some 4), none, false, .mv (.c (.bool false)), (some [4])⟩]
def c_laws_FnExactTurnPhases_36 : ACode := .region c_laws_FnExactTurnPhases_o21
def c_laws_FnExactTurnPhases_37 : ACode := .seq c_laws_FnExactTurnPhases_36 .ret
def c_laws_FnExactTurnPhases_38 : ACode := .cond (.t 80) c_laws_FnExactTurnPhases_37 .skip
def c_laws_FnExactTurnPhases_39 : ACode := .seq c_laws_FnExactTurnPhases_35 c_laws_FnExactTurnPhases_38
abbrev c_laws_FnExactTurnPhases_o22 : List AJ := [.o ⟨(some 13), none, false, .mv (.c (.int .i64 1)), (some [1, 2, 6, 7, 10, 13])⟩]
def c_laws_FnExactTurnPhases_40 : ACode := .region c_laws_FnExactTurnPhases_o22
abbrev c_laws_FnExactTurnPhases_o23 : List AJ := [.o ⟨(some 81), none, false, .load 3 true (.t 10), none⟩, .o ⟨(some 82), none, false, .mv (.t 13), none⟩, .o ⟨(some 83), none, false, .call 29 [(.t 81), (.t 82)], none⟩, .o ⟨(some 13), none, false, .mv (.t 83), (some [1, 2, 6, 7, 10, 13])⟩]
def c_laws_FnExactTurnPhases_41 : ACode := .region c_laws_FnExactTurnPhases_o23
abbrev c_laws_FnExactTurnPhases_o24 : List AJ := [.o ⟨(some 14), none, false, .mv (.c (.int .i64 1)), (some [1, 2, 6, 7, 10, 13, 14])⟩]
def c_laws_FnExactTurnPhases_42 : ACode := .region c_laws_FnExactTurnPhases_o24
abbrev c_laws_FnExactTurnPhases_o25 : List AJ := [.o ⟨(some 84), none, false, .load 3 true (.t 10), none⟩, .o ⟨(some 85), none, false, .mv (.t 14), none⟩, .o ⟨(some 86), none, false, .call 34 [(.t 84), (.t 85)], none⟩, .o ⟨(some 14), none, false, .mv (.t 86), (some [1, 2, 6, 7, 10, 13, 14])⟩]
def c_laws_FnExactTurnPhases_43 : ACode := .region c_laws_FnExactTurnPhases_o25
abbrev c_laws_FnExactTurnPhases_o26 : List AJ := [.o ⟨(some 87), none, false, .mv (.t 14), none⟩, .o ⟨(some 88), none, false, .bin .lss (.t 87) (.c (.int .i64 0)), (some [1, 2, 6, 7, 10, 13, 14, 88])⟩]
def c_laws_FnExactTurnPhases_44 : ACode := .region c_laws_FnExactTurnPhases_o26
abbrev c_laws_FnExactTurnPhases_o27 : List AJ := [.o ⟨(some 4), none, false, .mv (.c (.bool false)), (some [4])⟩]
def c_laws_FnExactTurnPhases_45 : ACode := .region c_laws_FnExactTurnPhases_o27
def c_laws_FnExactTurnPhases_46 : ACode := .seq c_laws_FnExactTurnPhases_45 .ret
def c_laws_FnExactTurnPhases_47 : ACode := .cond (.t 88) c_laws_FnExactTurnPhases_46 .skip
def c_laws_FnExactTurnPhases_48 : ACode := .seq c_laws_FnExactTurnPhases_44 c_laws_FnExactTurnPhases_47
abbrev c_laws_FnExactTurnPhases_o28 : List AJ := [.o ⟨(some 89), none, false, .mv (.t 14), none⟩, .o ⟨(some 90), none, false, .mv (.t 13), none⟩, .o ⟨(some 91), none, false, .bin .neq (.t 89) (.t 90), (some [1, 2, 6, 7, 10, 13, 91])⟩]
def c_laws_FnExactTurnPhases_49 : ACode := .region c_laws_FnExactTurnPhases_o28
abbrev c_laws_FnExactTurnPhases_o29 : List AJ := [.o ⟨(some 4), none, false, .mv (.c (.bool false)), (some [4])⟩]
def c_laws_FnExactTurnPhases_50 : ACode := .region c_laws_FnExactTurnPhases_o29
def c_laws_FnExactTurnPhases_51 : ACode := .seq c_laws_FnExactTurnPhases_50 .ret
def c_laws_FnExactTurnPhases_52 : ACode := .cond (.t 91) c_laws_FnExactTurnPhases_51 .skip
def c_laws_FnExactTurnPhases_53 : ACode := .seq c_laws_FnExactTurnPhases_49 c_laws_FnExactTurnPhases_52
abbrev c_laws_FnExactTurnPhases_o30 : List AJ := [.o ⟨(some 93), none, false, .load 3 true (.t 2), none⟩, .o ⟨(some 94), none, false, .call 16 [(.t 93)], none⟩, .o ⟨(some 95), none, false, .mv (.t 1), none⟩, .o ⟨(some 96), none, false, .call 22 [(.t 95)], none⟩, .o ⟨(some 97), none, false, .call 33 [(.t 94), (.t 96)], none⟩, .o ⟨(some 92), none, false, .mv (.t 97), none⟩, .o ⟨(some 98), none, false, .extract (.t 92) 0, none⟩, .o ⟨(some 99), none, false, .extract (.t 92) 1, none⟩, .v 15 3 (.agg [(.int .i64 0), (.int .i64 0), .nilsl]) [] (.t 98) none, .o ⟨(some 16), none, false, .mv (.t 99), (some [6, 7, 10, 13, 15, 16])⟩]
def c_laws_FnExactTurnPhases_54 : ACode := .region c_laws_FnExactTurnPhases_o30
abbrev c_laws_FnExactTurnPhases_o31 : List AJ := [.o ⟨(some 100), none, false, .load 3 true (.t 15), none⟩, .o ⟨(some 101), none, false, .load 3 true (.t 6), none⟩, .o ⟨(some 102), none, false, .call 18 [(.t 100), (.t 101)], none⟩, .o ⟨(some 103), none, false, .un .not (.t 102), none⟩, .o ⟨(some 104), none, false, .mv (.t 103), none⟩, .o ⟨(some 105), (some (104, false)), false, .mv (.t 16), none⟩, .o ⟨(some 106), (some (104, false)), false, .mv (.t 7), none⟩, .o ⟨(some 107), (some (104, false)), false, .bin .neq (.t 105) (.t 106), none⟩, .o ⟨(some 108), none, false, .pick (.t 104) (.c (.bool true)) (.t 107), (some [10, 13, 108])⟩]
def c_laws_FnExactTurnPhases_55 : ACode := .region c_laws_FnExactTurnPhases_o31
abbrev c_laws_FnExactTurnPhases_o32 : List AJ := [.o ⟨(some 4), none, false, .mv (.c (.bool false)), (some [4])⟩]
def c_laws_FnExactTurnPhases_56 : ACode := .region c_laws_FnExactTurnPhases_o32
def c_laws_FnExactTurnPhases_57 : ACode := .seq c_laws_FnExactTurnPhases_56 .ret
def c_laws_FnExactTurnPhases_58 : ACode := .cond (.t 108) c_laws_FnExactTurnPhases_57 .skip
def c_laws_FnExactTurnPhases_59 : ACode := .seq c_laws_FnExactTurnPhases_55 c_laws_FnExactTurnPhases_58
abbrev c_laws_FnExactTurnPhases_o33 : List AJ := [.o ⟨(some 14), none, false, .mv (.c (.int .i64 1)), (some [10, 13, 14])⟩]
def c_laws_FnExactTurnPhases_60 : ACode := .region c_laws_FnExactTurnPhases_o33
abbrev c_laws_FnExactTurnPhases_o34 : List AJ := [.o ⟨(some 109), none, false, .load 3 true (.t 10), none⟩, .o ⟨(some 110), none, false, .mv (.t 14), none⟩, .o ⟨(some 111), none, false, .call 34 [(.t 109), (.t 110)], none⟩, .o ⟨(some 14), none, false, .mv (.t 111), (some [13, 14])⟩]
def c_laws_FnExactTurnPhases_61 : ACode := .region c_laws_FnExactTurnPhases_o34
abbrev c_laws_FnExactTurnPhases_o35 : List AJ := [.o ⟨(some 112), none, false, .mv (.t 14), none⟩, .o ⟨(some 113), none, false, .bin .lss (.t 112) (.c (.int .i64 0)), (some [13, 14, 113])⟩]
def c_laws_FnExactTurnPhases_62 : ACode := .region c_laws_FnExactTurnPhases_o35
abbrev c_laws_FnExactTurnPhases_o36 : List AJ := [.o ⟨(some 4), none, false, .mv (.c (.bool false)), (some [4])⟩]
def c_laws_FnExactTurnPhases_63 : ACode := .region c_laws_FnExactTurnPhases_o36
def c_laws_FnExactTurnPhases_64 : ACode := .seq c_laws_FnExactTurnPhases_63 .ret
def c_laws_FnExactTurnPhases_65 : ACode := .cond (.t 113) c_laws_FnExactTurnPhases_64 .skip
def c_laws_FnExactTurnPhases_66 : ACode := .seq c_laws_FnExactTurnPhases_62 c_laws_FnExactTurnPhases_65
abbrev c_laws_FnExactTurnPhases_o37 : List AJ := [.o ⟨(some 114), none, false, .mv (.t 14), none⟩, .o ⟨(some 115), none, false, .mv (.t 13), none⟩, .o ⟨(some 116), none, false, .bin .neq (.t 114) (.t 115), (some [116])⟩]
def c_laws_FnExactTurnPhases_67 : ACode := .region c_laws_FnExactTurnPhases_o37
abbrev c_laws_FnExactTurnPhases_o38 : List AJ := [.o ⟨(some 4), none, false, .mv (.c (.bool false)), (some [4])⟩]
def c_laws_FnExactTurnPhases_68 : ACode := .region c_laws_FnExactTurnPhases_o38
def c_laws_FnExactTurnPhases_69 : ACode := .seq c_laws_FnExactTurnPhases_68 .ret
def c_laws_FnExactTurnPhases_70 : ACode := .cond (.t 116) c_laws_FnExactTurnPhases_69 .skip
def c_laws_FnExactTurnPhases_71 : ACode := .seq c_laws_FnExactTurnPhases_67 c_laws_FnExactTurnPhases_70
abbrev c_laws_FnExactTurnPhases_o39 : List AJ := [.o ⟨(some 4), none, false, .mv (.c (.bool true)), (some [4])⟩]
def c_laws_FnExactTurnPhases_72 : ACode := .region c_laws_FnExactTurnPhases_o39
def c_laws_FnExactTurnPhases_73 : ACode := .seq c_laws_FnExactTurnPhases_72 .ret
def c_laws_FnExactTurnPhases_74 : ACode := .seq c_laws_FnExactTurnPhases_71 c_laws_FnExactTurnPhases_73
def c_laws_FnExactTurnPhases_75 : ACode := .seq c_laws_FnExactTurnPhases_66 c_laws_FnExactTurnPhases_74
def c_laws_FnExactTurnPhases_76 : ACode := .seq c_laws_FnExactTurnPhases_61 c_laws_FnExactTurnPhases_75
def c_laws_FnExactTurnPhases_77 : ACode := .seq c_laws_FnExactTurnPhases_60 c_laws_FnExactTurnPhases_76
def c_laws_FnExactTurnPhases_78 : ACode := .seq c_laws_FnExactTurnPhases_59 c_laws_FnExactTurnPhases_77
def c_laws_FnExactTurnPhases_79 : ACode := .seq c_laws_FnExactTurnPhases_54 c_laws_FnExactTurnPhases_78
def c_laws_FnExactTurnPhases_80 : ACode := .seq c_laws_FnExactTurnPhases_53 c_laws_FnExactTurnPhases_79
def c_laws_FnExactTurnPhases_81 : ACode := .seq c_laws_FnExactTurnPhases_48 c_laws_FnExactTurnPhases_80
def c_laws_FnExactTurnPhases_82 : ACode := .seq c_laws_FnExactTurnPhases_43 c_laws_FnExactTurnPhases_81
def c_laws_FnExactTurnPhases_83 : ACode := .seq c_laws_FnExactTurnPhases_42 c_laws_FnExactTurnPhases_82
def c_laws_FnExactTurnPhases_84 : ACode := .seq c_laws_FnExactTurnPhases_41 c_laws_FnExactTurnPhases_83
def c_laws_FnExactTurnPhases_85 : ACode := .seq c_laws_FnExactTurnPhases_40 c_laws_FnExactTurnPhases_84
def c_laws_FnExactTurnPhases_86 : ACode := .seq c_laws_FnExactTurnPhases_39 c_laws_FnExactTurnPhases_85
def c_laws_FnExactTurnPhases_87 : ACode := .seq c_laws_FnExactTurnPhases_34 c_laws_FnExactTurnPhases_86
def c_laws_FnExactTurnPhases_88 : ACode := .seq c_laws_FnExactTurnPhases_33 c_laws_FnExactTurnPhases_87
def c_laws_FnExactTurnPhases_89 : ACode := .seq c_laws_FnExactTurnPhases_32 c_laws_FnExactTurnPhases_88
def c_laws_FnExactTurnPhases_90 : ACode := .seq c_laws_FnExactTurnPhases_31 c_laws_FnExactTurnPhases_89
def c_laws_FnExactTurnPhases_91 : ACode := .seq c_laws_FnExactTurnPhases_26 c_laws_FnExactTurnPhases_90
def c_laws_FnExactTurnPhases_92 : ACode := .seq c_laws_FnExactTurnPhases_21 c_laws_FnExactTurnPhases_91
def c_laws_FnExactTurnPhases_93 : ACode := .seq c_laws_FnExactTurnPhases_16 c_laws_FnExactTurnPhases_92
def c_laws_FnExactTurnPhases_94 : ACode := .seq c_laws_FnExactTurnPhases_15 c_laws_FnExactTurnPhases_93
def c_laws_FnExactTurnPhases_95 : ACode := .seq c_laws_FnExactTurnPhases_14 c_laws_FnExactTurnPhases_94
def c_laws_FnExactTurnPhases_96 : ACode := .seq c_laws_FnExactTurnPhases_13 c_laws_FnExactTurnPhases_95
def c_laws_FnExactTurnPhases_97 : ACode := .seq c_laws_FnExactTurnPhases_12 c_laws_FnExactTurnPhases_96
def c_laws_FnExactTurnPhases_98 : ACode := .seq c_laws_FnExactTurnPhases_7 c_laws_FnExactTurnPhases_97
def c_laws_FnExactTurnPhases_99 : ACode := .seq c_laws_FnExactTurnPhases_6 c_laws_FnExactTurnPhases_98
def c_laws_FnExactTurnPhases_100 : ACode := .seq c_laws_FnExactTurnPhases_5 c_laws_FnExactTurnPhases_99
def c_laws_FnExactTurnPhases_101 : ACode := .seq c_laws_FnExactTurnPhases_0 c_laws_FnExactTurnPhases_100
section
variable (C : Cx) (n : Nat) (sk : List AItem) (e : Env) (h : Heap) (R : AV → Heap → Prop)
@[simp, simp ↓] theorem c_laws_FnExactTurnPhases_0_r : vc2 C (n + 1) [] (.code c_laws_FnExactTurnPhases_0 :: sk) e h R = (vc2 C n c_laws_FnExactTurnPhases_o0 sk e h R) := nr rfl
@[simp, simp ↓] theorem c_laws_FnExactTurnPhases_1_r : vc2 C (n + 1) [] (.code c_laws_FnExactTurnPhases_1 :: sk) e h R = (vc2 C n c_laws_FnExactTurnPhases_o1 sk e h R) := nr rfl
@[simp, simp ↓] theorem c_laws_FnExactTurnPhases_2_r : vc2 C (n + 1) [] (.code c_laws_FnExactTurnPhases_2 :: sk) e h R = (vc2 C n c_laws_FnExactTurnPhases_o2 sk e h R) := nr rfl
@[simp, simp ↓] theorem c_laws_FnExactTurnPhases_3_r : vc2 C (n + 1) [] (.code c_laws_FnExactTurnPhases_3 :: sk) e h R = (vc2 C n [] (.code c_laws_FnExactTurnPhases_2 :: .code .ret :: sk) e h R) := nr rfl
@[simp, simp ↓] theorem c_laws_FnExactTurnPhases_4_r : vc2 C (n + 1) [] (.code c_laws_FnExactTurnPhases_4 :: sk) e h R = (condK (ev e (.t 19)) (vc2 C n [] (.code c_laws_FnExactTurnPhases_3 :: sk) e h R) (vc2 C n [] (.code .skip :: sk) e h R)) := nr rfl
@[simp, simp ↓] theorem c_laws_FnExactTurnPhases_5_r : vc2 C (n + 1) [] (.code c_laws_FnExactTurnPhases_5 :: sk) e h R = (vc2 C n [] (.code c_laws_FnExactTurnPhases_1 :: .code c_laws_FnExactTurnPhases_4 :: sk) e h R) := nr rfl
@[simp, simp ↓] theorem c_laws_FnExactTurnPhases_6_r : vc2 C (n + 1) [] (.code c_laws_FnExactTurnPhases_6 :: sk) e h R = (vc2 C n c_laws_FnExactTurnPhases_o3 sk e h R) := nr rfl
@[simp, simp ↓] theorem c_laws_FnExactTurnPhases_7_r : vc2 C (n + 1) [] (.code c_laws_FnExactTurnPhases_7 :: sk) e h R = (vc2 C n c_laws_FnExactTurnPhases_o4 sk e h R) := nr rfl
@[simp, simp ↓] theorem c_laws_FnExactTurnPhases_8_r : vc2 C (n + 1) [] (.code c_laws_FnExactTurnPhases_8 :: sk) e h R = (vc2 C n c_laws_FnExactTurnPhases_o5 sk e h R) := nr rfl
@[simp, simp ↓] theorem c_laws_FnExactTurnPhases_9_r : vc2 C (n + 1) [] (.code c_laws_FnExactTurnPhases_9 :: sk) e h R = (vc2 C n c_laws_FnExactTurnPhases_o6 sk e h R) := nr rfl
@[simp, simp ↓] theorem c_laws_FnExactTurnPhases_10_r : vc2 C (n + 1) [] (.code c_laws_FnExactTurnPhases_10 :: sk) e h R = (vc2 C n [] (.code c_laws_FnExactTurnPhases_9 :: .code .ret :: sk) e h R) := nr rfl
@[simp, simp ↓] theorem c_laws_FnExactTurnPhases_11_r : vc2 C (n + 1) [] (.code c_laws_FnExactTurnPhases_11 :: sk) e h R = (condK (ev e (.t 24)) (vc2 C n [] (.code c_laws_FnExactTurnPhases_10 :: sk) e h R) (vc2 C n [] (.code .skip :: sk) e h R)) := nr rfl
@[simp, simp ↓] theorem c_laws_FnExactTurnPhases_12_r : vc2 C (n + 1) [] (.code c_laws_FnExactTurnPhases_12 :: sk) e h R = (vc2 C n [] (.code c_laws_FnExactTurnPhases_8 :: .code c_laws_FnExactTurnPhases_11 :: sk) e h R) := nr rfl
@[simp, simp ↓] theorem c_laws_FnExactTurnPhases_13_r : vc2 C (n + 1) [] (.code c_laws_FnExactTurnPhases_13 :: sk) e h R = (vc2 C n c_laws_FnExactTurnPhases_o7 sk e h R) := nr rfl
@[simp, simp ↓] theorem c_laws_FnExactTurnPhases_14_r : vc2 C (n + 1) [] (.code c_laws_FnExactTurnPhases_14 :: sk) e h R = (vc2 C n c_laws_FnExactTurnPhases_o8 sk e h R) := nr rfl
@[simp, simp ↓] theorem c_laws_FnExactTurnPhases_15_r : vc2 C (n + 1) [] (.code c_laws_FnExactTurnPhases_15 :: sk) e h R = (vc2 C n c_laws_FnExactTurnPhases_o9 sk e h R) := nr rfl
@[simp, simp ↓] theorem c_laws_FnExactTurnPhases_16_r : vc2 C (n + 1) [] (.code c_laws_FnExactTurnPhases_16 :: sk) e h R = (vc2 C n c_laws_FnExactTurnPhases_o10 sk e h R) := nr rfl
@[simp, simp ↓] theorem c_laws_FnExactTurnPhases_17_r : vc2 C (n + 1) [] (.code c_laws_FnExactTurnPhases_17 :: sk) e h R = (vc2 C n c_laws_FnExactTurnPhases_o11 sk e h R) := nr rfl
@[simp, simp ↓] theorem c_laws_FnExactTurnPhases_18_r : vc2 C (n + 1) [] (.code c_laws_FnExactTurnPhases_18 :: sk) e h R = (vc2 C n c_laws_FnExactTurnPhases_o12 sk e h R) := nr rfl
@[simp, simp ↓] theorem c_laws_FnExactTurnPhases_19_r : vc2 C (n + 1) [] (.code c_laws_FnExactTurnPhases_19 :: sk) e h R = (vc2 C n [] (.code c_laws_FnExactTurnPhases_18 :: .code .ret :: sk) e h R) := nr rfl
@[simp, simp ↓] theorem c_laws_FnExactTurnPhases_20_r : vc2 C (n + 1) [] (.code c_laws_FnExactTurnPhases_20 :: sk) e h R = (condK (ev e (.t 51)) (vc2 C n [] (.code c_laws_FnExactTurnPhases_19 :: sk) e h R) (vc2 C n [] (.code .skip :: sk) e h R)) := nr rfl
@[simp, simp ↓] theorem c_laws_FnExactTurnPhases_21_r : vc2 C (n + 1) [] (.code c_laws_FnExactTurnPhases_21 :: sk) e h R = (vc2 C n [] (.code c_laws_FnExactTurnPhases_17 :: .code c_laws_FnExactTurnPhases_20 :: sk) e h R) := nr rfl
@[simp, simp ↓] theorem c_laws_FnExactTurnPhases_22_r : vc2 C (n + 1) [] (.code c_laws_FnExactTurnPhases_22 :: sk) e h R = (draw2 C h (vK C n [] sk R h) c_laws_FnExactTurnPhases_o13 e) := nr rfl
@[simp, simp ↓] theorem c_laws_FnExactTurnPhases_23_r : vc2 C (n + 1) [] (.code c_laws_FnExactTurnPhases_23 :: sk) e h R = (vc2 C n c_laws_FnExactTurnPhases_o14 sk e h R) := nr rfl
@[simp, simp ↓] theorem c_laws_FnExactTurnPhases_24_r : vc2 C (n + 1) [] (.code c_laws_FnExactTurnPhases_24 :: sk) e h R = (vc2 C n [] (.code c_laws_FnExactTurnPhases_23 :: .code .ret :: sk) e h R) := nr rfl
@[simp, simp ↓] theorem c_laws_FnExactTurnPhases_25_r : vc2 C (n + 1) [] (.code c_laws_FnExactTurnPhases_25 :: sk) e h R = (condK (ev e (.t 56)) (vc2 C n [] (.code c_laws_FnExactTurnPhases_24 :: sk) e h R) (vc2 C n [] (.code .skip :: sk) e h R)) := nr rfl
@[simp, simp ↓] theorem c_laws_FnExactTurnPhases_26_r : vc2 C (n + 1) [] (.code c_laws_FnExactTurnPhases_26 :: sk) e h R = (vc2 C n [] (.code c_laws_FnExactTurnPhases_22 :: .code c_laws_FnExactTurnPhases_25 :: sk) e h R) := nr rfl
@[simp, simp ↓] theorem c_laws_FnExactTurnPhases_27_r : vc2 C (n + 1) [] (.code c_laws_FnExactTurnPhases_27 :: sk) e h R = (vc2 C n c_laws_FnExactTurnPhases_o15 sk e h R) := nr rfl
@[simp, simp ↓] theorem c_laws_FnExactTurnPhases_28_r : vc2 C (n + 1) [] (.code c_laws_FnExactTurnPhases_28 :: sk) e h R = (vc2 C n c_laws_FnExactTurnPhases_o16 sk e h R) := nr rfl
@[simp, simp ↓] theorem c_laws_FnExactTurnPhases_29_r : vc2 C (n + 1) [] (.code c_laws_FnExactTurnPhases_29 :: sk) e h R = (vc2 C n [] (.code c_laws_FnExactTurnPhases_28 :: .code .ret :: sk) e h R) := nr rfl
@[simp, simp ↓] theorem c_laws_FnExactTurnPhases_30_r : vc2 C (n + 1) [] (.code c_laws_FnExactTurnPhases_30 :: sk) e h R = (condK (ev e (.t 61)) (vc2 C n [] (.code c_laws_FnExactTurnPhases_29 :: sk) e h R) (vc2 C n [] (.code .skip :: sk) e h R)) := nr rfl
@[simp, simp ↓] theorem c_laws_FnExactTurnPhases_31_r : vc2 C (n + 1) [] (.code c_laws_FnExactTurnPhases_31 :: sk) e h R = (vc2 C n [] (.code c_laws_FnExactTurnPhases_27 :: .code c_laws_FnExactTurnPhases_30 :: sk) e h R) := nr rfl
@[simp, simp ↓] theorem c_laws_FnExactTurnPhases_32_r : vc2 C (n + 1) [] (.code c_laws_FnExactTurnPhases_32 :: sk) e h R = (vc2 C n c_laws_FnExactTurnPhases_o17 sk e h R) := nr rfl
@[simp, simp ↓] theorem c_laws_FnExactTurnPhases_33_r : vc2 C (n + 1) [] (.code c_laws_FnExactTurnPhases_33 :: sk) e h R = (vc2 C n c_laws_FnExactTurnPhases_o18 sk e h R) := nr rfl
@[simp, simp ↓] theorem c_laws_FnExactTurnPhases_34_r : vc2 C (n + 1) [] (.code c_laws_FnExactTurnPhases_34 :: sk) e h R = (vc2 C n c_laws_FnExactTurnPhases_o19 sk e h R) := nr rfl
@[simp, simp ↓] theorem c_laws_FnExactTurnPhases_35_r : vc2 C (n + 1) [] (.code c_laws_FnExactTurnPhases_35 :: sk) e h R = (vc2 C n c_laws_FnExactTurnPhases_o20 sk e h R) := nr rfl
@[simp, simp ↓] theorem c_laws_FnExactTurnPhases_36_r : vc2 C (n + 1) [] (.code c_laws_FnExactTurnPhases_36 :: sk) e h R = (vc2 C n c_laws_FnExactTurnPhases_o21 sk e h R) := nr rfl
@[simp, simp ↓] theorem c_laws_FnExactTurnPhases_37_r : vc2 C (n + 1) [] (.code c_laws_FnExactTurnPhases_37 :: sk) e h R = (vc2 C n [] (.code c_laws_FnExactTurnPhases_36 :: .code .ret :: sk) e h R) := nr rfl
@[simp, simp ↓] theorem c_laws_FnExactTurnPhases_38_r : vc2 C (n + 1) [] (.code c_laws_FnExactTurnPhases_38 :: sk) e h R = (condK (ev e (.t 80)) (vc2 C n [] (.code c_laws_FnExactTurnPhases_37 :: sk) e h R) (vc2 C n [] (.code .skip :: sk) e h R)) := nr rfl
@[simp, simp ↓] theorem c_laws_FnExactTurnPhases_39_r : vc2 C (n + 1) [] (.code c_laws_FnExactTurnPhases_39 :: sk) e h R = (vc2 C n [] (.code c_laws_FnExactTurnPhases_35 :: .code c_laws_FnExactTurnPhases_38 :: sk) e h R) := nr rfl
@[simp, simp ↓] theorem c_laws_FnExactTurnPhases_40_r : vc2 C (n + 1) [] (.code c_laws_FnExactTurnPhases_40 :: sk) e h R = (vc2 C n c_laws_FnExactTurnPhases_o22 sk e h R) := nr rfl
@[simp, simp ↓] theorem c_laws_FnExactTurnPhases_41_r : vc2 C (n + 1) [] (.code c_laws_FnExactTurnPhases_41 :: sk) e h R = (vc2 C n c_laws_FnExactTurnPhases_o23 sk e h R) := nr rfl
@[simp, simp ↓] theorem c_laws_FnExactTurnPhases_42_r : vc2 C (n + 1) [] (.code c_laws_FnExactTurnPhases_42 :: sk) e h R = (vc2 C n c_laws_FnExactTurnPhases_o24 sk e h R) := nr rfl
@[simp, simp ↓] theorem c_laws_FnExactTurnPhases_43_r : vc2 C (n + 1) [] (.code c_laws_FnExactTurnPhases_43 :: sk) e h R = (vc2 C n c_laws_FnExactTurnPhases_o25 sk e h R) := nr rfl
@[simp, simp ↓] theorem c_laws_FnExactTurnPhases_44_r : vc2 C (n + 1) [] (.code c_laws_FnExactTurnPhases_44 :: sk) e h R = (vc2 C n c_laws_FnExactTurnPhases_o26 sk e h R) := nr rfl
@[simp, simp ↓] theorem c_laws_FnExactTurnPhases_45_r : vc2 C (n + 1) [] (.code c_laws_FnExactTurnPhases_45 :: sk) e h R = (vc2 C n c_laws_FnExactTurnPhases_o27 sk e h R) := nr rfl
@[simp, simp ↓] theorem c_laws_FnExactTurnPhases_46_r : vc2 C (n + 1) [] (.code c_laws_FnExactTurnPhases_46 :: sk) e h R = (vc2 C n [] (.code c_laws_FnExactTurnPhases_45 :: .code .ret :: sk) e h R) := nr rfl
@[simp, simp ↓] theorem c_laws_FnExactTurnPhases_47_r : vc2 C (n + 1) [] (.code c_laws_FnExactTurnPhases_47 :: sk) e h R = (condK (ev e (.t 88)) (vc2 C n [] (.code c_laws_FnExactTurnPhases_46 :: sk) e h R) (vc2 C n [] (.code .skip :: sk) e h R)) := nr rfl
@[simp, simp ↓] theorem c_laws_FnExactTurnPhases_48_r : vc2 C (n + 1) [] (.code c_laws_FnExactTurnPhases_48 :: sk) e h R = (vc2 C n [] (.code c_laws_FnExactTurnPhases_44 :: .code c_laws_FnExactTurnPhases_47 :: sk) e h R) := nr rfl
@[simp, simp ↓] theorem c_laws_FnExactTurnPhases_49_r : vc2 C (n + 1) [] (.code c_laws_FnExactTurnPhases_49 :: sk) e h R = (vc2 C n c_laws_FnExactTurnPhases_o28 sk e h R) := nr rfl
@[simp, simp ↓] theorem c_laws_FnExactTurnPhases_50_r : vc2 C (n + 1) [] (.code c_laws_FnExactTurnPhases_50 :: sk) e h R = (vc2 C n c_laws_FnExactTurnPhases_o29 sk e h R) := nr rfl
@[simp, simp ↓] theorem c_laws_FnExactTurnPhases_51_r : vc2 C (n + 1) [] (.code c_laws_FnExactTurnPhases_51 :: sk) e h R = (vc2 C n [] (.code c_laws_FnExactTurnPhases_50 :: .code .ret :: sk) e h R) := nr rfl
@[simp, simp ↓] theorem c_laws_FnExactTurnPhases_52_r : vc2 C (n + 1) [] (.code c_laws_FnExactTurnPhases_52 :: sk) e h R = (condK (ev e (.t 91)) (vc2 C n [] (.code c_laws_FnExactTurnPhases_51 :: sk) e h R) (vc2 C n [] (.code .skip :: sk) e h R)) := nr rfl
@[simp, simp ↓] theorem c_laws_FnExactTurnPhases_53_r : vc2 C (n + 1) [] (.code c_laws_FnExactTurnPhases_53 :: sk) e h R = (vc2 C n [] (.code c_laws_FnExactTurnPhases_49 :: .code c_laws_FnExactTurnPhases_52 :: sk) e h R) := nr rfl
@[simp, simp ↓] theorem c_laws_FnExactTurnPhases_54_r : vc2 C (n + 1) [] (.code c_laws_FnExactTurnPhases_54 :: sk) e h R = (vc2 C n c_laws_FnExactTurnPhases_o30 sk e h R) := nr rfl
@[simp, simp ↓] theorem c_laws_FnExactTurnPhases_55_r : vc2 C (n + 1) [] (.code c_laws_FnExactTurnPhases_55 :: sk) e h R = (vc2 C n c_laws_FnExactTurnPhases_o31 sk e h R) := nr rfl
@[simp, simp ↓] theorem c_laws_FnExactTurnPhases_56_r : vc2 C (n + 1) [] (.code c_laws_FnExactTurnPhases_56 :: sk) e h R = (vc2 C n c_laws_FnExactTurnPhases_o32 sk e h R) := nr rfl
@[simp, simp ↓] theorem c_laws_FnExactTurnPhases_57_r : vc2 C (n + 1) [] (.code c_laws_FnExactTurnPhases_57 :: sk) e h R = (vc2 C n [] (.code c_laws_FnExactTurnPhases_56 :: .code .ret :: sk) e h R) := nr rfl
@[simp, simp ↓] theorem c_laws_FnExactTurnPhases_58_r : vc2 C (n + 1) [] (.code c_laws_FnExactTurnPhases_58 :: sk) e h R = (condK (ev e (.t 108)) (vc2 C n [] (.code c_laws_FnExactTurnPhases_57 :: sk) e h R) (vc2 C n [] (.code .skip :: sk) e h R)) := nr rfl
@[simp, simp ↓] theorem c_laws_FnExactTurnPhases_59_r : vc2 C (n + 1) [] (.code c_laws_FnExactTurnPhases_59 :: sk) e h R = (vc2 C n [] (.code c_laws_FnExactTurnPhases_55 :: .code c_laws_FnExactTurnPhases_58 :: sk) e h R) := nr rfl
@[simp, simp ↓] theorem c_laws_FnExactTurnPhases_60_r : vc2 C (n + 1) [] (.code c_laws_FnExactTurnPhases_60 :: sk) e h R = (vc2 C n c_laws_FnExactTurnPhases_o33 sk e h R) := nr rfl
@[simp, simp ↓] theorem c_laws_FnExactTurnPhases_61_r : vc2 C (n + 1) [] (.code c_laws_FnExactTurnPhases_61 :: sk) e h R = (vc2 C n c_laws_FnExactTurnPhases_o34 sk e h R) := nr rfl
@[simp, simp ↓] theorem c_laws_FnExactTurnPhases_62_r : vc2 C (n + 1) [] (.code c_laws_FnExactTurnPhases_62 :: sk) e h R = (vc2 C n c_laws_FnExactTurnPhases_o35 sk e h R) := nr rfl
@[simp, simp ↓] theorem c_laws_FnExactTurnPhases_63_r : vc2 C (n + 1) [] (.code c_laws_FnExactTurnPhases_63 :: sk) e h R = (vc2 C n c_laws_FnExactTurnPhases_o36 sk e h R) := nr rfl
@[simp, simp ↓] theorem c_laws_FnExactTurnPhases_64_r : vc2 C (n + 1) [] (.code c_laws_FnExactTurnPhases_64 :: sk) e h R = (vc2 C n [] (.code c_laws_FnExactTurnPhases_63 :: .code .ret :: sk) e h R) := nr rfl
@[simp, simp ↓] theorem c_laws_FnExactTurnPhases_65_r : vc2 C (n + 1) [] (.code c_laws_FnExactTurnPhases_65 :: sk) e h R = (condK (ev e (.t 113)) (vc2 C n [] (.code c_laws_FnExactTurnPhases_64 :: sk) e h R) (vc2 C n [] (.code .skip :: sk) e h R)) := nr rfl
@[simp, simp ↓] theorem c_laws_FnExactTurnPhases_66_r : vc2 C (n + 1) [] (.code c_laws_FnExactTurnPhases_66 :: sk) e h R = (vc2 C n [] (.code c_laws_FnExactTurnPhases_62 :: .code c_laws_FnExactTurnPhases_65 :: sk) e h R) := nr rfl
@[simp, simp ↓] theorem c_laws_FnExactTurnPhases_67_r : vc2 C (n + 1) [] (.code c_laws_FnExactTurnPhases_67 :: sk) e h R = (vc2 C n c_laws_FnExactTurnPhases_o37 sk e h R) := nr rfl
@[simp, simp ↓] theorem c_laws_FnExactTurnPhases_68_r : vc2 C (n + 1) [] (.code c_laws_FnExactTurnPhases_68 :: sk) e h R = (vc2 C n c_laws_FnExactTurnPhases_o38 sk e h R) := nr rfl
@[simp, simp ↓] theorem c_laws_FnExactTurnPhases_69_r : vc2 C (n + 1) [] (.code c_laws_FnExactTurnPhases_69 :: sk) e h R = (vc2 C n [] (.code c_laws_FnExactTurnPhases_68 :: .code .ret :: sk) e h R) := nr rfl
@[simp, simp ↓] theorem c_laws_FnExactTurnPhases_70_r : vc2 C (n + 1) [] (.code c_laws_FnExactTurnPhases_70 :: sk) e h R = (condK (ev e (.t 116)) (vc2 C n [] (.code c_laws_FnExactTurnPhases_69 :: sk) e h R) (vc2 C n [] (.code .skip :: sk) e h R)) := nr rfl
@[simp, simp ↓] theorem c_laws_FnExactTurnPhases_71_r : vc2 C (n + 1) [] (.code c_laws_FnExactTurnPhases_71 :: sk) e h R = (vc2 C n [] (.code c_laws_FnExactTurnPhases_67 :: .code c_laws_FnExactTurnPhases_70 :: sk) e h R) := nr rfl
@[simp, simp ↓] theorem c_laws_FnExactTurnPhases_72_r : vc2 C (n + 1) [] (.code c_laws_FnExactTurnPhases_72 :: sk) e h R = (vc2 C n c_laws_FnExactTurnPhases_o39 sk e h R) := nr rfl
@[simp, simp ↓] theorem c_laws_FnExactTurnPhases_73_r : vc2 C (n + 1) [] (.code c_laws_FnExactTurnPhases_73 :: sk) e h R = (vc2 C n [] (.code c_laws_FnExactTurnPhases_72 :: .code .ret :: sk) e h R) := nr rfl
@[simp, simp ↓] theorem c_laws_FnExactTurnPhases_74_r : vc2 C (n + 1) [] (.code c_laws_FnExactTurnPhases_74 :: sk) e h R = (vc2 C n [] (.code c_laws_FnExactTurnPhases_71 :: .code c_laws_FnExactTurnPhases_73 :: sk) e h R) := nr rfl
@[simp, simp ↓] theorem c_laws_FnExactTurnPhases_75_r : vc2 C (n + 1) [] (.code c_laws_FnExactTurnPhases_75 :: sk) e h R = (vc2 C n [] (.code c_laws_FnExactTurnPhases_66 :: .code c_laws_FnExactTurnPhases_74 :: sk) e h R) := nr rfl
@[simp, simp ↓] theorem c_laws_FnExactTurnPhases_76_r : vc2 C (n + 1) [] (.code c_laws_FnExactTurnPhases_76 :: sk) e h R = (vc2 C n [] (.code c_laws_FnExactTurnPhases_61 :: .code c_laws_FnExactTurnPhases_75 :: sk) e h R) := nr rfl
@[simp, simp ↓] theorem c_laws_FnExactTurnPhases_77_r : vc2 C (n + 1) [] (.code c_laws_FnExactTurnPhases_77 :: sk) e h R = (vc2 C n [] (.code c_laws_FnExactTurnPhases_60 :: .code c_laws_FnExactTurnPhases_76 :: sk) e h R) := nr rfl
@[simp, simp ↓] theorem c_laws_FnExactTurnPhases_78_r : vc2 C (n + 1) [] (.code c_laws_FnExactTurnPhases_78 :: sk) e h R = (vc2 C n [] (.code c_laws_FnExactTurnPhases_59 :: .code c_laws_FnExactTurnPhases_77 :: sk) e h R) := nr rfl
@[simp, simp ↓] theorem c_laws_FnExactTurnPhases_79_r : vc2 C (n + 1) [] (.code c_laws_FnExactTurnPhases_79 :: sk) e h R = (vc2 C n [] (.code c_laws_FnExactTurnPhases_54 :: .code c_laws_FnExactTurnPhases_78 :: sk) e h R) := nr rfl
@[simp, simp ↓] theorem c_laws_FnExactTurnPhases_80_r : vc2 C (n + 1) [] (.code c_laws_FnExactTurnPhases_80 :: sk) e h R = (vc2 C n [] (.code c_laws_FnExactTurnPhases_53 :: .code c_laws_FnExactTurnPhases_79 :: sk) e h R) := nr rfl
@[simp, simp ↓] theorem c_laws_FnExactTurnPhases_81_r : vc2 C (n + 1) [] (.code c_laws_FnExactTurnPhases_81 :: sk) e h R = (vc2 C n [] (.code c_laws_FnExactTurnPhases_48 :: .code c_laws_FnExactTurnPhases_80 :: sk) e h R) := nr rfl
@[simp, simp ↓] theorem c_laws_FnExactTurnPhases_82_r : vc2 C (n + 1) [] (.code c_laws_FnExactTurnPhases_82 :: sk) e h R = (vc2 C n [] (.code c_laws_FnExactTurnPhases_43 :: .code c_laws_FnExactTurnPhases_81 :: sk) e h R) := nr rfl
@[simp, simp ↓] theorem c_laws_FnExactTurnPhases_83_r : vc2 C (n + 1) [] (.code c_laws_FnExactTurnPhases_83 :: sk) e h R = (vc2 C n [] (.code c_laws_FnExactTurnPhases_42 :: .code c_laws_FnExactTurnPhases_82 :: sk) e h R) := nr rfl
@[simp, simp ↓] theorem c_laws_FnExactTurnPhases_84_r : vc2 C (n + 1) [] (.code c_laws_FnExactTurnPhases_84 :: sk) e h R = (vc2 C n [] (.code c_laws_FnExactTurnPhases_41 :: .code c_laws_FnExactTurnPhases_83 :: sk) e h R) := nr rfl
@[simp, simp ↓] theorem c_laws_FnExactTurnPhases_85_r : vc2 C (n + 1) [] (.code c_laws_FnExactTurnPhases_85 :: sk) e h R = (vc2 C n [] (.code c_laws_FnExactTurnPhases_40 :: .code c_laws_FnExactTurnPhases_84 :: sk) e h R) := nr rfl
@[simp, simp ↓] theorem c_laws_FnExactTurnPhases_86_r : vc2 C (n + 1) [] (.code c_laws_FnExactTurnPhases_86 :: sk) e h R = (vc2 C n [] (.code c_laws_FnExactTurnPhases_39 :: .code c_laws_FnExactTurnPhases_85 :: sk) e h R) := nr rfl
@[simp, simp ↓] theorem c_laws_FnExactTurnPhases_87_r : vc2 C (n + 1) [] (.code c_laws_FnExactTurnPhases_87 :: sk) e h R = (vc2 C n [] (.code c_laws_FnExactTurnPhases_34 :: .code c_laws_FnExactTurnPhases_86 :: sk) e h R) := nr rfl
@[simp, simp ↓] theorem c_laws_FnExactTurnPhases_88_r : vc2 C (n + 1) [] (.code c_laws_FnExactTurnPhases_88 :: sk) e h R = (vc2 C n [] (.code c_laws_FnExactTurnPhases_33 :: .code c_laws_FnExactTurnPhases_87 :: sk) e h R) := nr rfl
@[simp, simp ↓] theorem c_laws_FnExactTurnPhases_89_r : vc2 C (n + 1) [] (.code c_laws_FnExactTurnPhases_89 :: sk) e h R = (vc2 C n [] (.code c_laws_FnExactTurnPhases_32 :: .code c_laws_FnExactTurnPhases_88 :: sk) e h R) := nr rfl
@[simp, simp ↓] theorem c_laws_FnExactTurnPhases_90_r : vc2 C (n + 1) [] (.code c_laws_FnExactTurnPhases_90 :: sk) e h R = (vc2 C n [] (.code c_laws_FnExactTurnPhases_31 :: .code c_laws_FnExactTurnPhases_89 :: sk) e h R) := nr rfl
@[simp, simp ↓] theorem c_laws_FnExactTurnPhases_91_r : vc2 C (n + 1) [] (.code c_laws_FnExactTurnPhases_91 :: sk) e h R = (vc2 C n [] (.code c_laws_FnExactTurnPhases_26 :: .code c_laws_FnExactTurnPhases_90 :: sk) e h R) := nr rfl
@[simp, simp ↓] theorem c_laws_FnExactTurnPhases_92_r : vc2 C (n + 1) [] (.code c_laws_FnExactTurnPhases_92 :: sk) e h R = (vc2 C n [] (.code c_laws_FnExactTurnPhases_21 :: .code c_laws_FnExactTurnPhases_91 :: sk) e h R) := nr rfl
@[simp, simp ↓] theorem c_laws_FnExactTurnPhases_93_r : vc2 C (n + 1) [] (.code c_laws_FnExactTurnPhases_93 :: sk) e h R = (vc2 C n [] (.code c_laws_FnExactTurnPhases_16 :: .code c_laws_FnExactTurnPhases_92 :: sk) e h R) := nr rfl
@[simp, simp ↓] theorem c_laws_FnExactTurnPhases_94_r : vc2 C (n + 1) [] (.code c_laws_FnExactTurnPhases_94 :: sk) e h R = (vc2 C n [] (.code c_laws_FnExactTurnPhases_15 :: .code c_laws_FnExactTurnPhases_93 :: sk) e h R) := nr rfl
@[simp, simp ↓] theorem c_laws_FnExactTurnPhases_95_r : vc2 C (n + 1) [] (.code c_laws_FnExactTurnPhases_95 :: sk) e h R = (vc2 C n [] (.code c_laws_FnExactTurnPhases_14 :: .code c_laws_FnExactTurnPhases_94 :: sk) e h R) := nr rfl
@[simp, simp ↓] theorem c_laws_FnExactTurnPhases_96_r : vc2 C (n + 1) [] (.code c_laws_FnExactTurnPhases_96 :: sk) e h R = (vc2 C n [] (.code c_laws_FnExactTurnPhases_13 :: .code c_laws_FnExactTurnPhases_95 :: sk) e h R) := nr rfl
@[simp, simp ↓] theorem c_laws_FnExactTurnPhases_97_r : vc2 C (n + 1) [] (.code c_laws_FnExactTurnPhases_97 :: sk) e h R = (vc2 C n [] (.code c_laws_FnExactTurnPhases_12 :: .code c_laws_FnExactTurnPhases_96 :: sk) e h R) := nr rfl
@[simp, simp ↓] theorem c_laws_FnExactTurnPhases_98_r : vc2 C (n + 1) [] (.code c_laws_FnExactTurnPhases_98 :: sk) e h R = (vc2 C n [] (.code c_laws_FnExactTurnPhases_7 :: .code c_laws_FnExactTurnPhases_97 :: sk) e h R) := nr rfl
@[simp, simp ↓] theorem c_laws_FnExactTurnPhases_99_r : vc2 C (n + 1) [] (.code c_laws_FnExactTurnPhases_99 :: sk) e h R = (vc2 C n [] (.code c_laws_FnExactTurnPhases_6 :: .code c_laws_FnExactTurnPhases_98 :: sk) e h R) := nr rfl
@[simp, simp ↓] theorem c_laws_FnExactTurnPhases_100_r : vc2 C (n + 1) [] (.code c_laws_FnExactTurnPhases_100 :: sk) e h R = (vc2 C n [] (.code c_laws_FnExactTurnPhases_5 :: .code c_laws_FnExactTurnPhases_99 :: sk) e h R) := nr rfl
@[simp, simp ↓] theorem c_laws_FnExactTurnPhases_101_r : vc2 C (n + 1) [] (.code c_laws_FnExactTurnPhases_101 :: sk) e h R = (vc2 C n [] (.code c_laws_FnExactTurnPhases_0 :: .code c_laws_FnExactTurnPhases_100 :: sk) e h R) := nr rfl
end
noncomputable def c_laws_FnExactTurnPhases_C (orc : Orc) : Cx := ⟨Try.prog, [6, 8, 10, 15], 8, 117, [.tmp 4], orc⟩
@[simp] theorem c_laws_FnExactTurnPhases_C_P (orc : Orc) : (c_laws_FnExactTurnPhases_C orc).P = Try.prog := nr rfl
@[simp] theorem c_laws_FnExactTurnPhases_C_o (orc : Orc) : (c_laws_FnExactTurnPhases_C orc).orc = orc := nr rfl
@[simp] theorem c_laws_FnExactTurnPhases_C_r (orc : Orc) : (c_laws_FnExactTurnPhases_C orc).res = [.tmp 4] := nr rfl
theorem c_laws_FnExactTurnPhases_of {args : List AV} {h : Heap} {R : AV → Heap → Prop} {k : Nat} (ha : args.length = k) {orc : Orc} (hp : Pure Try.prog orc) (hk : Is (c_laws_FnExactTurnPhases_C orc) Try.f8 → Run2 (c_laws_FnExactTurnPhases_C orc) [.code c_laws_FnExactTurnPhases_101] (argEnv 0 args) h (Post R)) (hle : k ≤ 117 := by simp) : ACalls Try.prog 8 args h R :=
  contract2 [6, 8, 10, 15] c_laws_FnExactTurnPhases_101 [.tmp 4] Try.func8 (by decide +kernel) rfl (by kernel_rfl) (by rw [ha]; exact hle) (by kernel_rfl) hp hk
theorem c_laws_FnExactTurnPhases_of0 {args : List AV} {h : Heap} {R : AV → Heap → Prop} {k : Nat} (ha : args.length = k) {orc : Orc} (hp : Pure Try.prog orc) (hk : Is (c_laws_FnExactTurnPhases_C orc) Try.f8 → Run2 (c_laws_FnExactTurnPhases_C orc) [.code c_laws_FnExactTurnPhases_101] (argEnv 0 args) h R) (hle : k ≤ 117 := by simp) : ACalls Try.prog 8 args h R :=
  contract20 [6, 8, 10, 15] c_laws_FnExactTurnPhases_101 [.tmp 4] Try.func8 (by decide +kernel) rfl (by kernel_rfl) (by rw [ha]; exact hle) (by kernel_rfl) hp hk
theorem turn_law (x : Ph) (hx : x.wf) (p : List Int) (hp : wfI p) : ACalls Try.prog 8 [x.av, (.snap 1 (p.map iv))] [] (fun v h' => v = .bool true ∧ h' = []) := by
  refine c_laws_FnExactTurnPhases_of rfl orcM_p fun I => ?_
  have hx2_x := hx.2
  have hx2_p := hp.2
  refine Run2.of I 1000 ?_
  by_cases lp : p.length ≤ 1048576
  · have hAp : ¬ (1048576 : Int) < p.length := by omega
    by_cases kx : (x.ts.length : Int) ≤ (1048576 : Int)
    · have hAx : ¬ (1048576 : Int) < x.ts.length := by omega
      have hBx : ¬ (1048576 : Int) - x.ts.length < 0 := by omega
      have hCx : (0 : Int) ≤ (1048576 : Int) - x.ts.length := by omega
      have lx : x.ts.length ≤ 1048576 := by omega
      have he := x.turned_len p
      simp -implicitDefEqProofs [hx2_x, hx2_p, hAp, hAx, hBx, hCx]
      first | refine dcallK (toPhases_c x _ lx) ?_ | (refine (toPhases_c x _ lx).mono ?_; rintro v h' ⟨rfl, rfl⟩; refine gK.go ?_)
      simp -implicitDefEqProofs
      first | refine dcallK (toInt64S_c p _ lp) ?_ | (refine (toInt64S_c p _ lp).mono ?_; rintro v h' ⟨rfl, rfl⟩; refine gK.go ?_)
      simp -implicitDefEqProofs
      first | refine dcallK (specTurn_c x p _ hx.1 lx lp) ?_ | (refine (specTurn_c x p _ hx.1 lx lp).mono ?_; rintro v h' ⟨rfl, rfl⟩; refine gK.go ?_)
      simp -implicitDefEqProofs
      refine (toPhases_o x _ lx).monoN ?_
      rintro v0 h' ⟨g0, o0, d0, rfl⟩ n0
      obtain ⟨u0, rfl, ou0⟩ := id o0
      have c0 := ou0.cell
      refine gK.go ?_
      simp -implicitDefEqProofs [c0]
      refine (toInt64S_o p _ lp).monoN ?_
      rintro v1 h' ⟨g1, o1, d1, rfl⟩ n1
      refine gK.go ?_
      simp -implicitDefEqProofs [c0]
      have L0 := o0.lentIn (L := (g1 ++ g0)) (fun p hp => List.mem_append_right _ (hp)) n1
      have L1 := o1.lentIn cold_iv1 (L := (g1 ++ g0)) (fun p hp => List.mem_append_left _ hp) n1
      refine (ACalls.gives (g1 ++ g0) (fun p hp => hp) (S := fun v h' => ∃ w, v = .tup [w, .int .i64 (x.ecode p)] ∧ OwnPh w (x.turned p) h') ?_ ?_).monoN ?_
      · rw [lend_cons, lend_cons, lend_nil']
        exact ACalls.wk (.cons L0.wk (.cons L1.wk .nil)) (implTurn_o x p hx.1 lx lp)
      · rintro v h' ⟨w, rfl, ho⟩
        have := ho.own
        exact ⟨by simp [own, owns, this.1], this.2⟩
      rintro v h' ⟨gg, ⟨w, rfl, og⟩, dg, rfl⟩ ng
      obtain ⟨uw, rfl, ouw⟩ := id og
      have cw := ouw.cell
      refine gK.go ?_
      simp -implicitDefEqProofs [c0, cw]
      first | refine dcallK (eqPh_own og (x.turned p).is (fun p hp => List.mem_append_left _ hp) (show (x.turned p).ts.length ≤ 1048576 by omega)) ?_ | (refine (eqPh_own og (x.turned p).is (fun p hp => List.mem_append_left _ hp) (show (x.turned p).ts.length ≤ 1048576 by omega)).mono ?_; rintro v h' ⟨rfl, rfl⟩; refine gK.go ?_)
      simp -implicitDefEqProofs [c0, cw]
      first | refine dcallK (toPhases_c x _ lx) ?_ | (refine (toPhases_c x _ lx).mono ?_; rintro v h' ⟨rfl, rfl⟩; refine gK.go ?_)
      simp -implicitDefEqProofs [c0, cw]
      first | refine dcallK (eqPh_own o0 x.is (fun p hp => List.mem_append_right _ (List.mem_append_right _ (hp))) lx) ?_ | (refine (eqPh_own o0 x.is (fun p hp => List.mem_append_right _ (List.mem_append_right _ (hp))) lx).mono ?_; rintro v h' ⟨rfl, rfl⟩; refine gK.go ?_)
      simp -implicitDefEqProofs [c0, cw]
      first | refine dcallK (toInt64S_c p _ lp) ?_ | (refine (toInt64S_c p _ lp).mono ?_; rintro v h' ⟨rfl, rfl⟩; refine gK.go ?_)
      simp -implicitDefEqProofs [c0, cw]
      first | refine dcallK (eqI_own o1 (.snap p) (fun p hp => List.mem_append_right _ (List.mem_append_left _ hp)) lp) ?_ | (refine (eqI_own o1 (.snap p) (fun p hp => List.mem_append_right _ (List.mem_append_left _ hp)) lp).mono ?_; rintro v h' ⟨rfl, rfl⟩; refine gK.go ?_)
      simp -implicitDefEqProofs [c0, cw]
      refine (markPh_drop o0 (gg ++ g1) (fun p hp => List.mem_append_right _ (List.mem_append_right _ (hp))) ?_ ?_ (1) (by omega) (by omega)).monoN ?_
      · simpa only [List.append_assoc] using keepL (a := (gg ++ g1)) (b := g0) (by simpa only [List.append_assoc] using ng)
      · exact fun nd => nodupL (a := (gg ++ g1)) (b := g0) (by simpa only [List.append_assoc] using nd)
      rintro _ _ ⟨e1, e2⟩ nk0
      rw [e1, e2]; rw [e2] at nk0
      refine gK.go ?_
      simp -implicitDefEqProofs [c0, cw]
      refine (markI_drop o1 gg (fun p hp => List.mem_append_right _ (hp)) ?_ ?_ (1 + 3 * (x.ts.length : Int)) (by omega) (by omega)).monoN ?_
      · simpa only [List.append_assoc] using keepL (a := gg) (b := g1) (by simpa only [List.append_assoc] using nk0)
      · exact fun nd => nodupL (a := gg) (b := g1) (by simpa only [List.append_assoc] using nd)
      rintro _ _ ⟨e1, e2⟩ nk1
      rw [e1, e2]; rw [e2] at nk1
      refine gK.go ?_
      have hk : ¬ (1 + 3 * (x.ts.length : Int) + (p.length : Int)) < 0 := by omega
      simp -implicitDefEqProofs [c0, cw, hk]
      first | refine dcallK (eqPh_own og (x.turned p).is (fun p hp => hp) (show (x.turned p).ts.length ≤ 1048576 by omega)) ?_ | (refine (eqPh_own og (x.turned p).is (fun p hp => hp) (show (x.turned p).ts.length ≤ 1048576 by omega)).mono ?_; rintro v h' ⟨rfl, rfl⟩; refine gK.go ?_)
      simp -implicitDefEqProofs [c0, cw]
      skip
      refine (markPh_keep og [] (fun p hp => hp) keepN (fun _ => by simp [dom]) 1 (by omega) (by have := (show (x.turned p).ts.length ≤ 1048576 by omega); omega)).mono ?_
      rintro _ _ ⟨gm, rfl, om, rfl⟩
      refine gK.go ?_
      simp -implicitDefEqProofs [c0, cw]
      have hq : ¬ (1 + 3 * ((x.turned p).ts.length : Int) < 0) := by omega
      first | refine dcallK (heldPh_own om (fun p hp => hp) 1 (by omega) (by have := (show (x.turned p).ts.length ≤ 1048576 by omega); simp; omega)) ?_ | (refine (heldPh_own om (fun p hp => hp) 1 (by omega) (by have := (show (x.turned p).ts.length ≤ 1048576 by omega); simp; omega)).mono ?_; rintro v h' ⟨rfl, rfl⟩; refine gK.go ?_)
      simp -implicitDefEqProofs [c0, cw, hq]
      first | refine dcallK (toPhases_c x _ lx) ?_ | (refine (toPhases_c x _ lx).mono ?_; rintro v h' ⟨rfl, rfl⟩; refine gK.go ?_)
      simp -implicitDefEqProofs [c0, cw]
      first | refine dcallK (toInt64S_c p _ lp) ?_ | (refine (toInt64S_c p _ lp).mono ?_; rintro v h' ⟨rfl, rfl⟩; refine gK.go ?_)
      simp -implicitDefEqProofs [c0, cw]
      refine (ACalls.gives [] (by simp) (S := fun v h' => ∃ w, v = .tup [w, .int .i64 (x.ecode p)] ∧ OwnPh w (x.turned p) h') ?_ ?_).mono ?_
      · exact implTurn_o x p hx.1 lx lp
      · rintro v h' ⟨w, rfl, ho⟩
        have := ho.own
        exact ⟨by simp [own, owns, this.1], this.2⟩
      rintro _ _ ⟨g9, ⟨w9, rfl, o9⟩, d9, rfl⟩
      obtain ⟨uz, rfl, ouz⟩ := id o9
      have cz := ouz.cell
      refine gK.go ?_
      simp -implicitDefEqProofs [c0, cw, hq, cz]
      first | refine dcallK (eqPh_own o9 (x.turned p).is (fun p hp => List.mem_append_left _ hp) (show (x.turned p).ts.length ≤ 1048576 by omega)) ?_ | (refine (eqPh_own o9 (x.turned p).is (fun p hp => List.mem_append_left _ hp) (show (x.turned p).ts.length ≤ 1048576 by omega)).mono ?_; rintro v h' ⟨rfl, rfl⟩; refine gK.go ?_)
      simp -implicitDefEqProofs [c0, cw, hq, cz]
      first | refine dcallK (heldPh_own om (fun p hp => List.mem_append_right _ hp) 1 (by omega) (by have := (show (x.turned p).ts.length ≤ 1048576 by omega); simp; omega)) ?_ | (refine (heldPh_own om (fun p hp => List.mem_append_right _ hp) 1 (by omega) (by have := (show (x.turned p).ts.length ≤ 1048576 by omega); simp; omega)).mono ?_; rintro v h' ⟨rfl, rfl⟩; refine gK.go ?_)
      simp -implicitDefEqProofs [c0, cw, hq, cz]
      exact Post.none ⟨rfl, rfl⟩
    · have hAx : (1048576 : Int) < x.ts.length := by omega
      simp -implicitDefEqProofs [hx2_x, hx2_p, hAp, hAx]
      exact .base ⟨rfl, rfl⟩
  · have hAp : (1048576 : Int) < p.length := by omega
    simp -implicitDefEqProofs [hx2_x, hx2_p, hAp]
    exact .base ⟨rfl, rfl⟩
end Go.AG
namespace Go.Proofs.Ytknonamjhdlmlaa
open Go.ChangeShapes Go.WideShapes Go.ChangeAt Go.RowKit Go.AG
theorem own : ownKnob Try.prog.godebug = none := by kernel_rfl
theorem laidOut : laidOutB Try.prog = true := by kernel_rfl
set_option maxRecDepth 100000 in
theorem fnExactTurnPhases_lifted (os : Os) (started : os.Started) (H : Type) (enc : TypeId × Value → H) :
    ReturnsInHanded {} Try.checked os 8 .any (Rows.fnExactTurnPhasesSpec.pre6 enc Try.prog Try.f8 Rows.fnExactTurnPhasesRow.domain false) (Rows.fnExactTurnPhasesSpec.post enc Try.prog Try.f8 false true false false) := by
  refine returnsInHanded_of_change (C := Try.checked) own started (by kernel_rfl) Try.func8
    (ChangeSpec.witness6 (enc := enc) (C := Try.checked) false ⟨#[], #[.agg #[.int .i64 0, .int .i64 0, .slice none 0 0], .slice none 0 0], []⟩ 8 (by kernel_rfl) (by kernel_rfl) (by kernel_rfl) (by kernel_rfl)) ?_
  intro W base args ds gs before hval0 hW _ _
  have hval : ∀ (j : Nat) t v, Try.f8.params[j]? = some t → args[j]? = some v → Value.okWide Try.prog W .any base t v := hval0
  refine law_post (tys := [tyPh, (.slice (.int .i64))]) (tb := 4) laidOut rfl (by kernel_rfl) (by kernel_rfl) (by kernel_rfl) (by kernel_rfl) hval hW ?_ ?_
  · intro ds h
    match ds, h with
    | [a0, a1], _ => rfl
  · rintro xs ⟨x0, r0, rfl, h0, x1, r1, rfl, h1, hr⟩
    have hr0 : r1 = [] := hr
    subst hr0
    obtain ⟨p0, rfl, q0⟩ := Ph_of_shape h0
    obtain ⟨p1, rfl, q1⟩ := Ints_of_shape h1
    exact turn_law p0 q0 p1 q1
theorem fnExactTurnPhases_holds : Rows.FnExactTurnPhasesSaid :=
  OpenClaim.holds_of_wide 8 Try.f8 rfl rfl rfl rfl rfl rfl rfl ⟨rfl, rfl, rfl, rfl, rfl⟩ rfl rfl rfl rfl rfl (by kernel_rfl) Try.func8 (by kernel_rfl)
    (of_decide_eq_true (by kernel_rfl)) (by unfold Func.isWrapper; first | (rw [if_pos (by decide +kernel)]; kernel_rfl) | (rw [if_neg (by decide +kernel)]; exact ⟨rfl, rfl⟩))
    (fun os started H enc _ => fnExactTurnPhases_lifted os started H enc)
end Go.Proofs.Ytknonamjhdlmlaa
