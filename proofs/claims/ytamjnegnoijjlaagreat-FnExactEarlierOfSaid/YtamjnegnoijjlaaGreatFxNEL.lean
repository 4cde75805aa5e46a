/- The law FnExactEarlierOf is true for every input: the program's EarlierOf returns what the reference's returns. -/
import Derived.Test.YtamjnegnoijjlaaGreatFxNE
import Derived.Test.YtamjnegnoijjlaaGreatFilL
namespace Go.AG
open Go.Proofs Go.Proofs.YtamjnegnoijjlaaGreat
set_option linter.unusedSimpArgs false
set_option linter.unusedVariables false
set_option maxRecDepth 4000
noncomputable def o_specEa : List AV → Option (Prop × AV) := tab (fun (x : LS × List Int × LS × List Int) => match x with | (rs, ts, rs', ts') => [.agg [.snap 1 (rs.map il), .snap 1 (ts.map iv)], .agg [.snap 1 (rs'.map il), .snap 1 (ts'.map iv)]]) (fun x => match x with | (rs, ts, rs', ts') => ((⟨rs, ts⟩ : Fil).tot ≤ 1048576 ∧ (⟨rs', ts'⟩ : Fil).tot ≤ 1048576)) (fun x => match x with | (rs, ts, rs', ts') => .tup [(Fil.coF min ⟨rs, ts⟩ ⟨rs', ts'⟩).av, .int .i64 ((⟨rs, ts⟩ : Fil).coCode ⟨rs', ts'⟩)])
@[simp] theorem o_specEa_e (rs : LS) (ts : List Int) (rs' : LS) (ts' : List Int) : o_specEa [.agg [.snap 1 (rs.map il), .snap 1 (ts.map iv)], .agg [.snap 1 (rs'.map il), .snap 1 (ts'.map iv)]] = some (((⟨rs, ts⟩ : Fil).tot ≤ 1048576 ∧ (⟨rs', ts'⟩ : Fil).tot ≤ 1048576), .tup [(Fil.coF min ⟨rs, ts⟩ ⟨rs', ts'⟩).av, .int .i64 ((⟨rs, ts⟩ : Fil).coCode ⟨rs', ts'⟩)]) := tab_at (enc := fun (x : LS × List Int × LS × List Int) => match x with | (rs, ts, rs', ts') => [.agg [.snap 1 (rs.map il), .snap 1 (ts.map iv)], .agg [.snap 1 (rs'.map il), .snap 1 (ts'.map iv)]]) (fun x y h => by
  obtain ⟨rs1, ts1, rs'1, ts'1⟩ := x; obtain ⟨rs2, ts2, rs'2, ts'2⟩ := y; simp at h; simp [h] <;> omega) _ _ (rs, ts, rs', ts')
theorem o_specEa_k : Knows Tryz.prog 16 o_specEa := tab_knows fun x hx h => by
  obtain ⟨rs, ts, rs', ts'⟩ := x; exact specEa_c ⟨rs, ts⟩ ⟨rs', ts'⟩ h hx.1 hx.2
noncomputable def o_implEa : List AV → Option (Prop × AV) := tab (fun (x : LS × List Int × LS × List Int) => match x with | (rs, ts, rs', ts') => [.agg [.snap 1 (rs.map il), .snap 1 (ts.map iv)], .agg [.snap 1 (rs'.map il), .snap 1 (ts'.map iv)]]) (fun x => match x with | (rs, ts, rs', ts') => ((⟨rs, ts⟩ : Fil).tot ≤ 1048576 ∧ (⟨rs', ts'⟩ : Fil).tot ≤ 1048576)) (fun x => match x with | (rs, ts, rs', ts') => .tup [(Fil.coF min ⟨rs, ts⟩ ⟨rs', ts'⟩).av, .int .i64 ((⟨rs, ts⟩ : Fil).coCode ⟨rs', ts'⟩)])
@[simp] theorem o_implEa_e (rs : LS) (ts : List Int) (rs' : LS) (ts' : List Int) : o_implEa [.agg [.snap 1 (rs.map il), .snap 1 (ts.map iv)], .agg [.snap 1 (rs'.map il), .snap 1 (ts'.map iv)]] = some (((⟨rs, ts⟩ : Fil).tot ≤ 1048576 ∧ (⟨rs', ts'⟩ : Fil).tot ≤ 1048576), .tup [(Fil.coF min ⟨rs, ts⟩ ⟨rs', ts'⟩).av, .int .i64 ((⟨rs, ts⟩ : Fil).coCode ⟨rs', ts'⟩)]) := tab_at (enc := fun (x : LS × List Int × LS × List Int) => match x with | (rs, ts, rs', ts') => [.agg [.snap 1 (rs.map il), .snap 1 (ts.map iv)], .agg [.snap 1 (rs'.map il), .snap 1 (ts'.map iv)]]) (fun x y h => by
  obtain ⟨rs1, ts1, rs'1, ts'1⟩ := x; obtain ⟨rs2, ts2, rs'2, ts'2⟩ := y; simp at h; simp [h] <;> omega) _ _ (rs, ts, rs', ts')
theorem o_implEa_k : Knows Tryz.prog 17 o_implEa := tab_knows fun x hx h => by
  obtain ⟨rs, ts, rs', ts'⟩ := x; exact froze_fil (implEa_o ⟨rs, ts⟩ ⟨rs', ts'⟩ hx.1 hx.2) h
noncomputable def orcEa : List (Nat × (List AV → Option (Prop × AV))) := (16, o_specEa) :: (17, o_implEa) :: orcLaw
theorem orcEa_p : Pure Tryz.prog (lk orcEa) := (lk_pure o_specEa_k (lk_pure o_implEa_k orcLaw_p))
@[simp] theorem orcEa_l (b : Bool) (g : FuncId) (l : List AV) : lk orcEa b g l = if g = 16 then o_specEa l else if g = 17 then o_implEa l else lk orcLaw b g l := nr rfl
theorem orcMEa_p : Pure Tryz.prog (orS (lk orcEa) (lk orcM)) := orS_pure orcEa_p orcM_p
abbrev k5_o0 : List AJ := [.o ⟨(some 2), none, false, .box false 2 (.t 0), none⟩, .o ⟨(some 3), none, false, .box false 2 (.t 1), none⟩, .o ⟨(some 4), none, false, .mv (.c (.bool false)), (some [2, 3])⟩]
abbrev k5_o1 : List AJ := [.o ⟨(some 5), none, false, .mv (.c (.int .i64 1048576)), (some [2, 3, 5])⟩]
abbrev k5_o2 : List AJ := [.o ⟨(some 17), none, false, .load 2 true (.t 2), none⟩, .o ⟨(some 18), none, false, .mv (.t 5), none⟩, .o ⟨(some 19), none, false, .call 7 [(.t 17), (.t 18)], none⟩, .o ⟨(some 5), none, false, .mv (.t 19), (some [2, 3, 5])⟩]
abbrev k5_o3 : List AJ := [.o ⟨(some 20), none, false, .mv (.t 5), none⟩, .o ⟨(some 21), none, false, .bin .lss (.t 20) (.c (.int .i64 0)), (some [2, 3, 5, 21])⟩]
abbrev k5_o4 : List AJ := [.o ⟨(some 4), none, false, .mv (.c (.bool true)), (some [4])⟩]
def k5_5 : ACode := .seq (.region k5_o4) .ret
def k5_6 : ACode := .cond (.t 21) k5_5 .skip
def k5_7 : ACode := .seq (.region k5_o3) k5_6
abbrev k5_o5 : List AJ := [.o ⟨(some 22), none, false, .load 2 true (.t 3), none⟩, .o ⟨(some 23), none, false, .mv (.t 5), none⟩, .o ⟨(some 24), none, false, .call 7 [(.t 22), (.t 23)], none⟩, .o ⟨(some 5), none, false, .mv (.t 24), (some [2, 3, 5])⟩]
abbrev k5_o6 : List AJ := [.o ⟨(some 25), none, false, .mv (.t 5), none⟩, .o ⟨(some 26), none, false, .bin .lss (.t 25) (.c (.int .i64 0)), (some [2, 3, 26])⟩]
abbrev k5_o7 : List AJ := [.o ⟨(some 4), none, false, .mv (.c (.bool true)), (some [4])⟩]
def k5_11 : ACode := .seq (.region k5_o7) .ret
def k5_12 : ACode := .cond (.t 26) k5_11 .skip
def k5_13 : ACode := .seq (.region k5_o6) k5_12
abbrev k5_o8 : List AJ := [.o ⟨(some 28), none, false, .load 2 true (.t 2), none⟩, .o ⟨(some 29), none, true, .call 9 [(.t 28)], none⟩, .o ⟨(some 30), none, false, .load 2 true (.t 3), none⟩, .o ⟨(some 31), none, true, .call 9 [(.t 30)], none⟩, .o ⟨(some 32), none, true, .call 16 [(.t 29), (.t 31)], none⟩, .o ⟨(some 27), none, false, .mv (.t 32), none⟩, .o ⟨(some 33), none, false, .extract (.t 27) 0, none⟩, .o ⟨(some 34), none, false, .extract (.t 27) 1, none⟩, .o ⟨(some 6), none, false, .alloc true 2 (.agg [.nilsl, .nilsl]), none⟩, .o ⟨none, none, false, .store 2 (.t 6) (.t 33), none⟩, .o ⟨(some 7), none, false, .mv (.t 34), (some [2, 3, 6, 7])⟩]
abbrev k5_o9 : List AJ := [.o ⟨(some 35), none, false, .load 2 true (.t 2), none⟩, .o ⟨(some 36), none, false, .call 9 [(.t 35)], none⟩, .v 8 2 (.agg [.nilsl, .nilsl]) [] (.t 36) (some [2, 3, 6, 7, 8])]
abbrev k5_o10 : List AJ := [.o ⟨(some 37), none, false, .load 2 true (.t 3), none⟩, .o ⟨(some 38), none, false, .call 9 [(.t 37)], none⟩, .v 9 2 (.agg [.nilsl, .nilsl]) [] (.t 38) (some [2, 3, 6, 7, 8, 9])]
abbrev k5_o11 : List AJ := [.o ⟨(some 40), none, false, .load 2 true (.t 8), none⟩, .o ⟨(some 41), none, false, .load 2 true (.t 9), none⟩, .o ⟨(some 42), none, false, .call 17 [(.t 40), (.t 41)], none⟩, .o ⟨(some 39), none, false, .mv (.t 42), none⟩, .o ⟨(some 43), none, false, .extract (.t 39) 0, none⟩, .o ⟨(some 44), none, false, .extract (.t 39) 1, none⟩, .v 10 2 (.agg [.nilsl, .nilsl]) [] (.t 43) none, .o ⟨(some 11), none, false, .mv (.t 44), (some [2, 3, 6, 7, 8, 9, 10, 11])⟩]
abbrev k5_o12 : List AJ := [.o ⟨(some 45), none, false, .load 2 true (.t 10), none⟩, .o ⟨(some 46), none, false, .load 2 true (.t 6), none⟩, .o ⟨(some 47), none, false, .call 11 [(.t 45), (.t 46)], none⟩, .o ⟨(some 48), none, false, .un .not (.t 47), none⟩, .o ⟨(some 49), none, false, .mv (.t 48), none⟩, .o ⟨(some 50), (some (49, false)), false, .mv (.t 11), none⟩, .o ⟨(some 51), (some (49, false)), false, .mv (.t 7), none⟩, .o ⟨(some 52), (some (49, false)), false, .bin .neq (.t 50) (.t 51), none⟩, .o ⟨(some 53), none, false, .pick (.t 49) (.c (.bool true)) (.t 52), (some [2, 3, 6, 7, 8, 9, 10, 11, 53])⟩]
abbrev k5_o13 : List AJ := [.o ⟨(some 4), none, false, .mv (.c (.bool false)), (some [4])⟩]
def k5_20 : ACode := .seq (.region k5_o13) .ret
def k5_21 : ACode := .cond (.t 53) k5_20 .skip
def k5_22 : ACode := .seq (.region k5_o12) k5_21
abbrev k5_o14 : List AI := [⟨(some 54), none, false, .load 2 true (.t 8), none⟩, ⟨(some 55), none, false, .load 2 true (.t 2), none⟩, ⟨(some 56), none, false, .call 9 [(.t 55)], none⟩, ⟨(some 57), none, false, .call 11 [(.t 54), (.t 56)], none⟩, ⟨(some 58), none, false, .un .not (.t 57), (some [2, 3, 6, 7, 8, 9, 10, 11, 58])⟩]
abbrev k5_o15 : List AJ := [.o ⟨(some 4), none, false, .mv (.c (.bool false)), (some [4])⟩]
def k5_25 : ACode := .seq (.region k5_o15) .ret
def k5_26 : ACode := .cond (.t 58) k5_25 .skip
def k5_27 : ACode := .seq (.draw k5_o14 [] rfl) k5_26
abbrev k5_o16 : List AI := [⟨(some 59), none, false, .load 2 true (.t 9), none⟩, ⟨(some 60), none, false, .load 2 true (.t 3), none⟩, ⟨(some 61), none, false, .call 9 [(.t 60)], none⟩, ⟨(some 62), none, false, .call 11 [(.t 59), (.t 61)], none⟩, ⟨(some 63), none, false, .un .not (.t 62), (some [2, 3, 6, 7, 8, 9, 10, 11, 63])⟩]
abbrev k5_o17 : List AJ := [.o ⟨(some 4), none, false, .mv (.c (.bool false)), (some [4])⟩]
def k5_30 : ACode := .seq (.region k5_o17) .ret
def k5_31 : ACode := .cond (.t 63) k5_30 .skip
def k5_32 : ACode := .seq (.draw k5_o16 [] rfl) k5_31
abbrev k5_o18 : List AJ := [.o ⟨(some 12), none, false, .mv (.c (.int .i64 1)), (some [2, 3, 6, 7, 8, 9, 10, 11, 12])⟩]
abbrev k5_o19 : List AJ := [.o ⟨(some 64), none, false, .load 2 true (.t 8), none⟩, .o ⟨(some 65), none, false, .mv (.t 12), none⟩, .o ⟨(some 66), none, false, .call 12 [(.t 64), (.t 65)], none⟩, .o ⟨(some 12), none, false, .mv (.t 66), (some [2, 3, 6, 7, 9, 10, 11, 12])⟩]
abbrev k5_o20 : List AJ := [.o ⟨(some 67), none, false, .load 2 true (.t 9), none⟩, .o ⟨(some 68), none, false, .mv (.t 12), none⟩, .o ⟨(some 69), none, false, .call 12 [(.t 67), (.t 68)], none⟩, .o ⟨(some 12), none, false, .mv (.t 69), (some [2, 3, 6, 7, 10, 11, 12])⟩]
abbrev k5_o21 : List AJ := [.o ⟨(some 70), none, false, .mv (.t 12), none⟩, .o ⟨(some 71), none, false, .bin .lss (.t 70) (.c (.int .i64 0)), none⟩, .o ⟨(some 72), none, false, .mv (.t 71), none⟩, .o ⟨(some 73), (some (72, false)), false, .load 2 true (.t 10), none⟩, .o ⟨(some 74), (some (72, false)), false, .load 2 true (.t 6), none⟩, .o ⟨(some 75), (some (72, false)), false, .call 11 [(.t 73), (.t 74)], none⟩, .o ⟨(some 76), (some (72, false)), false, .un .not (.t 75), none⟩, .o ⟨(some 77), none, false, .pick (.t 72) (.c (.bool true)) (.t 76), none⟩, .o ⟨(some 78), none, false, .mv (.t 77), none⟩, .o ⟨(some 79), (some (78, false)), false, .mv (.t 11), (some [2, 3, 6, 7, 10, 78, 79])⟩, .o ⟨(some 80), (some (78, false)), false, .mv (.t 7), none⟩, .o ⟨(some 81), (some (78, false)), false, .bin .neq (.t 79) (.t 80), none⟩, .o ⟨(some 82), none, false, .pick (.t 78) (.c (.bool true)) (.t 81), (some [2, 3, 6, 7, 10, 82])⟩]
abbrev k5_o22 : List AJ := [.o ⟨(some 4), none, false, .mv (.c (.bool false)), (some [4])⟩]
def k5_38 : ACode := .seq (.region k5_o22) .ret
def k5_39 : ACode := .cond (.t 82) k5_38 .skip
def k5_40 : ACode := .seq (.region k5_o21) k5_39
abbrev k5_o23 : List AJ := [.o ⟨(some 13), none, false, .mv (.c (.int .i64 1)), (some [2, 3, 6, 7, 10, 13])⟩]
abbrev k5_o24 : List AJ := [.o ⟨(some 83), none, false, .load 2 true (.t 10), none⟩, .o ⟨(some 84), none, false, .mv (.t 13), none⟩, .o ⟨(some 85), none, false, .call 12 [(.t 83), (.t 84)], none⟩, .o ⟨(some 13), none, false, .mv (.t 85), (some [2, 3, 6, 7, 10, 13])⟩]
abbrev k5_o25 : List AJ := [.o ⟨(some 14), none, false, .mv (.c (.int .i64 1)), (some [2, 3, 6, 7, 10, 13, 14])⟩]
abbrev k5_o26 : List AJ := [.o ⟨(some 86), none, false, .load 2 true (.t 10), none⟩, .o ⟨(some 87), none, false, .mv (.t 14), none⟩, .o ⟨(some 88), none, false, .call 13 [(.t 86), (.t 87)], none⟩, .o ⟨(some 14), none, false, .mv (.t 88), (some [2, 3, 6, 7, 10, 13, 14])⟩]
abbrev k5_o27 : List AJ := [.o ⟨(some 89), none, false, .mv (.t 14), none⟩, .o ⟨(some 90), none, false, .bin .lss (.t 89) (.c (.int .i64 0)), (some [2, 3, 6, 7, 10, 13, 14, 90])⟩]
abbrev k5_o28 : List AJ := [.o ⟨(some 4), none, false, .mv (.c (.bool false)), (some [4])⟩]
def k5_47 : ACode := .seq (.region k5_o28) .ret
def k5_48 : ACode := .cond (.t 90) k5_47 .skip
def k5_49 : ACode := .seq (.region k5_o27) k5_48
abbrev k5_o29 : List AJ := [.o ⟨(some 91), none, false, .mv (.t 14), none⟩, .o ⟨(some 92), none, false, .mv (.t 13), none⟩, .o ⟨(some 93), none, false, .bin .neq (.t 91) (.t 92), (some [2, 3, 6, 7, 10, 13, 93])⟩]
abbrev k5_o30 : List AJ := [.o ⟨(some 4), none, false, .mv (.c (.bool false)), (some [4])⟩]
def k5_52 : ACode := .seq (.region k5_o30) .ret
def k5_53 : ACode := .cond (.t 93) k5_52 .skip
def k5_54 : ACode := .seq (.region k5_o29) k5_53
abbrev k5_o31 : List AJ := [.o ⟨(some 95), none, false, .load 2 true (.t 2), none⟩, .o ⟨(some 96), none, true, .call 9 [(.t 95)], none⟩, .o ⟨(some 97), none, false, .load 2 true (.t 3), none⟩, .o ⟨(some 98), none, true, .call 9 [(.t 97)], none⟩, .o ⟨(some 99), none, true, .call 17 [(.t 96), (.t 98)], none⟩, .o ⟨(some 94), none, false, .mv (.t 99), none⟩, .o ⟨(some 100), none, false, .extract (.t 94) 0, none⟩, .o ⟨(some 101), none, false, .extract (.t 94) 1, none⟩, .o ⟨(some 15), none, false, .alloc true 2 (.agg [.nilsl, .nilsl]), none⟩, .o ⟨none, none, false, .store 2 (.t 15) (.t 100), none⟩, .o ⟨(some 16), none, false, .mv (.t 101), (some [6, 7, 10, 13, 15, 16])⟩]
abbrev k5_o32 : List AJ := [.o ⟨(some 102), none, false, .load 2 true (.t 15), none⟩, .o ⟨(some 103), none, false, .load 2 true (.t 6), none⟩, .o ⟨(some 104), none, false, .call 11 [(.t 102), (.t 103)], none⟩, .o ⟨(some 105), none, false, .un .not (.t 104), none⟩, .o ⟨(some 106), none, false, .mv (.t 105), none⟩, .o ⟨(some 107), (some (106, false)), false, .mv (.t 16), none⟩, .o ⟨(some 108), (some (106, false)), false, .mv (.t 7), none⟩, .o ⟨(some 109), (some (106, false)), false, .bin .neq (.t 107) (.t 108), none⟩, .o ⟨(some 110), none, false, .pick (.t 106) (.c (.bool true)) (.t 109), (some [10, 13, 110])⟩]
abbrev k5_o33 : List AJ := [.o ⟨(some 4), none, false, .mv (.c (.bool false)), (some [4])⟩]
def k5_58 : ACode := .seq (.region k5_o33) .ret
def k5_59 : ACode := .cond (.t 110) k5_58 .skip
def k5_60 : ACode := .seq (.region k5_o32) k5_59
abbrev k5_o34 : List AJ := [.o ⟨(some 14), none, false, .mv (.c (.int .i64 1)), (some [10, 13, 14])⟩]
abbrev k5_o35 : List AJ := [.o ⟨(some 111), none, false, .load 2 true (.t 10), none⟩, .o ⟨(some 112), none, false, .mv (.t 14), none⟩, .o ⟨(some 113), none, false, .call 13 [(.t 111), (.t 112)], none⟩, .o ⟨(some 14), none, false, .mv (.t 113), (some [13, 14])⟩]
abbrev k5_o36 : List AJ := [.o ⟨(some 114), none, false, .mv (.t 14), none⟩, .o ⟨(some 115), none, false, .bin .lss (.t 114) (.c (.int .i64 0)), (some [13, 14, 115])⟩]
abbrev k5_o37 : List AJ := [.o ⟨(some 4), none, false, .mv (.c (.bool false)), (some [4])⟩]
def k5_65 : ACode := .seq (.region k5_o37) .ret
def k5_66 : ACode := .cond (.t 115) k5_65 .skip
def k5_67 : ACode := .seq (.region k5_o36) k5_66
abbrev k5_o38 : List AJ := [.o ⟨(some 116), none, false, .mv (.t 14), none⟩, .o ⟨(some 117), none, false, .mv (.t 13), none⟩, .o ⟨(some 118), none, false, .bin .neq (.t 116) (.t 117), (some [118])⟩]
abbrev k5_o39 : List AJ := [.o ⟨(some 4), none, false, .mv (.c (.bool false)), (some [4])⟩]
def k5_70 : ACode := .seq (.region k5_o39) .ret
def k5_71 : ACode := .cond (.t 118) k5_70 .skip
def k5_72 : ACode := .seq (.region k5_o38) k5_71
abbrev k5_o40 : List AJ := [.o ⟨(some 4), none, false, .mv (.c (.bool true)), (some [4])⟩]
def k5_74 : ACode := .seq (.region k5_o40) .ret
def k5_75 : ACode := .seq k5_72 k5_74
def k5_76 : ACode := .seq k5_67 k5_75
def k5_77 : ACode := .seq (.region k5_o35) k5_76
def k5_78 : ACode := .seq (.region k5_o34) k5_77
def k5_79 : ACode := .seq k5_60 k5_78
def k5_80 : ACode := .seq (.drawT 1 k5_o31 rfl) (.cut k5_79)
def k5_81 : ACode := .seq k5_54 k5_80
def k5_82 : ACode := .seq k5_49 k5_81
def k5_83 : ACode := .seq (.region k5_o26) k5_82
def k5_84 : ACode := .seq (.region k5_o25) k5_83
def k5_85 : ACode := .seq (.region k5_o24) k5_84
def k5_86 : ACode := .seq (.region k5_o23) k5_85
def k5_87 : ACode := .seq k5_40 k5_86
def k5_88 : ACode := .seq (.region k5_o20) k5_87
def k5_89 : ACode := .seq (.region k5_o19) k5_88
def k5_90 : ACode := .seq (.region k5_o18) k5_89
def k5_91 : ACode := .seq k5_32 k5_90
def k5_92 : ACode := .seq k5_27 k5_91
def k5_93 : ACode := .seq k5_22 k5_92
def k5_94 : ACode := .seq (.region k5_o11) k5_93
def k5_95 : ACode := .seq (.region k5_o10) k5_94
def k5_96 : ACode := .seq (.region k5_o9) k5_95
def k5_97 : ACode := .seq (.drawT 1 k5_o8 rfl) (.cut k5_96)
def k5_98 : ACode := .seq k5_13 k5_97
def k5_99 : ACode := .seq (.region k5_o5) k5_98
def k5_100 : ACode := .seq k5_7 k5_99
def k5_101 : ACode := .seq (.region k5_o2) k5_100
def k5_102 : ACode := .seq (.region k5_o1) k5_101
def k5_103 : ACode := .seq (.region k5_o0) k5_102
@[simp, simp ↓] theorem k5_5r : sR k5_5 k5_o4 .ret := yR rfl
@[simp, simp ↓] theorem k5_6r : rC k5_6 (.t 21) k5_5 .skip := zC rfl
@[simp, simp ↓] theorem k5_7r : sR k5_7 k5_o3 k5_6 := yR rfl
@[simp, simp ↓] theorem k5_11r : sR k5_11 k5_o7 .ret := yR rfl
@[simp, simp ↓] theorem k5_12r : rC k5_12 (.t 26) k5_11 .skip := zC rfl
@[simp, simp ↓] theorem k5_13r : sR k5_13 k5_o6 k5_12 := yR rfl
@[simp, simp ↓] theorem k5_20r : sR k5_20 k5_o13 .ret := yR rfl
@[simp, simp ↓] theorem k5_21r : rC k5_21 (.t 53) k5_20 .skip := zC rfl
@[simp, simp ↓] theorem k5_22r : sR k5_22 k5_o12 k5_21 := yR rfl
@[simp, simp ↓] theorem k5_25r : sR k5_25 k5_o15 .ret := yR rfl
@[simp, simp ↓] theorem k5_26r : rC k5_26 (.t 58) k5_25 .skip := zC rfl
@[simp, simp ↓] theorem k5_27r : sD k5_27 k5_o14 [] k5_26 := yD rfl
@[simp, simp ↓] theorem k5_30r : sR k5_30 k5_o17 .ret := yR rfl
@[simp, simp ↓] theorem k5_31r : rC k5_31 (.t 63) k5_30 .skip := zC rfl
@[simp, simp ↓] theorem k5_32r : sD k5_32 k5_o16 [] k5_31 := yD rfl
@[simp, simp ↓] theorem k5_38r : sR k5_38 k5_o22 .ret := yR rfl
@[simp, simp ↓] theorem k5_39r : rC k5_39 (.t 82) k5_38 .skip := zC rfl
@[simp, simp ↓] theorem k5_40r : sR k5_40 k5_o21 k5_39 := yR rfl
@[simp, simp ↓] theorem k5_47r : sR k5_47 k5_o28 .ret := yR rfl
@[simp, simp ↓] theorem k5_48r : rC k5_48 (.t 90) k5_47 .skip := zC rfl
@[simp, simp ↓] theorem k5_49r : sR k5_49 k5_o27 k5_48 := yR rfl
@[simp, simp ↓] theorem k5_52r : sR k5_52 k5_o30 .ret := yR rfl
@[simp, simp ↓] theorem k5_53r : rC k5_53 (.t 93) k5_52 .skip := zC rfl
@[simp, simp ↓] theorem k5_54r : sR k5_54 k5_o29 k5_53 := yR rfl
@[simp, simp ↓] theorem k5_58r : sR k5_58 k5_o33 .ret := yR rfl
@[simp, simp ↓] theorem k5_59r : rC k5_59 (.t 110) k5_58 .skip := zC rfl
@[simp, simp ↓] theorem k5_60r : sR k5_60 k5_o32 k5_59 := yR rfl
@[simp, simp ↓] theorem k5_65r : sR k5_65 k5_o37 .ret := yR rfl
@[simp, simp ↓] theorem k5_66r : rC k5_66 (.t 115) k5_65 .skip := zC rfl
@[simp, simp ↓] theorem k5_67r : sR k5_67 k5_o36 k5_66 := yR rfl
@[simp, simp ↓] theorem k5_70r : sR k5_70 k5_o39 .ret := yR rfl
@[simp, simp ↓] theorem k5_71r : rC k5_71 (.t 118) k5_70 .skip := zC rfl
@[simp, simp ↓] theorem k5_72r : sR k5_72 k5_o38 k5_71 := yR rfl
@[simp, simp ↓] theorem k5_74r : sR k5_74 k5_o40 .ret := yR rfl
@[simp, simp ↓] theorem k5_75r : rS k5_75 k5_72 k5_74 := zS rfl
@[simp, simp ↓] theorem k5_76r : rS k5_76 k5_67 k5_75 := zS rfl
@[simp, simp ↓] theorem k5_77r : sR k5_77 k5_o35 k5_76 := yR rfl
@[simp, simp ↓] theorem k5_78r : sR k5_78 k5_o34 k5_77 := yR rfl
@[simp, simp ↓] theorem k5_79r : rS k5_79 k5_60 k5_78 := zS rfl
@[simp, simp ↓] theorem k5_80r : sT k5_80 k5_o31 (.cut k5_79) := yT rfl
@[simp, simp ↓] theorem k5_81r : rS k5_81 k5_54 k5_80 := zS rfl
@[simp, simp ↓] theorem k5_82r : rS k5_82 k5_49 k5_81 := zS rfl
@[simp, simp ↓] theorem k5_83r : sR k5_83 k5_o26 k5_82 := yR rfl
@[simp, simp ↓] theorem k5_84r : sR k5_84 k5_o25 k5_83 := yR rfl
@[simp, simp ↓] theorem k5_85r : sR k5_85 k5_o24 k5_84 := yR rfl
@[simp, simp ↓] theorem k5_86r : sR k5_86 k5_o23 k5_85 := yR rfl
@[simp, simp ↓] theorem k5_87r : rS k5_87 k5_40 k5_86 := zS rfl
@[simp, simp ↓] theorem k5_88r : sR k5_88 k5_o20 k5_87 := yR rfl
@[simp, simp ↓] theorem k5_89r : sR k5_89 k5_o19 k5_88 := yR rfl
@[simp, simp ↓] theorem k5_90r : sR k5_90 k5_o18 k5_89 := yR rfl
@[simp, simp ↓] theorem k5_91r : rS k5_91 k5_32 k5_90 := zS rfl
@[simp, simp ↓] theorem k5_92r : rS k5_92 k5_27 k5_91 := zS rfl
@[simp, simp ↓] theorem k5_93r : rS k5_93 k5_22 k5_92 := zS rfl
@[simp, simp ↓] theorem k5_94r : sR k5_94 k5_o11 k5_93 := yR rfl
@[simp, simp ↓] theorem k5_95r : sR k5_95 k5_o10 k5_94 := yR rfl
@[simp, simp ↓] theorem k5_96r : sR k5_96 k5_o9 k5_95 := yR rfl
@[simp, simp ↓] theorem k5_97r : sT k5_97 k5_o8 (.cut k5_96) := yT rfl
@[simp, simp ↓] theorem k5_98r : rS k5_98 k5_13 k5_97 := zS rfl
@[simp, simp ↓] theorem k5_99r : sR k5_99 k5_o5 k5_98 := yR rfl
@[simp, simp ↓] theorem k5_100r : rS k5_100 k5_7 k5_99 := zS rfl
@[simp, simp ↓] theorem k5_101r : sR k5_101 k5_o2 k5_100 := yR rfl
@[simp, simp ↓] theorem k5_102r : sR k5_102 k5_o1 k5_101 := yR rfl
@[simp, simp ↓] theorem k5_103r : sR k5_103 k5_o0 k5_102 := yR rfl
noncomputable abbrev k5_C : Orc → Cx := mkC Tryz.prog [6, 8, 9, 10, 15] 5 119 [.tmp 4]
theorem k5_of : OfP Tryz.prog Tryz.f5 5 119 k5_C k5_103 := @ofP _ _ _ _ _ _ _ _ Tryz.func5 (by decide +kernel) rfl (by kernel_rfl) rfl (by kernel_rfl)
theorem k5_of0 : OfP0 Tryz.prog Tryz.f5 5 119 k5_C k5_103 := @ofP0 _ _ _ _ _ _ _ _ Tryz.func5 (by decide +kernel) rfl (by kernel_rfl) rfl (by kernel_rfl)
theorem ea_law (x : Fil) (hx : x.wf) (y : Fil) (hy : y.wf) : ACalls Tryz.prog 5 [x.av, y.av] [] (fun v h' => v = .bool true ∧ h' = []) := by
  refine k5_of rfl orcMEa_p fun I => ?_
  have hx2_x := hx
  have hx2_y := hy
  refine Run2.of I 1000 ?_
  by_cases kx : (x.tot : Int) ≤ (1048576 : Int)
  · have hAx : ¬ (1048576 : Int) < x.tot := by omega
    have hBx : ¬ (1048576 : Int) - x.tot < 0 := by omega
    have hCx : (0 : Int) ≤ (1048576 : Int) - x.tot := by omega
    have lx : x.tot ≤ 1048576 := by omega
    have hDx : (1048576 : Int) - x.tot ≤ 1048576 := by omega
    by_cases ky : (y.tot : Int) ≤ ((1048576 : Int) - x.tot)
    · have hAy : ¬ ((1048576 : Int) - x.tot) < y.tot := by omega
      have hBy : ¬ ((1048576 : Int) - x.tot) - y.tot < 0 := by omega
      have hCy : (0 : Int) ≤ ((1048576 : Int) - x.tot) - y.tot := by omega
      have ly : y.tot ≤ 1048576 := by omega
      have hDy : ((1048576 : Int) - x.tot) - y.tot ≤ 1048576 := by omega
      have hct := Fil.coF_tot min x y
      have hcs := (Fil.coF min x y).cnt_le
      have hxc := x.cnt_le
      have hyc := y.cnt_le
      simp -implicitDefEqProofs [hx2_x, hx2_y, hAx, hBx, hCx, hDx, kx, hAy, hBy, hCy, hDy, ky, lx, ly]
      intro z9
      refine Run2.freeze z9 (by simp [hget]; rfl) ?_
      refine Run2.of I 1000 ?_
      simp -implicitDefEqProofs [fzE, fz, fzs]
      refine (toFil_o x _ lx).monoN ?_
      rintro v0 h' ⟨g0, o0, d0, rfl⟩ n0
      obtain ⟨pu0, pw0, pa0, pb0, rfl, pou0, pow0, phd0, phe0⟩ := id o0
      have c0 := pou0.cell
      have c0_1 := pow0.cell
      refine gK.go ?_
      simp -implicitDefEqProofs [c0, c0_1]
      refine (toFil_o y _ ly).monoN ?_
      rintro v1 h' ⟨g1, o1, d1, rfl⟩ n1
      obtain ⟨pu1, pw1, pa1, pb1, rfl, pou1, pow1, phd1, phe1⟩ := id o1
      have c1 := pou1.cell
      have c1_1 := pow1.cell
      refine gK.go ?_
      simp -implicitDefEqProofs [c0, c0_1, c1, c1_1]
      have L0 := o0.lentMid (A := g1) (B := []) (by simpa only [List.nil_append, List.append_nil, List.append_assoc] using n1)
      simp only [List.nil_append, List.append_nil, List.append_assoc] at L0
      have L1 := o1.lentMid (A := []) (B := g0) (by simpa only [List.nil_append, List.append_nil, List.append_assoc] using n1)
      refine (ACalls.gives (g1 ++ g0) (fun p hp => hp) (S := fun v h' => ∃ w, v = .tup [w, .int .i64 (x.coCode y)] ∧ OwnFil w (Fil.coF min x y) h') ?_ ?_).monoN ?_
      · rw [lend_cons, lend_cons, lend_nil']
        exact ACalls.wk (.cons L0.wk (.cons L1.wk .nil)) (implEa_o x y lx ly)
      · rintro v h' ⟨w, rfl, ho⟩
        have := ho.own
        exact ⟨by simp [own, owns, this.1], this.2⟩
      rintro v h' ⟨gg, ⟨w, rfl, og⟩, dg, rfl⟩ ng
      obtain ⟨qu, qw, qa, qb, rfl, qou, qow, qhd, qhe⟩ := id og
      have cw := qou.cell
      have cw_1 := qow.cell
      refine gK.go ?_
      simp -implicitDefEqProofs [c0, c0_1, c1, c1_1, cw, cw_1]
      first | refine dcallK (eqFil_own og ((Fil.coF min x y).is) (fun p hp => List.mem_append_left _ hp) (show (Fil.coF min x y).tot ≤ 1048576 by omega)) ?_ | (refine (eqFil_own og ((Fil.coF min x y).is) (fun p hp => List.mem_append_left _ hp) (show (Fil.coF min x y).tot ≤ 1048576 by omega)).mono ?_; rintro v h' ⟨rfl, rfl⟩; refine gK.go ?_)
      simp -implicitDefEqProofs [c0, c0_1, c1, c1_1, cw, cw_1]
      first | refine dcallK (toFil_c x _ lx) ?_ | (refine (toFil_c x _ lx).mono ?_; rintro v h' ⟨rfl, rfl⟩; refine gK.go ?_)
      simp -implicitDefEqProofs [c0, c0_1, c1, c1_1, cw, cw_1]
      first | refine dcallK (eqFil_own o0 x.is (fun p hp => List.mem_append_right _ (List.mem_append_right _ (hp))) lx) ?_ | (refine (eqFil_own o0 x.is (fun p hp => List.mem_append_right _ (List.mem_append_right _ (hp))) lx).mono ?_; rintro v h' ⟨rfl, rfl⟩; refine gK.go ?_)
      simp -implicitDefEqProofs [c0, c0_1, c1, c1_1, cw, cw_1]
      first | refine dcallK (toFil_c y _ ly) ?_ | (refine (toFil_c y _ ly).mono ?_; rintro v h' ⟨rfl, rfl⟩; refine gK.go ?_)
      simp -implicitDefEqProofs [c0, c0_1, c1, c1_1, cw, cw_1]
      first | refine dcallK (eqFil_own o1 y.is (fun p hp => List.mem_append_right _ (List.mem_append_left _ hp)) ly) ?_ | (refine (eqFil_own o1 y.is (fun p hp => List.mem_append_right _ (List.mem_append_left _ hp)) ly).mono ?_; rintro v h' ⟨rfl, rfl⟩; refine gK.go ?_)
      simp -implicitDefEqProofs [c0, c0_1, c1, c1_1, cw, cw_1]
      refine (markFil_drop o0 (gg ++ g1) (fun p hp => List.mem_append_right _ (List.mem_append_right _ (hp))) ?_ ?_ (1) (by omega) (by omega)).monoN ?_
      · simpa only [List.append_assoc] using keepL (a := (gg ++ g1)) (b := g0) (by simpa only [List.append_assoc] using ng)
      · exact fun nd => nodupL (a := (gg ++ g1)) (b := g0) (by simpa only [List.append_assoc] using nd)
      rintro _ _ ⟨e1, e2⟩ nk0
      rw [e1, e2]; rw [e2] at nk0
      refine gK.go ?_
      simp -implicitDefEqProofs [c0, c0_1, c1, c1_1, cw, cw_1]
      refine (markFil_drop o1 gg (fun p hp => List.mem_append_right _ (hp)) ?_ ?_ (1 + ((x).cnt : Int)) (by omega) (by omega)).monoN ?_
      · simpa only [List.append_assoc] using keepL (a := gg) (b := g1) (by simpa only [List.append_assoc] using nk0)
      · exact fun nd => nodupL (a := gg) (b := g1) (by simpa only [List.append_assoc] using nd)
      rintro _ _ ⟨e1, e2⟩ nk1
      rw [e1, e2]; rw [e2] at nk1
      refine gK.go ?_
      have hk : ¬ (1 + ((x).cnt : Int) + ((y).cnt : Int)) < 0 := by omega
      simp -implicitDefEqProofs [c0, c0_1, c1, c1_1, cw, cw_1, hk]
      first | refine dcallK (eqFil_own og ((Fil.coF min x y).is) (fun p hp => hp) (show (Fil.coF min x y).tot ≤ 1048576 by omega)) ?_ | (refine (eqFil_own og ((Fil.coF min x y).is) (fun p hp => hp) (show (Fil.coF min x y).tot ≤ 1048576 by omega)).mono ?_; rintro v h' ⟨rfl, rfl⟩; refine gK.go ?_)
      simp -implicitDefEqProofs [c0, c0_1, c1, c1_1, cw, cw_1]
      skip
      refine (markFil_keep og [] (fun p hp => hp) keepN (fun _ => by simp [dom]) 1 (by omega) (by have := (show (Fil.coF min x y).tot ≤ 1048576 by omega); omega)).mono ?_
      rintro _ _ ⟨gm, rfl, om, rfl⟩
      refine gK.go ?_
      simp -implicitDefEqProofs [c0, c0_1, c1, c1_1, cw, cw_1]
      have hq : ¬ (1 + (((Fil.coF min x y)).cnt : Int) < 0) := by omega
      first | refine dcallK (heldFil_own om (fun p hp => hp) 1 (by omega) (by have := (show (Fil.coF min x y).tot ≤ 1048576 by omega); simp; omega)) ?_ | (refine (heldFil_own om (fun p hp => hp) 1 (by omega) (by have := (show (Fil.coF min x y).tot ≤ 1048576 by omega); simp; omega)).mono ?_; rintro v h' ⟨rfl, rfl⟩; refine gK.go ?_)
      simp -implicitDefEqProofs [c0, c0_1, c1, c1_1, cw, cw_1, hq, lx, ly]
      intro z8 z8n
      refine Run2.of I 1000 ?_
      simp -implicitDefEqProofs [c0, c0_1, c1, c1_1, cw, cw_1, hq, lx, ly]
      first | refine dcallK (eqFil_c ((Fil.coF min x y)) ((Fil.coF min x y)) _ (show (Fil.coF min x y).tot ≤ 1048576 by omega)) ?_ | (refine (eqFil_c ((Fil.coF min x y)) ((Fil.coF min x y)) _ (show (Fil.coF min x y).tot ≤ 1048576 by omega)).mono ?_; rintro v h' ⟨rfl, rfl⟩; refine gK.go ?_)
      simp -implicitDefEqProofs [c0, c0_1, c1, c1_1, cw, cw_1, hq, lx, ly]
      first | refine dcallK (heldFil_own om (fun p hp => List.mem_cons_of_mem _ hp) 1 (by omega) (by have := (show (Fil.coF min x y).tot ≤ 1048576 by omega); simp; omega)) ?_ | (refine (heldFil_own om (fun p hp => List.mem_cons_of_mem _ hp) 1 (by omega) (by have := (show (Fil.coF min x y).tot ≤ 1048576 by omega); simp; omega)).mono ?_; rintro v h' ⟨rfl, rfl⟩; refine gK.go ?_)
      simp -implicitDefEqProofs [c0, c0_1, c1, c1_1, cw, cw_1, hq, lx, ly]
      exact Post.none ⟨rfl, rfl⟩
    · have hAy : ((1048576 : Int) - x.tot) < y.tot := by omega
      simp -implicitDefEqProofs [hx2_x, hx2_y, hAx, hBx, hCx, hDx, kx, hAy]
      exact .base ⟨rfl, rfl⟩
  · have hAx : (1048576 : Int) < x.tot := by omega
    simp -implicitDefEqProofs [hx2_x, hx2_y, hAx]
    exact .base ⟨rfl, rfl⟩
end Go.AG
namespace Go.Proofs.YtamjnegnoijjlaaGreat
open Go.ChangeShapes Go.WideShapes Go.ChangeAt Go.RowKit Go.AG
theorem own : ownKnob Tryz.prog.godebug = none := by kernel_rfl
theorem laidOut : laidOutB Tryz.prog = true := by kernel_rfl
set_option maxRecDepth 100000 in
theorem fnExactEarlierOf_lifted (os : Os) (started : os.Started) (H : Type) (enc : TypeId × Value → H) :
    ReturnsInHanded {} Tryz.checked os 5 .any (Rows.fnExactEarlierOfSpec.pre6 enc Tryz.prog Tryz.f5 Rows.fnExactEarlierOfRow.domain false) (Rows.fnExactEarlierOfSpec.post enc Tryz.prog Tryz.f5 false true false false) := by
  refine returnsInHanded_of_change (C := Tryz.checked) own started (by kernel_rfl) Tryz.func5
    (ChangeSpec.witness6 (enc := enc) (C := Tryz.checked) false ⟨#[], #[.agg #[.slice none 0 0, .slice none 0 0], .agg #[.slice none 0 0, .slice none 0 0]], []⟩ 8 (by kernel_rfl) (by kernel_rfl) (by kernel_rfl) (by kernel_rfl)) ?_
  intro W base args ds gs before hval0 hW _ _
  have hval : ∀ (j : Nat) t v, Tryz.f5.params[j]? = some t → args[j]? = some v → Value.okWide Tryz.prog W .any base t v := hval0
  refine law_post (tys := [tyF, tyF]) (tb := 4) laidOut rfl (by kernel_rfl) (by kernel_rfl) (by kernel_rfl) (by kernel_rfl) hval hW ?_ ?_
  · intro ds h
    match ds, h with
    | [a0, a1], _ => rfl
  · rintro xs ⟨x0, r0, rfl, h0, x1, r1, rfl, h1, hr⟩
    have hr0 : r1 = [] := hr
    subst hr0
    obtain ⟨p0, rfl, q0⟩ := Fil_of_shape h0
    obtain ⟨p1, rfl, q1⟩ := Fil_of_shape h1
    exact ea_law p0 q0 p1 q1
theorem fnExactEarlierOf_holds : Rows.FnExactEarlierOfSaid :=
  OpenClaim.holds_of_wide 5 Tryz.f5 rfl rfl rfl rfl rfl rfl rfl ⟨rfl, rfl, rfl, rfl, rfl⟩ rfl rfl rfl rfl rfl (by kernel_rfl) Tryz.func5 (by kernel_rfl)
    (of_decide_eq_true (by kernel_rfl)) (by unfold Func.isWrapper; first | (rw [if_pos (by decide +kernel)]; kernel_rfl) | (rw [if_neg (by decide +kernel)]; exact ⟨rfl, rfl⟩))
    (fun os started H enc _ => fnExactEarlierOf_lifted os started H enc)
end Go.Proofs.YtamjnegnoijjlaaGreat
