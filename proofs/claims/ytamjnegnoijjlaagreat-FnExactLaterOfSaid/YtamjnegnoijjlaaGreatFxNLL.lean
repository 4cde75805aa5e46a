/- The law FnExactLaterOf is true for every input: the program's LaterOf returns what the reference's returns. -/
import Derived.Test.YtamjnegnoijjlaaGreatFxNL
import Derived.Test.YtamjnegnoijjlaaGreatFilL
namespace Go.AG
open Go.Proofs Go.Proofs.YtamjnegnoijjlaaGreat
set_option linter.unusedSimpArgs false
set_option linter.unusedVariables false
set_option maxRecDepth 4000
noncomputable def o_specLa : List AV → Option (Prop × AV) := tab (fun (x : LS × List Int × LS × List Int) => match x with | (rs, ts, rs', ts') => [.agg [.snap 1 (rs.map il), .snap 1 (ts.map iv)], .agg [.snap 1 (rs'.map il), .snap 1 (ts'.map iv)]]) (fun x => match x with | (rs, ts, rs', ts') => ((⟨rs, ts⟩ : Fil).tot ≤ 1048576 ∧ (⟨rs', ts'⟩ : Fil).tot ≤ 1048576)) (fun x => match x with | (rs, ts, rs', ts') => .tup [(Fil.coF max ⟨rs, ts⟩ ⟨rs', ts'⟩).av, .int .i64 ((⟨rs, ts⟩ : Fil).coCode ⟨rs', ts'⟩)])
@[simp] theorem o_specLa_e (rs : LS) (ts : List Int) (rs' : LS) (ts' : List Int) : o_specLa [.agg [.snap 1 (rs.map il), .snap 1 (ts.map iv)], .agg [.snap 1 (rs'.map il), .snap 1 (ts'.map iv)]] = some (((⟨rs, ts⟩ : Fil).tot ≤ 1048576 ∧ (⟨rs', ts'⟩ : Fil).tot ≤ 1048576), .tup [(Fil.coF max ⟨rs, ts⟩ ⟨rs', ts'⟩).av, .int .i64 ((⟨rs, ts⟩ : Fil).coCode ⟨rs', ts'⟩)]) := tab_at (enc := fun (x : LS × List Int × LS × List Int) => match x with | (rs, ts, rs', ts') => [.agg [.snap 1 (rs.map il), .snap 1 (ts.map iv)], .agg [.snap 1 (rs'.map il), .snap 1 (ts'.map iv)]]) (fun x y h => by
  obtain ⟨rs1, ts1, rs'1, ts'1⟩ := x; obtain ⟨rs2, ts2, rs'2, ts'2⟩ := y; simp at h; simp [h] <;> omega) _ _ (rs, ts, rs', ts')
theorem o_specLa_k : Knows Tryz.prog 14 o_specLa := tab_knows fun x hx h => by
  obtain ⟨rs, ts, rs', ts'⟩ := x; exact specLa_c ⟨rs, ts⟩ ⟨rs', ts'⟩ h hx.1 hx.2
noncomputable def o_implLa : List AV → Option (Prop × AV) := tab (fun (x : LS × List Int × LS × List Int) => match x with | (rs, ts, rs', ts') => [.agg [.snap 1 (rs.map il), .snap 1 (ts.map iv)], .agg [.snap 1 (rs'.map il), .snap 1 (ts'.map iv)]]) (fun x => match x with | (rs, ts, rs', ts') => ((⟨rs, ts⟩ : Fil).tot ≤ 1048576 ∧ (⟨rs', ts'⟩ : Fil).tot ≤ 1048576)) (fun x => match x with | (rs, ts, rs', ts') => .tup [(Fil.coF max ⟨rs, ts⟩ ⟨rs', ts'⟩).av, .int .i64 ((⟨rs, ts⟩ : Fil).coCode ⟨rs', ts'⟩)])
@[simp] theorem o_implLa_e (rs : LS) (ts : List Int) (rs' : LS) (ts' : List Int) : o_implLa [.agg [.snap 1 (rs.map il), .snap 1 (ts.map iv)], .agg [.snap 1 (rs'.map il), .snap 1 (ts'.map iv)]] = some (((⟨rs, ts⟩ : Fil).tot ≤ 1048576 ∧ (⟨rs', ts'⟩ : Fil).tot ≤ 1048576), .tup [(Fil.coF max ⟨rs, ts⟩ ⟨rs', ts'⟩).av, .int .i64 ((⟨rs, ts⟩ : Fil).coCode ⟨rs', ts'⟩)]) := tab_at (enc := fun (x : LS × List Int × LS × List Int) => match x with | (rs, ts, rs', ts') => [.agg [.snap 1 (rs.map il), .snap 1 (ts.map iv)], .agg [.snap 1 (rs'.map il), .snap 1 (ts'.map iv)]]) (fun x y h => by
  obtain ⟨rs1, ts1, rs'1, ts'1⟩ := x; obtain ⟨rs2, ts2, rs'2, ts'2⟩ := y; simp at h; simp [h] <;> omega) _ _ (rs, ts, rs', ts')
theorem o_implLa_k : Knows Tryz.prog 15 o_implLa := tab_knows fun x hx h => by
  obtain ⟨rs, ts, rs', ts'⟩ := x; exact froze_fil (implLa_o ⟨rs, ts⟩ ⟨rs', ts'⟩ hx.1 hx.2) h
noncomputable def orcLa : List (Nat × (List AV → Option (Prop × AV))) := (14, o_specLa) :: (15, o_implLa) :: orcLaw
theorem orcLa_p : Pure Tryz.prog (lk orcLa) := (lk_pure o_specLa_k (lk_pure o_implLa_k orcLaw_p))
@[simp] theorem orcLa_l (b : Bool) (g : FuncId) (l : List AV) : lk orcLa b g l = if g = 14 then o_specLa l else if g = 15 then o_implLa l else lk orcLaw b g l := nr rfl
theorem orcMLa_p : Pure Tryz.prog (orS (lk orcLa) (lk orcM)) := orS_pure orcLa_p orcM_p
abbrev k4_o0 : List AJ := [.o ⟨(some 2), none, false, .box false 2 (.t 0), none⟩, .o ⟨(some 3), none, false, .box false 2 (.t 1), none⟩, .o ⟨(some 4), none, false, .mv (.c (.bool false)), (some [2, 3])⟩]
abbrev k4_o1 : List AJ := [.o ⟨(some 5), none, false, .mv (.c (.int .i64 1048576)), (some [2, 3, 5])⟩]
abbrev k4_o2 : List AJ := [.o ⟨(some 17), none, false, .load 2 true (.t 2), none⟩, .o ⟨(some 18), none, false, .mv (.t 5), none⟩, .o ⟨(some 19), none, false, .call 7 [(.t 17), (.t 18)], none⟩, .o ⟨(some 5), none, false, .mv (.t 19), (some [2, 3, 5])⟩]
abbrev k4_o3 : List AJ := [.o ⟨(some 20), none, false, .mv (.t 5), none⟩, .o ⟨(some 21), none, false, .bin .lss (.t 20) (.c (.int .i64 0)), (some [2, 3, 5, 21])⟩]
abbrev k4_o4 : List AJ := [.o ⟨(some 4), none, false, .mv (.c (.bool true)), (some [4])⟩]
def k4_5 : ACode := .seq (.region k4_o4) .ret
def k4_6 : ACode := .cond (.t 21) k4_5 .skip
def k4_7 : ACode := .seq (.region k4_o3) k4_6
abbrev k4_o5 : List AJ := [.o ⟨(some 22), none, false, .load 2 true (.t 3), none⟩, .o ⟨(some 23), none, false, .mv (.t 5), none⟩, .o ⟨(some 24), none, false, .call 7 [(.t 22), (.t 23)], none⟩, .o ⟨(some 5), none, false, .mv (.t 24), (some [2, 3, 5])⟩]
abbrev k4_o6 : List AJ := [.o ⟨(some 25), none, false, .mv (.t 5), none⟩, .o ⟨(some 26), none, false, .bin .lss (.t 25) (.c (.int .i64 0)), (some [2, 3, 26])⟩]
abbrev k4_o7 : List AJ := [.o ⟨(some 4), none, false, .mv (.c (.bool true)), (some [4])⟩]
def k4_11 : ACode := .seq (.region k4_o7) .ret
def k4_12 : ACode := .cond (.t 26) k4_11 .skip
def k4_13 : ACode := .seq (.region k4_o6) k4_12
abbrev k4_o8 : List AJ := [.o ⟨(some 28), none, false, .load 2 true (.t 2), none⟩, .o ⟨(some 29), none, true, .call 9 [(.t 28)], none⟩, .o ⟨(some 30), none, false, .load 2 true (.t 3), none⟩, .o ⟨(some 31), none, true, .call 9 [(.t 30)], none⟩, .o ⟨(some 32), none, true, .call 14 [(.t 29), (.t 31)], none⟩, .o ⟨(some 27), none, false, .mv (.t 32), none⟩, .o ⟨(some 33), none, false, .extract (.t 27) 0, none⟩, .o ⟨(some 34), none, false, .extract (.t 27) 1, none⟩, .o ⟨(some 6), none, false, .alloc true 2 (.agg [.nilsl, .nilsl]), none⟩, .o ⟨none, none, false, .store 2 (.t 6) (.t 33), none⟩, .o ⟨(some 7), none, false, .mv (.t 34), (some [2, 3, 6, 7])⟩]
abbrev k4_o9 : List AJ := [.o ⟨(some 35), none, false, .load 2 true (.t 2), none⟩, .o ⟨(some 36), none, false, .call 9 [(.t 35)], none⟩, .v 8 2 (.agg [.nilsl, .nilsl]) [] (.t 36) (some [2, 3, 6, 7, 8])]
abbrev k4_o10 : List AJ := [.o ⟨(some 37), none, false, .load 2 true (.t 3), none⟩, .o ⟨(some 38), none, false, .call 9 [(.t 37)], none⟩, .v 9 2 (.agg [.nilsl, .nilsl]) [] (.t 38) (some [2, 3, 6, 7, 8, 9])]
abbrev k4_o11 : List AJ := [.o ⟨(some 40), none, false, .load 2 true (.t 8), none⟩, .o ⟨(some 41), none, false, .load 2 true (.t 9), none⟩, .o ⟨(some 42), none, false, .call 15 [(.t 40), (.t 41)], none⟩, .o ⟨(some 39), none, false, .mv (.t 42), none⟩, .o ⟨(some 43), none, false, .extract (.t 39) 0, none⟩, .o ⟨(some 44), none, false, .extract (.t 39) 1, none⟩, .v 10 2 (.agg [.nilsl, .nilsl]) [] (.t 43) none, .o ⟨(some 11), none, false, .mv (.t 44), (some [2, 3, 6, 7, 8, 9, 10, 11])⟩]
abbrev k4_o12 : List AJ := [.o ⟨(some 45), none, false, .load 2 true (.t 10), none⟩, .o ⟨(some 46), none, false, .load 2 true (.t 6), none⟩, .o ⟨(some 47), none, false, .call 11 [(.t 45), (.t 46)], none⟩, .o ⟨(some 48), none, false, .un .not (.t 47), none⟩, .o ⟨(some 49), none, false, .mv (.t 48), none⟩, .o ⟨(some 50), (some (49, false)), false, .mv (.t 11), none⟩, .o ⟨(some 51), (some (49, false)), false, .mv (.t 7), none⟩, .o ⟨(some 52), (some (49, false)), false, .bin .neq (.t 50) (.t 51), none⟩, .o ⟨(some 53), none, false, .pick (.t 49) (.c (.bool true)) (.t 52), (some [2, 3, 6, 7, 8, 9, 10, 11, 53])⟩]
abbrev k4_o13 : List AJ := [.o ⟨(some 4), none, false, .mv (.c (.bool false)), (some [4])⟩]
def k4_20 : ACode := .seq (.region k4_o13) .ret
def k4_21 : ACode := .cond (.t 53) k4_20 .skip
def k4_22 : ACode := .seq (.region k4_o12) k4_21
abbrev k4_o14 : List AI := [⟨(some 54), none, false, .load 2 true (.t 8), none⟩, ⟨(some 55), none, false, .load 2 true (.t 2), none⟩, ⟨(some 56), none, false, .call 9 [(.t 55)], none⟩, ⟨(some 57), none, false, .call 11 [(.t 54), (.t 56)], none⟩, ⟨(some 58), none, false, .un .not (.t 57), (some [2, 3, 6, 7, 8, 9, 10, 11, 58])⟩]
abbrev k4_o15 : List AJ := [.o ⟨(some 4), none, false, .mv (.c (.bool false)), (some [4])⟩]
def k4_25 : ACode := .seq (.region k4_o15) .ret
def k4_26 : ACode := .cond (.t 58) k4_25 .skip
def k4_27 : ACode := .seq (.draw k4_o14 [] rfl) k4_26
abbrev k4_o16 : List AI := [⟨(some 59), none, false, .load 2 true (.t 9), none⟩, ⟨(some 60), none, false, .load 2 true (.t 3), none⟩, ⟨(some 61), none, false, .call 9 [(.t 60)], none⟩, ⟨(some 62), none, false, .call 11 [(.t 59), (.t 61)], none⟩, ⟨(some 63), none, false, .un .not (.t 62), (some [2, 3, 6, 7, 8, 9, 10, 11, 63])⟩]
abbrev k4_o17 : List AJ := [.o ⟨(some 4), none, false, .mv (.c (.bool false)), (some [4])⟩]
def k4_30 : ACode := .seq (.region k4_o17) .ret
def k4_31 : ACode := .cond (.t 63) k4_30 .skip
def k4_32 : ACode := .seq (.draw k4_o16 [] rfl) k4_31
abbrev k4_o18 : List AJ := [.o ⟨(some 12), none, false, .mv (.c (.int .i64 1)), (some [2, 3, 6, 7, 8, 9, 10, 11, 12])⟩]
abbrev k4_o19 : List AJ := [.o ⟨(some 64), none, false, .load 2 true (.t 8), none⟩, .o ⟨(some 65), none, false, .mv (.t 12), none⟩, .o ⟨(some 66), none, false, .call 12 [(.t 64), (.t 65)], none⟩, .o ⟨(some 12), none, false, .mv (.t 66), (some [2, 3, 6, 7, 9, 10, 11, 12])⟩]
abbrev k4_o20 : List AJ := [.o ⟨(some 67), none, false, .load 2 true (.t 9), none⟩, .o ⟨(some 68), none, false, .mv (.t 12), none⟩, .o ⟨(some 69), none, false, .call 12 [(.t 67), (.t 68)], none⟩, .o ⟨(some 12), none, false, .mv (.t 69), (some [2, 3, 6, 7, 10, 11, 12])⟩]
abbrev k4_o21 : List AJ := [.o ⟨(some 70), none, false, .mv (.t 12), none⟩, .o ⟨(some 71), none, false, .bin .lss (.t 70) (.c (.int .i64 0)), none⟩, .o ⟨(some 72), none, false, .mv (.t 71), none⟩, .o ⟨(some 73), (some (72, false)), false, .load 2 true (.t 10), none⟩, .o ⟨(some 74), (some (72, false)), false, .load 2 true (.t 6), none⟩, .o ⟨(some 75), (some (72, false)), false, .call 11 [(.t 73), (.t 74)], none⟩, .o ⟨(some 76), (some (72, false)), false, .un .not (.t 75), none⟩, .o ⟨(some 77), none, false, .pick (.t 72) (.c (.bool true)) (.t 76), none⟩, .o ⟨(some 78), none, false, .mv (.t 77), none⟩, .o ⟨(some 79), (some (78, false)), false, .mv (.t 11), (some [2, 3, 6, 7, 10, 78, 79])⟩, .o ⟨(some 80), (some (78, false)), false, .mv (.t 7), none⟩, .o ⟨(some 81), (some (78, false)), false, .bin .neq (.t 79) (.t 80), none⟩, .o ⟨(some 82), none, false, .pick (.t 78) (.c (.bool true)) (.t 81), (some [2, 3, 6, 7, 10, 82])⟩]
abbrev k4_o22 : List AJ := [.o ⟨(some 4), none, false, .mv (.c (.bool false)), (some [4])⟩]
def k4_38 : ACode := .seq (.region k4_o22) .ret
def k4_39 : ACode := .cond (.t 82) k4_38 .skip
def k4_40 : ACode := .seq (.region k4_o21) k4_39
abbrev k4_o23 : List AJ := [.o ⟨(some 13), none, false, .mv (.c (.int .i64 1)), (some [2, 3, 6, 7, 10, 13])⟩]
abbrev k4_o24 : List AJ := [.o ⟨(some 83), none, false, .load 2 true (.t 10), none⟩, .o ⟨(some 84), none, false, .mv (.t 13), none⟩, .o ⟨(some 85), none, false, .call 12 [(.t 83), (.t 84)], none⟩, .o ⟨(some 13), none, false, .mv (.t 85), (some [2, 3, 6, 7, 10, 13])⟩]
abbrev k4_o25 : List AJ := [.o ⟨(some 14), none, false, .mv (.c (.int .i64 1)), (some [2, 3, 6, 7, 10, 13, 14])⟩]
abbrev k4_o26 : List AJ := [.o ⟨(some 86), none, false, .load 2 true (.t 10), none⟩, .o ⟨(some 87), none, false, .mv (.t 14), none⟩, .o ⟨(some 88), none, false, .call 13 [(.t 86), (.t 87)], none⟩, .o ⟨(some 14), none, false, .mv (.t 88), (some [2, 3, 6, 7, 10, 13, 14])⟩]
abbrev k4_o27 : List AJ := [.o ⟨(some 89), none, false, .mv (.t 14), none⟩, .o ⟨(some 90), none, false, .bin .lss (.t 89) (.c (.int .i64 0)), (some [2, 3, 6, 7, 10, 13, 14, 90])⟩]
abbrev k4_o28 : List AJ := [.o ⟨(some 4), none, false, .mv (.c (.bool false)), (some [4])⟩]
def k4_47 : ACode := .seq (.region k4_o28) .ret
def k4_48 : ACode := .cond (.t 90) k4_47 .skip
def k4_49 : ACode := .seq (.region k4_o27) k4_48
abbrev k4_o29 : List AJ := [.o ⟨(some 91), none, false, .mv (.t 14), none⟩, .o ⟨(some 92), none, false, .mv (.t 13), none⟩, .o ⟨(some 93), none, false, .bin .neq (.t 91) (.t 92), (some [2, 3, 6, 7, 10, 13, 93])⟩]
abbrev k4_o30 : List AJ := [.o ⟨(some 4), none, false, .mv (.c (.bool false)), (some [4])⟩]
def k4_52 : ACode := .seq (.region k4_o30) .ret
def k4_53 : ACode := .cond (.t 93) k4_52 .skip
def k4_54 : ACode := .seq (.region k4_o29) k4_53
abbrev k4_o31 : List AJ := [.o ⟨(some 95), none, false, .load 2 true (.t 2), none⟩, .o ⟨(some 96), none, true, .call 9 [(.t 95)], none⟩, .o ⟨(some 97), none, false, .load 2 true (.t 3), none⟩, .o ⟨(some 98), none, true, .call 9 [(.t 97)], none⟩, .o ⟨(some 99), none, true, .call 15 [(.t 96), (.t 98)], none⟩, .o ⟨(some 94), none, false, .mv (.t 99), none⟩, .o ⟨(some 100), none, false, .extract (.t 94) 0, none⟩, .o ⟨(some 101), none, false, .extract (.t 94) 1, none⟩, .o ⟨(some 15), none, false, .alloc true 2 (.agg [.nilsl, .nilsl]), none⟩, .o ⟨none, none, false, .store 2 (.t 15) (.t 100), none⟩, .o ⟨(some 16), none, false, .mv (.t 101), (some [6, 7, 10, 13, 15, 16])⟩]
abbrev k4_o32 : List AJ := [.o ⟨(some 102), none, false, .load 2 true (.t 15), none⟩, .o ⟨(some 103), none, false, .load 2 true (.t 6), none⟩, .o ⟨(some 104), none, false, .call 11 [(.t 102), (.t 103)], none⟩, .o ⟨(some 105), none, false, .un .not (.t 104), none⟩, .o ⟨(some 106), none, false, .mv (.t 105), none⟩, .o ⟨(some 107), (some (106, false)), false, .mv (.t 16), none⟩, .o ⟨(some 108), (some (106, false)), false, .mv (.t 7), none⟩, .o ⟨(some 109), (some (106, false)), false, .bin .neq (.t 107) (.t 108), none⟩, .o ⟨(some 110), none, false, .pick (.t 106) (.c (.bool true)) (.t 109), (some [10, 13, 110])⟩]
abbrev k4_o33 : List AJ := [.o ⟨(some 4), none, false, .mv (.c (.bool false)), (some [4])⟩]
def k4_58 : ACode := .seq (.region k4_o33) .ret
def k4_59 : ACode := .cond (.t 110) k4_58 .skip
def k4_60 : ACode := .seq (.region k4_o32) k4_59
abbrev k4_o34 : List AJ := [.o ⟨(some 14), none, false, .mv (.c (.int .i64 1)), (some [10, 13, 14])⟩]
abbrev k4_o35 : List AJ := [.o ⟨(some 111), none, false, .load 2 true (.t 10), none⟩, .o ⟨(some 112), none, false, .mv (.t 14), none⟩, .o ⟨(some 113), none, false, .call 13 [(.t 111), (.t 112)], none⟩, .o ⟨(some 14), none, false, .mv (.t 113), (some [13, 14])⟩]
abbrev k4_o36 : List AJ := [.o ⟨(some 114), none, false, .mv (.t 14), none⟩, .o ⟨(some 115), none, false, .bin .lss (.t 114) (.c (.int .i64 0)), (some [13, 14, 115])⟩]
abbrev k4_o37 : List AJ := [.o ⟨(some 4), none, false, .mv (.c (.bool false)), (some [4])⟩]
def k4_65 : ACode := .seq (.region k4_o37) .ret
def k4_66 : ACode := .cond (.t 115) k4_65 .skip
def k4_67 : ACode := .seq (.region k4_o36) k4_66
abbrev k4_o38 : List AJ := [.o ⟨(some 116), none, false, .mv (.t 14), none⟩, .o ⟨(some 117), none, false, .mv (.t 13), none⟩, .o ⟨(some 118), none, false, .bin .neq (.t 116) (.t 117), (some [118])⟩]
abbrev k4_o39 : List AJ := [.o ⟨(some 4), none, false, .mv (.c (.bool false)), (some [4])⟩]
def k4_70 : ACode := .seq (.region k4_o39) .ret
def k4_71 : ACode := .cond (.t 118) k4_70 .skip
def k4_72 : ACode := .seq (.region k4_o38) k4_71
abbrev k4_o40 : List AJ := [.o ⟨(some 4), none, false, .mv (.c (.bool true)), (some [4])⟩]
def k4_74 : ACode := .seq (.region k4_o40) .ret
def k4_75 : ACode := .seq k4_72 k4_74
def k4_76 : ACode := .seq k4_67 k4_75
def k4_77 : ACode := .seq (.region k4_o35) k4_76
def k4_78 : ACode := .seq (.region k4_o34) k4_77
def k4_79 : ACode := .seq k4_60 k4_78
def k4_80 : ACode := .seq (.drawT 1 k4_o31 rfl) (.cut k4_79)
def k4_81 : ACode := .seq k4_54 k4_80
def k4_82 : ACode := .seq k4_49 k4_81
def k4_83 : ACode := .seq (.region k4_o26) k4_82
def k4_84 : ACode := .seq (.region k4_o25) k4_83
def k4_85 : ACode := .seq (.region k4_o24) k4_84
def k4_86 : ACode := .seq (.region k4_o23) k4_85
def k4_87 : ACode := .seq k4_40 k4_86
def k4_88 : ACode := .seq (.region k4_o20) k4_87
def k4_89 : ACode := .seq (.region k4_o19) k4_88
def k4_90 : ACode := .seq (.region k4_o18) k4_89
def k4_91 : ACode := .seq k4_32 k4_90
def k4_92 : ACode := .seq k4_27 k4_91
def k4_93 : ACode := .seq k4_22 k4_92
def k4_94 : ACode := .seq (.region k4_o11) k4_93
def k4_95 : ACode := .seq (.region k4_o10) k4_94
def k4_96 : ACode := .seq (.region k4_o9) k4_95
def k4_97 : ACode := .seq (.drawT 1 k4_o8 rfl) (.cut k4_96)
def k4_98 : ACode := .seq k4_13 k4_97
def k4_99 : ACode := .seq (.region k4_o5) k4_98
def k4_100 : ACode := .seq k4_7 k4_99
def k4_101 : ACode := .seq (.region k4_o2) k4_100
def k4_102 : ACode := .seq (.region k4_o1) k4_101
def k4_103 : ACode := .seq (.region k4_o0) k4_102
@[simp, simp ↓] theorem k4_5r : sR k4_5 k4_o4 .ret := yR rfl
@[simp, simp ↓] theorem k4_6r : rC k4_6 (.t 21) k4_5 .skip := zC rfl
@[simp, simp ↓] theorem k4_7r : sR k4_7 k4_o3 k4_6 := yR rfl
@[simp, simp ↓] theorem k4_11r : sR k4_11 k4_o7 .ret := yR rfl
@[simp, simp ↓] theorem k4_12r : rC k4_12 (.t 26) k4_11 .skip := zC rfl
@[simp, simp ↓] theorem k4_13r : sR k4_13 k4_o6 k4_12 := yR rfl
@[simp, simp ↓] theorem k4_20r : sR k4_20 k4_o13 .ret := yR rfl
@[simp, simp ↓] theorem k4_21r : rC k4_21 (.t 53) k4_20 .skip := zC rfl
@[simp, simp ↓] theorem k4_22r : sR k4_22 k4_o12 k4_21 := yR rfl
@[simp, simp ↓] theorem k4_25r : sR k4_25 k4_o15 .ret := yR rfl
@[simp, simp ↓] theorem k4_26r : rC k4_26 (.t 58) k4_25 .skip := zC rfl
@[simp, simp ↓] theorem k4_27r : sD k4_27 k4_o14 [] k4_26 := yD rfl
@[simp, simp ↓] theorem k4_30r : sR k4_30 k4_o17 .ret := yR rfl
@[simp, simp ↓] theorem k4_31r : rC k4_31 (.t 63) k4_30 .skip := zC rfl
@[simp, simp ↓] theorem k4_32r : sD k4_32 k4_o16 [] k4_31 := yD rfl
@[simp, simp ↓] theorem k4_38r : sR k4_38 k4_o22 .ret := yR rfl
@[simp, simp ↓] theorem k4_39r : rC k4_39 (.t 82) k4_38 .skip := zC rfl
@[simp, simp ↓] theorem k4_40r : sR k4_40 k4_o21 k4_39 := yR rfl
@[simp, simp ↓] theorem k4_47r : sR k4_47 k4_o28 .ret := yR rfl
@[simp, simp ↓] theorem k4_48r : rC k4_48 (.t 90) k4_47 .skip := zC rfl
@[simp, simp ↓] theorem k4_49r : sR k4_49 k4_o27 k4_48 := yR rfl
@[simp, simp ↓] theorem k4_52r : sR k4_52 k4_o30 .ret := yR rfl
@[simp, simp ↓] theorem k4_53r : rC k4_53 (.t 93) k4_52 .skip := zC rfl
@[simp, simp ↓] theorem k4_54r : sR k4_54 k4_o29 k4_53 := yR rfl
@[simp, simp ↓] theorem k4_58r : sR k4_58 k4_o33 .ret := yR rfl
@[simp, simp ↓] theorem k4_59r : rC k4_59 (.t 110) k4_58 .skip := zC rfl
@[simp, simp ↓] theorem k4_60r : sR k4_60 k4_o32 k4_59 := yR rfl
@[simp, simp ↓] theorem k4_65r : sR k4_65 k4_o37 .ret := yR rfl
@[simp, simp ↓] theorem k4_66r : rC k4_66 (.t 115) k4_65 .skip := zC rfl
@[simp, simp ↓] theorem k4_67r : sR k4_67 k4_o36 k4_66 := yR rfl
@[simp, simp ↓] theorem k4_70r : sR k4_70 k4_o39 .ret := yR rfl
@[simp, simp ↓] theorem k4_71r : rC k4_71 (.t 118) k4_70 .skip := zC rfl
@[simp, simp ↓] theorem k4_72r : sR k4_72 k4_o38 k4_71 := yR rfl
@[simp, simp ↓] theorem k4_74r : sR k4_74 k4_o40 .ret := yR rfl
@[simp, simp ↓] theorem k4_75r : rS k4_75 k4_72 k4_74 := zS rfl
@[simp, simp ↓] theorem k4_76r : rS k4_76 k4_67 k4_75 := zS rfl
@[simp, simp ↓] theorem k4_77r : sR k4_77 k4_o35 k4_76 := yR rfl
@[simp, simp ↓] theorem k4_78r : sR k4_78 k4_o34 k4_77 := yR rfl
@[simp, simp ↓] theorem k4_79r : rS k4_79 k4_60 k4_78 := zS rfl
@[simp, simp ↓] theorem k4_80r : sT k4_80 k4_o31 (.cut k4_79) := yT rfl
@[simp, simp ↓] theorem k4_81r : rS k4_81 k4_54 k4_80 := zS rfl
@[simp, simp ↓] theorem k4_82r : rS k4_82 k4_49 k4_81 := zS rfl
@[simp, simp ↓] theorem k4_83r : sR k4_83 k4_o26 k4_82 := yR rfl
@[simp, simp ↓] theorem k4_84r : sR k4_84 k4_o25 k4_83 := yR rfl
@[simp, simp ↓] theorem k4_85r : sR k4_85 k4_o24 k4_84 := yR rfl
@[simp, simp ↓] theorem k4_86r : sR k4_86 k4_o23 k4_85 := yR rfl
@[simp, simp ↓] theorem k4_87r : rS k4_87 k4_40 k4_86 := zS rfl
@[simp, simp ↓] theorem k4_88r : sR k4_88 k4_o20 k4_87 := yR rfl
@[simp, simp ↓] theorem k4_89r : sR k4_89 k4_o19 k4_88 := yR rfl
@[simp, simp ↓] theorem k4_90r : sR k4_90 k4_o18 k4_89 := yR rfl
@[simp, simp ↓] theorem k4_91r : rS k4_91 k4_32 k4_90 := zS rfl
@[simp, simp ↓] theorem k4_92r : rS k4_92 k4_27 k4_91 := zS rfl
@[simp, simp ↓] theorem k4_93r : rS k4_93 k4_22 k4_92 := zS rfl
@[simp, simp ↓] theorem k4_94r : sR k4_94 k4_o11 k4_93 := yR rfl
@[simp, simp ↓] theorem k4_95r : sR k4_95 k4_o10 k4_94 := yR rfl
@[simp, simp ↓] theorem k4_96r : sR k4_96 k4_o9 k4_95 := yR rfl
@[simp, simp ↓] theorem k4_97r : sT k4_97 k4_o8 (.cut k4_96) := yT rfl
@[simp, simp ↓] theorem k4_98r : rS k4_98 k4_13 k4_97 := zS rfl
@[simp, simp ↓] theorem k4_99r : sR k4_99 k4_o5 k4_98 := yR rfl
@[simp, simp ↓] theorem k4_100r : rS k4_100 k4_7 k4_99 := zS rfl
@[simp, simp ↓] theorem k4_101r : sR k4_101 k4_o2 k4_100 := yR rfl
@[simp, simp ↓] theorem k4_102r : sR k4_102 k4_o1 k4_101 := yR rfl
@[simp, simp ↓] theorem k4_103r : sR k4_103 k4_o0 k4_102 := yR rfl
noncomputable abbrev k4_C : Orc → Cx := mkC Tryz.prog [6, 8, 9, 10, 15] 4 119 [.tmp 4]
theorem k4_of : OfP Tryz.prog Tryz.f4 4 119 k4_C k4_103 := @ofP _ _ _ _ _ _ _ _ Tryz.func4 (by decide +kernel) rfl (by kernel_rfl) rfl (by kernel_rfl)
theorem k4_of0 : OfP0 Tryz.prog Tryz.f4 4 119 k4_C k4_103 := @ofP0 _ _ _ _ _ _ _ _ Tryz.func4 (by decide +kernel) rfl (by kernel_rfl) rfl (by kernel_rfl)
theorem la_law (x : Fil) (hx : x.wf) (y : Fil) (hy : y.wf) : ACalls Tryz.prog 4 [x.av, y.av] [] (fun v h' => v = .bool true ∧ h' = []) := by
  refine k4_of rfl orcMLa_p fun I => ?_
  have hx2_x := hx
  have hx2_y := hy
  refine Run2.of I 1000 ?_
  by_cases kx : (x.tot : Int) ≤ (1048576 : Int)
  · have hAx : ¬ (1048576 : Int) < x.tot := by omega
    have hBx : ¬ (1048576 : Int) - x.tot < 0 := by omega
    have hCx : (0 : Int) ≤ (1048576 : Int) - x.tot := by omega
    have lx : x.tot ≤ 1048576 := by omega
    have hDx : (1048576 : Int) - x.tot ≤ 1048576 := by omega
    by_cases ky : (y.tot : Int) ≤ ((1048576 : Int) - x.tot)
    · have hAy : ¬ ((1048576 : Int) - x.tot) < y.tot := by omega
      have hBy : ¬ ((1048576 : Int) - x.tot) - y.tot < 0 := by omega
      have hCy : (0 : Int) ≤ ((1048576 : Int) - x.tot) - y.tot := by omega
      have ly : y.tot ≤ 1048576 := by omega
      have hDy : ((1048576 : Int) - x.tot) - y.tot ≤ 1048576 := by omega
      have hct := Fil.coF_tot max x y
      have hcs := (Fil.coF max x y).cnt_le
      have hxc := x.cnt_le
      have hyc := y.cnt_le
      simp -implicitDefEqProofs [hx2_x, hx2_y, hAx, hBx, hCx, hDx, kx, hAy, hBy, hCy, hDy, ky, lx, ly]
      intro z9
      refine Run2.freeze z9 (by simp [hget]; rfl) ?_
      refine Run2.of I 1000 ?_
      simp -implicitDefEqProofs [fzE, fz, fzs]
      refine (toFil_o x _ lx).monoN ?_
      rintro v0 h' ⟨g0, o0, d0, rfl⟩ n0
      obtain ⟨pu0, pw0, pa0, pb0, rfl, pou0, pow0, phd0, phe0⟩ := id o0
      have c0 := pou0.cell
      have c0_1 := pow0.cell
      refine gK.go ?_
      simp -implicitDefEqProofs [c0, c0_1]
      refine (toFil_o y _ ly).monoN ?_
      rintro v1 h' ⟨g1, o1, d1, rfl⟩ n1
      obtain ⟨pu1, pw1, pa1, pb1, rfl, pou1, pow1, phd1, phe1⟩ := id o1
      have c1 := pou1.cell
      have c1_1 := pow1.cell
      refine gK.go ?_
      simp -implicitDefEqProofs [c0, c0_1, c1, c1_1]
      have L0 := o0.lentMid (A := g1) (B := []) (by simpa only [List.nil_append, List.append_nil, List.append_assoc] using n1)
      simp only [List.nil_append, List.append_nil, List.append_assoc] at L0
      have L1 := o1.lentMid (A := []) (B := g0) (by simpa only [List.nil_append, List.append_nil, List.append_assoc] using n1)
      refine (ACalls.gives (g1 ++ g0) (fun p hp => hp) (S := fun v h' => ∃ w, v = .tup [w, .int .i64 (x.coCode y)] ∧ OwnFil w (Fil.coF max x y) h') ?_ ?_).monoN ?_
      · rw [lend_cons, lend_cons, lend_nil']
        exact ACalls.wk (.cons L0.wk (.cons L1.wk .nil)) (implLa_o x y lx ly)
      · rintro v h' ⟨w, rfl, ho⟩
        have := ho.own
        exact ⟨by simp [own, owns, this.1], this.2⟩
      rintro v h' ⟨gg, ⟨w, rfl, og⟩, dg, rfl⟩ ng
      obtain ⟨qu, qw, qa, qb, rfl, qou, qow, qhd, qhe⟩ := id og
      have cw := qou.cell
      have cw_1 := qow.cell
      refine gK.go ?_
      simp -implicitDefEqProofs [c0, c0_1, c1, c1_1, cw, cw_1]
      first | refine dcallK (eqFil_own og ((Fil.coF max x y).is) (fun p hp => List.mem_append_left _ hp) (show (Fil.coF max x y).tot ≤ 1048576 by omega)) ?_ | (refine (eqFil_own og ((Fil.coF max x y).is) (fun p hp => List.mem_append_left _ hp) (show (Fil.coF max x y).tot ≤ 1048576 by omega)).mono ?_; rintro v h' ⟨rfl, rfl⟩; refine gK.go ?_)
      simp -implicitDefEqProofs [c0, c0_1, c1, c1_1, cw, cw_1]
      first | refine dcallK (toFil_c x _ lx) ?_ | (refine (toFil_c x _ lx).mono ?_; rintro v h' ⟨rfl, rfl⟩; refine gK.go ?_)
      simp -implicitDefEqProofs [c0, c0_1, c1, c1_1, cw, cw_1]
      first | refine dcallK (eqFil_own o0 x.is (fun p hp => List.mem_append_right _ (List.mem_append_right _ (hp))) lx) ?_ | (refine (eqFil_own o0 x.is (fun p hp => List.mem_append_right _ (List.mem_append_right _ (hp))) lx).mono ?_; rintro v h' ⟨rfl, rfl⟩; refine gK.go ?_)
      simp -implicitDefEqProofs [c0, c0_1, c1, c1_1, cw, cw_1]
      first | refine dcallK (toFil_c y _ ly) ?_ | (refine (toFil_c y _ ly).mono ?_; rintro v h' ⟨rfl, rfl⟩; refine gK.go ?_)
      simp -implicitDefEqProofs [c0, c0_1, c1, c1_1, cw, cw_1]
      first | refine dcallK (eqFil_own o1 y.is (fun p hp => List.mem_append_right _ (List.mem_append_left _ hp)) ly) ?_ | (refine (eqFil_own o1 y.is (fun p hp => List.mem_append_right _ (List.mem_append_left _ hp)) ly).mono ?_; rintro v h' ⟨rfl, rfl⟩; refine gK.go ?_)
      simp -implicitDefEqProofs [c0, c0_1, c1, c1_1, cw, cw_1]
      refine (markFil_drop o0 (gg ++ g1) (fun p hp => List.mem_append_right _ (List.mem_append_right _ (hp))) ?_ ?_ (1) (by omega) (by omega)).monoN ?_
      · simpa only [List.append_assoc] using keepL (a := (gg ++ g1)) (b := g0) (by simpa only [List.append_assoc] using ng)
      · exact fun nd => nodupL (a := (gg ++ g1)) (b := g0) (by simpa only [List.append_assoc] using nd)
      rintro _ _ ⟨e1, e2⟩ nk0
      rw [e1, e2]; rw [e2] at nk0
      refine gK.go ?_
      simp -implicitDefEqProofs [c0, c0_1, c1, c1_1, cw, cw_1]
      refine (markFil_drop o1 gg (fun p hp => List.mem_append_right _ (hp)) ?_ ?_ (1 + ((x).cnt : Int)) (by omega) (by omega)).monoN ?_
      · simpa only [List.append_assoc] using keepL (a := gg) (b := g1) (by simpa only [List.append_assoc] using nk0)
      · exact fun nd => nodupL (a := gg) (b := g1) (by simpa only [List.append_assoc] using nd)
      rintro _ _ ⟨e1, e2⟩ nk1
      rw [e1, e2]; rw [e2] at nk1
      refine gK.go ?_
      have hk : ¬ (1 + ((x).cnt : Int) + ((y).cnt : Int)) < 0 := by omega
      simp -implicitDefEqProofs [c0, c0_1, c1, c1_1, cw, cw_1, hk]
      first | refine dcallK (eqFil_own og ((Fil.coF max x y).is) (fun p hp => hp) (show (Fil.coF max x y).tot ≤ 1048576 by omega)) ?_ | (refine (eqFil_own og ((Fil.coF max x y).is) (fun p hp => hp) (show (Fil.coF max x y).tot ≤ 1048576 by omega)).mono ?_; rintro v h' ⟨rfl, rfl⟩; refine gK.go ?_)
      simp -implicitDefEqProofs [c0, c0_1, c1, c1_1, cw, cw_1]
      skip
      refine (markFil_keep og [] (fun p hp => hp) keepN (fun _ => by simp [dom]) 1 (by omega) (by have := (show (Fil.coF max x y).tot ≤ 1048576 by omega); omega)).mono ?_
      rintro _ _ ⟨gm, rfl, om, rfl⟩
      refine gK.go ?_
      simp -implicitDefEqProofs [c0, c0_1, c1, c1_1, cw, cw_1]
      have hq : ¬ (1 + (((Fil.coF max x y)).cnt : Int) < 0) := by omega
      first | refine dcallK (heldFil_own om (fun p hp => hp) 1 (by omega) (by have := (show (Fil.coF max x y).tot ≤ 1048576 by omega); simp; omega)) ?_ | (refine (heldFil_own om (fun p hp => hp) 1 (by omega) (by have := (show (Fil.coF max x y).tot ≤ 1048576 by omega); simp; omega)).mono ?_; rintro v h' ⟨rfl, rfl⟩; refine gK.go ?_)
      simp -implicitDefEqProofs [c0, c0_1, c1, c1_1, cw, cw_1, hq, lx, ly]
      intro z8 z8n
      refine Run2.of I 1000 ?_
      simp -implicitDefEqProofs [c0, c0_1, c1, c1_1, cw, cw_1, hq, lx, ly]
      first | refine dcallK (eqFil_c ((Fil.coF max x y)) ((Fil.coF max x y)) _ (show (Fil.coF max x y).tot ≤ 1048576 by omega)) ?_ | (refine (eqFil_c ((Fil.coF max x y)) ((Fil.coF max x y)) _ (show (Fil.coF max x y).tot ≤ 1048576 by omega)).mono ?_; rintro v h' ⟨rfl, rfl⟩; refine gK.go ?_)
      simp -implicitDefEqProofs [c0, c0_1, c1, c1_1, cw, cw_1, hq, lx, ly]
      first | refine dcallK (heldFil_own om (fun p hp => List.mem_cons_of_mem _ hp) 1 (by omega) (by have := (show (Fil.coF max x y).tot ≤ 1048576 by omega); simp; omega)) ?_ | (refine (heldFil_own om (fun p hp => List.mem_cons_of_mem _ hp) 1 (by omega) (by have := (show (Fil.coF max x y).tot ≤ 1048576 by omega); simp; omega)).mono ?_; rintro v h' ⟨rfl, rfl⟩; refine gK.go ?_)
      simp -implicitDefEqProofs [c0, c0_1, c1, c1_1, cw, cw_1, hq, lx, ly]
      exact Post.none ⟨rfl, rfl⟩
    · have hAy : ((1048576 : Int) - x.tot) < y.tot := by omega
      simp -implicitDefEqProofs [hx2_x, hx2_y, hAx, hBx, hCx, hDx, kx, hAy]
      exact .base ⟨rfl, rfl⟩
  · have hAx : (1048576 : Int) < x.tot := by omega
    simp -implicitDefEqProofs [hx2_x, hx2_y, hAx]
    exact .base ⟨rfl, rfl⟩
end Go.AG
namespace Go.Proofs.YtamjnegnoijjlaaGreat
open Go.ChangeShapes Go.WideShapes Go.ChangeAt Go.RowKit Go.AG
theorem own : ownKnob Tryz.prog.godebug = none := by kernel_rfl
theorem laidOut : laidOutB Tryz.prog = true := by kernel_rfl
set_option maxRecDepth 100000 in
theorem fnExactLaterOf_lifted (os : Os) (started : os.Started) (H : Type) (enc : TypeId × Value → H) :
    ReturnsInHanded {} Tryz.checked os 4 .any (Rows.fnExactLaterOfSpec.pre6 enc Tryz.prog Tryz.f4 Rows.fnExactLaterOfRow.domain false) (Rows.fnExactLaterOfSpec.post enc Tryz.prog Tryz.f4 false true false false) := by
  refine returnsInHanded_of_change (C := Tryz.checked) own started (by kernel_rfl) Tryz.func4
    (ChangeSpec.witness6 (enc := enc) (C := Tryz.checked) false ⟨#[], #[.agg #[.slice none 0 0, .slice none 0 0], .agg #[.slice none 0 0, .slice none 0 0]], []⟩ 8 (by kernel_rfl) (by kernel_rfl) (by kernel_rfl) (by kernel_rfl)) ?_
  intro W base args ds gs before hval0 hW _ _
  have hval : ∀ (j : Nat) t v, Tryz.f4.params[j]? = some t → args[j]? = some v → Value.okWide Tryz.prog W .any base t v := hval0
  refine law_post (tys := [tyF, tyF]) (tb := 4) laidOut rfl (by kernel_rfl) (by kernel_rfl) (by kernel_rfl) (by kernel_rfl) hval hW ?_ ?_
  · intro ds h
    match ds, h with
    | [a0, a1], _ => rfl
  · rintro xs ⟨x0, r0, rfl, h0, x1, r1, rfl, h1, hr⟩
    have hr0 : r1 = [] := hr
    subst hr0
    obtain ⟨p0, rfl, q0⟩ := Fil_of_shape h0
    obtain ⟨p1, rfl, q1⟩ := Fil_of_shape h1
    exact la_law p0 q0 p1 q1
theorem fnExactLaterOf_holds : Rows.FnExactLaterOfSaid :=
  OpenClaim.holds_of_wide 4 Tryz.f4 rfl rfl rfl rfl rfl rfl rfl ⟨rfl, rfl, rfl, rfl, rfl⟩ rfl rfl rfl rfl rfl (by kernel_rfl) Tryz.func4 (by kernel_rfl)
    (of_decide_eq_true (by kernel_rfl)) (by unfold Func.isWrapper; first | (rw [if_pos (by decide +kernel)]; kernel_rfl) | (rw [if_neg (by decide +kernel)]; exact ⟨rfl, rfl⟩))
    (fun os started H enc _ => fnExactLaterOf_lifted os started H enc)
end Go.Proofs.YtamjnegnoijjlaaGreat
