/- The law FnExactRestrictFiltration is true for every input: the program's RestrictFiltration returns what the reference's returns. -/
import Derived.Test.YtamjnegnoijjlaaFxM
import Derived.Test.YtamjnegnoijjlaaFilL
namespace Go.AG
open Go.Proofs Go.Proofs.Ytamjnegnoijjlaa
set_option linter.unusedSimpArgs false
set_option linter.unusedVariables false
set_option maxRecDepth 4000
noncomputable def o_specRe : List AV → Option (Prop × AV) := tab (fun (x : LS × List Int × LS) => match x with | (rs, ts, q) => [.agg [.snap 1 (rs.map il), .snap 1 (ts.map iv)], .agg [.snap 1 (q.map il)]]) (fun x => match x with | (rs, ts, q) => ((⟨rs, ts⟩ : Fil).tot ≤ 1048576 ∧ ssTot q ≤ 1048576)) (fun x => match x with | (rs, ts, q) => .tup [((⟨rs, ts⟩ : Fil).reF q).av, .int .i64 ((⟨rs, ts⟩ : Fil).reCode q)])
@[simp] theorem o_specRe_e (rs : LS) (ts : List Int) (q : LS) : o_specRe [.agg [.snap 1 (rs.map il), .snap 1 (ts.map iv)], .agg [.snap 1 (q.map il)]] = some (((⟨rs, ts⟩ : Fil).tot ≤ 1048576 ∧ ssTot q ≤ 1048576), .tup [((⟨rs, ts⟩ : Fil).reF q).av, .int .i64 ((⟨rs, ts⟩ : Fil).reCode q)]) := tab_at (enc := fun (x : LS × List Int × LS) => match x with | (rs, ts, q) => [.agg [.snap 1 (rs.map il), .snap 1 (ts.map iv)], .agg [.snap 1 (q.map il)]]) (fun x y h => by
  obtain ⟨rs1, ts1, q1⟩ := x; obtain ⟨rs2, ts2, q2⟩ := y; simp at h; simp [h] <;> omega) _ _ (rs, ts, q)
theorem o_specRe_k : Knows Try.prog 33 o_specRe := tab_knows fun x hx h => by
  obtain ⟨rs, ts, q⟩ := x; exact specRe_c ⟨rs, ts⟩ q h hx.1 hx.2
noncomputable def o_implRe : List AV → Option (Prop × AV) := tab (fun (x : LS × List Int × LS) => match x with | (rs, ts, q) => [.agg [.snap 1 (rs.map il), .snap 1 (ts.map iv)], .agg [.snap 1 (q.map il)]]) (fun x => match x with | (rs, ts, q) => ((⟨rs, ts⟩ : Fil).tot ≤ 1048576 ∧ ssTot q ≤ 1048576)) (fun x => match x with | (rs, ts, q) => .tup [((⟨rs, ts⟩ : Fil).reF q).av, .int .i64 ((⟨rs, ts⟩ : Fil).reCode q)])
@[simp] theorem o_implRe_e (rs : LS) (ts : List Int) (q : LS) : o_implRe [.agg [.snap 1 (rs.map il), .snap 1 (ts.map iv)], .agg [.snap 1 (q.map il)]] = some (((⟨rs, ts⟩ : Fil).tot ≤ 1048576 ∧ ssTot q ≤ 1048576), .tup [((⟨rs, ts⟩ : Fil).reF q).av, .int .i64 ((⟨rs, ts⟩ : Fil).reCode q)]) := tab_at (enc := fun (x : LS × List Int × LS) => match x with | (rs, ts, q) => [.agg [.snap 1 (rs.map il), .snap 1 (ts.map iv)], .agg [.snap 1 (q.map il)]]) (fun x y h => by
  obtain ⟨rs1, ts1, q1⟩ := x; obtain ⟨rs2, ts2, q2⟩ := y; simp at h; simp [h] <;> omega) _ _ (rs, ts, q)
theorem o_implRe_k : Knows Try.prog 35 o_implRe := tab_knows fun x hx h => by
  obtain ⟨rs, ts, q⟩ := x; exact froze_fil (implRe_o ⟨rs, ts⟩ q hx.1 hx.2) h
noncomputable def orcRe : List (Nat × (List AV → Option (Prop × AV))) := (33, o_specRe) :: (35, o_implRe) :: orcLaw
theorem orcRe_p : Pure Try.prog (lk orcRe) := (lk_pure o_specRe_k (lk_pure o_implRe_k orcLaw_p))
@[simp] theorem orcRe_l (b : Bool) (g : FuncId) (l : List AV) : lk orcRe b g l = if g = 33 then o_specRe l else if g = 35 then o_implRe l else lk orcLaw b g l := nr rfl
theorem orcMRe_p : Pure Try.prog (orS (lk orcRe) (lk orcM)) := orS_pure orcRe_p orcM_p
abbrev k7_o0 : List AJ := [.o ⟨(some 2), none, false, .box false 2 (.t 0), none⟩, .o ⟨(some 3), none, false, .box false 1 (.t 1), none⟩, .o ⟨(some 4), none, false, .mv (.c (.bool false)), (some [2, 3])⟩]
abbrev k7_o1 : List AJ := [.o ⟨(some 5), none, false, .mv (.c (.int .i64 1048576)), (some [2, 3, 5])⟩]
abbrev k7_o2 : List AJ := [.o ⟨(some 17), none, false, .load 2 true (.t 2), none⟩, .o ⟨(some 18), none, false, .mv (.t 5), none⟩, .o ⟨(some 19), none, false, .call 13 [(.t 17), (.t 18)], none⟩, .o ⟨(some 5), none, false, .mv (.t 19), (some [2, 3, 5])⟩]
abbrev k7_o3 : List AJ := [.o ⟨(some 20), none, false, .mv (.t 5), none⟩, .o ⟨(some 21), none, false, .bin .lss (.t 20) (.c (.int .i64 0)), (some [2, 3, 5, 21])⟩]
abbrev k7_o4 : List AJ := [.o ⟨(some 4), none, false, .mv (.c (.bool true)), (some [4])⟩]
def k7_5 : ACode := .seq (.region k7_o4) .ret
def k7_6 : ACode := .cond (.t 21) k7_5 .skip
def k7_7 : ACode := .seq (.region k7_o3) k7_6
abbrev k7_o5 : List AJ := [.o ⟨(some 22), none, false, .load 1 true (.t 3), none⟩, .o ⟨(some 23), none, false, .mv (.t 5), none⟩, .o ⟨(some 24), none, false, .call 32 [(.t 22), (.t 23)], none⟩, .o ⟨(some 5), none, false, .mv (.t 24), (some [2, 3, 5])⟩]
abbrev k7_o6 : List AJ := [.o ⟨(some 25), none, false, .mv (.t 5), none⟩, .o ⟨(some 26), none, false, .bin .lss (.t 25) (.c (.int .i64 0)), (some [2, 3, 26])⟩]
abbrev k7_o7 : List AJ := [.o ⟨(some 4), none, false, .mv (.c (.bool true)), (some [4])⟩]
def k7_11 : ACode := .seq (.region k7_o7) .ret
def k7_12 : ACode := .cond (.t 26) k7_11 .skip
def k7_13 : ACode := .seq (.region k7_o6) k7_12
abbrev k7_o8 : List AJ := [.o ⟨(some 28), none, false, .load 2 true (.t 2), none⟩, .o ⟨(some 29), none, true, .call 15 [(.t 28)], none⟩, .o ⟨(some 30), none, false, .load 1 true (.t 3), none⟩, .o ⟨(some 31), none, true, .call 34 [(.t 30)], none⟩, .o ⟨(some 32), none, true, .call 33 [(.t 29), (.t 31)], none⟩, .o ⟨(some 27), none, false, .mv (.t 32), none⟩, .o ⟨(some 33), none, false, .extract (.t 27) 0, none⟩, .o ⟨(some 34), none, false, .extract (.t 27) 1, none⟩, .o ⟨(some 6), none, false, .alloc true 2 (.agg [.nilsl, .nilsl]), none⟩, .o ⟨none, none, false, .store 2 (.t 6) (.t 33), none⟩, .o ⟨(some 7), none, false, .mv (.t 34), (some [2, 3, 6, 7])⟩]
abbrev k7_o9 : List AJ := [.o ⟨(some 35), none, false, .load 2 true (.t 2), none⟩, .o ⟨(some 36), none, false, .call 15 [(.t 35)], none⟩, .v 8 2 (.agg [.nilsl, .nilsl]) [] (.t 36) (some [2, 3, 6, 7, 8])]
abbrev k7_o10 : List AJ := [.o ⟨(some 37), none, false, .load 1 true (.t 3), none⟩, .o ⟨(some 38), none, false, .call 34 [(.t 37)], none⟩, .v 9 1 (.agg [.nilsl]) [] (.t 38) (some [2, 3, 6, 7, 8, 9])]
abbrev k7_o11 : List AJ := [.o ⟨(some 40), none, false, .load 2 true (.t 8), none⟩, .o ⟨(some 41), none, false, .load 1 true (.t 9), none⟩, .o ⟨(some 42), none, false, .call 35 [(.t 40), (.t 41)], none⟩, .o ⟨(some 39), none, false, .mv (.t 42), none⟩, .o ⟨(some 43), none, false, .extract (.t 39) 0, none⟩, .o ⟨(some 44), none, false, .extract (.t 39) 1, none⟩, .v 10 2 (.agg [.nilsl, .nilsl]) [] (.t 43) none, .o ⟨(some 11), none, false, .mv (.t 44), (some [2, 3, 6, 7, 8, 9, 10, 11])⟩]
abbrev k7_o12 : List AJ := [.o ⟨(some 45), none, false, .load 2 true (.t 10), none⟩, .o ⟨(some 46), none, false, .load 2 true (.t 6), none⟩, .o ⟨(some 47), none, false, .call 17 [(.t 45), (.t 46)], none⟩, .o ⟨(some 48), none, false, .un .not (.t 47), none⟩, .o ⟨(some 49), none, false, .mv (.t 48), none⟩, .o ⟨(some 50), (some (49, false)), false, .mv (.t 11), none⟩, .o ⟨(some 51), (some (49, false)), false, .mv (.t 7), none⟩, .o ⟨(some 52), (some (49, false)), false, .bin .neq (.t 50) (.t 51), none⟩, .o ⟨(some 53), none, false, .pick (.t 49) (.c (.bool true)) (.t 52), (some [2, 3, 6, 7, 8, 9, 10, 11, 53])⟩]
abbrev k7_o13 : List AJ := [.o ⟨(some 4), none, false, .mv (.c (.bool false)), (some [4])⟩]
def k7_20 : ACode := .seq (.region k7_o13) .ret
def k7_21 : ACode := .cond (.t 53) k7_20 .skip
def k7_22 : ACode := .seq (.region k7_o12) k7_21
abbrev k7_o14 : List AI := [⟨(some 54), none, false, .load 2 true (.t 8), none⟩, ⟨(some 55), none, false, .load 2 true (.t 2), none⟩, ⟨(some 56), none, false, .call 15 [(.t 55)], none⟩, ⟨(some 57), none, false, .call 17 [(.t 54), (.t 56)], none⟩, ⟨(some 58), none, false, .un .not (.t 57), (some [2, 3, 6, 7, 8, 9, 10, 11, 58])⟩]
abbrev k7_o15 : List AJ := [.o ⟨(some 4), none, false, .mv (.c (.bool false)), (some [4])⟩]
def k7_25 : ACode := .seq (.region k7_o15) .ret
def k7_26 : ACode := .cond (.t 58) k7_25 .skip
def k7_27 : ACode := .seq (.draw k7_o14 [] rfl) k7_26
abbrev k7_o16 : List AI := [⟨(some 59), none, false, .load 1 true (.t 9), none⟩, ⟨(some 60), none, false, .load 1 true (.t 3), none⟩, ⟨(some 61), none, false, .call 34 [(.t 60)], none⟩, ⟨(some 62), none, false, .call 26 [(.t 59), (.t 61)], none⟩, ⟨(some 63), none, false, .un .not (.t 62), (some [2, 3, 6, 7, 8, 9, 10, 11, 63])⟩]
abbrev k7_o17 : List AJ := [.o ⟨(some 4), none, false, .mv (.c (.bool false)), (some [4])⟩]
def k7_30 : ACode := .seq (.region k7_o17) .ret
def k7_31 : ACode := .cond (.t 63) k7_30 .skip
def k7_32 : ACode := .seq (.draw k7_o16 [] rfl) k7_31
abbrev k7_o18 : List AJ := [.o ⟨(some 12), none, false, .mv (.c (.int .i64 1)), (some [2, 3, 6, 7, 8, 9, 10, 11, 12])⟩]
abbrev k7_o19 : List AJ := [.o ⟨(some 64), none, false, .load 2 true (.t 8), none⟩, .o ⟨(some 65), none, false, .mv (.t 12), none⟩, .o ⟨(some 66), none, false, .call 21 [(.t 64), (.t 65)], none⟩, .o ⟨(some 12), none, false, .mv (.t 66), (some [2, 3, 6, 7, 9, 10, 11, 12])⟩]
abbrev k7_o20 : List AJ := [.o ⟨(some 67), none, false, .load 1 true (.t 9), none⟩, .o ⟨(some 68), none, false, .mv (.t 12), none⟩, .o ⟨(some 69), none, false, .call 27 [(.t 67), (.t 68)], none⟩, .o ⟨(some 12), none, false, .mv (.t 69), (some [2, 3, 6, 7, 10, 11, 12])⟩]
abbrev k7_o21 : List AJ := [.o ⟨(some 70), none, false, .mv (.t 12), none⟩, .o ⟨(some 71), none, false, .bin .lss (.t 70) (.c (.int .i64 0)), none⟩, .o ⟨(some 72), none, false, .mv (.t 71), none⟩, .o ⟨(some 73), (some (72, false)), false, .load 2 true (.t 10), none⟩, .o ⟨(some 74), (some (72, false)), false, .load 2 true (.t 6), none⟩, .o ⟨(some 75), (some (72, false)), false, .call 17 [(.t 73), (.t 74)], none⟩, .o ⟨(some 76), (some (72, false)), false, .un .not (.t 75), none⟩, .o ⟨(some 77), none, false, .pick (.t 72) (.c (.bool true)) (.t 76), none⟩, .o ⟨(some 78), none, false, .mv (.t 77), none⟩, .o ⟨(some 79), (some (78, false)), false, .mv (.t 11), (some [2, 3, 6, 7, 10, 78, 79])⟩, .o ⟨(some 80), (some (78, false)), false, .mv (.t 7), none⟩, .o ⟨(some 81), (some (78, false)), false, .bin .neq (.t 79) (.t 80), none⟩, .o ⟨(some 82), none, false, .pick (.t 78) (.c (.bool true)) (.t 81), (some [2, 3, 6, 7, 10, 82])⟩]
abbrev k7_o22 : List AJ := [.o ⟨(some 4), none, false, .mv (.c (.bool false)), (some [4])⟩]
def k7_38 : ACode := .seq (.region k7_o22) .ret
def k7_39 : ACode := .cond (.t 82) k7_38 .skip
def k7_40 : ACode := .seq (.region k7_o21) k7_39
abbrev k7_o23 : List AJ := [.o ⟨(some 13), none, false, .mv (.c (.int .i64 1)), (some [2, 3, 6, 7, 10, 13])⟩]
abbrev k7_o24 : List AJ := [.o ⟨(some 83), none, false, .load 2 true (.t 10), none⟩, .o ⟨(some 84), none, false, .mv (.t 13), none⟩, .o ⟨(some 85), none, false, .call 21 [(.t 83), (.t 84)], none⟩, .o ⟨(some 13), none, false, .mv (.t 85), (some [2, 3, 6, 7, 10, 13])⟩]
abbrev k7_o25 : List AJ := [.o ⟨(some 14), none, false, .mv (.c (.int .i64 1)), (some [2, 3, 6, 7, 10, 13, 14])⟩]
abbrev k7_o26 : List AJ := [.o ⟨(some 86), none, false, .load 2 true (.t 10), none⟩, .o ⟨(some 87), none, false, .mv (.t 14), none⟩, .o ⟨(some 88), none, false, .call 31 [(.t 86), (.t 87)], none⟩, .o ⟨(some 14), none, false, .mv (.t 88), (some [2, 3, 6, 7, 10, 13, 14])⟩]
abbrev k7_o27 : List AJ := [.o ⟨(some 89), none, false, .mv (.t 14), none⟩, .o ⟨(some 90), none, false, .bin .lss (.t 89) (.c (.int .i64 0)), (some [2, 3, 6, 7, 10, 13, 14, 90])⟩]
abbrev k7_o28 : List AJ := [.o ⟨(some 4), none, false, .mv (.c (.bool false)), (some [4])⟩]
def k7_47 : ACode := .seq (.region k7_o28) .ret
def k7_48 : ACode := .cond (.t 90) k7_47 .skip
def k7_49 : ACode := .seq (.region k7_o27) k7_48
abbrev k7_o29 : List AJ := [.o ⟨(some 91), none, false, .mv (.t 14), none⟩, .o ⟨(some 92), none, false, .mv (.t 13), none⟩, .o ⟨(some 93), none, false, .bin .neq (.t 91) (.t 92), (some [2, 3, 6, 7, 10, 13, 93])⟩]
abbrev k7_o30 : List AJ := [.o ⟨(some 4), none, false, .mv (.c (.bool false)), (some [4])⟩]
def k7_52 : ACode := .seq (.region k7_o30) .ret
def k7_53 : ACode := .cond (.t 93) k7_52 .skip
def k7_54 : ACode := .seq (.region k7_o29) k7_53
abbrev k7_o31 : List AJ := [.o ⟨(some 95), none, false, .load 2 true (.t 2), none⟩, .o ⟨(some 96), none, true, .call 15 [(.t 95)], none⟩, .o ⟨(some 97), none, false, .load 1 true (.t 3), none⟩, .o ⟨(some 98), none, true, .call 34 [(.t 97)], none⟩, .o ⟨(some 99), none, true, .call 35 [(.t 96), (.t 98)], none⟩, .o ⟨(some 94), none, false, .mv (.t 99), none⟩, .o ⟨(some 100), none, false, .extract (.t 94) 0, none⟩, .o ⟨(some 101), none, false, .extract (.t 94) 1, none⟩, .o ⟨(some 15), none, false, .alloc true 2 (.agg [.nilsl, .nilsl]), none⟩, .o ⟨none, none, false, .store 2 (.t 15) (.t 100), none⟩, .o ⟨(some 16), none, false, .mv (.t 101), (some [6, 7, 10, 13, 15, 16])⟩]
abbrev k7_o32 : List AJ := [.o ⟨(some 102), none, false, .load 2 true (.t 15), none⟩, .o ⟨(some 103), none, false, .load 2 true (.t 6), none⟩, .o ⟨(some 104), none, false, .call 17 [(.t 102), (.t 103)], none⟩, .o ⟨(some 105), none, false, .un .not (.t 104), none⟩, .o ⟨(some 106), none, false, .mv (.t 105), none⟩, .o ⟨(some 107), (some (106, false)), false, .mv (.t 16), none⟩, .o ⟨(some 108), (some (106, false)), false, .mv (.t 7), none⟩, .o ⟨(some 109), (some (106, false)), false, .bin .neq (.t 107) (.t 108), none⟩, .o ⟨(some 110), none, false, .pick (.t 106) (.c (.bool true)) (.t 109), (some [10, 13, 110])⟩]
abbrev k7_o33 : List AJ := [.o ⟨(some 4), none, false, .mv (.c (.bool false)), (some [4])⟩]
def k7_58 : ACode := .seq (.region k7_o33) .ret
def k7_59 : ACode := .cond (.t 110) k7_58 .skip
def k7_60 : ACode := .seq (.region k7_o32) k7_59
abbrev k7_o34 : List AJ := [.o ⟨(some 14), none, false, .mv (.c (.int .i64 1)), (some [10, 13, 14])⟩]
abbrev k7_o35 : List AJ := [.o ⟨(some 111), none, false, .load 2 true (.t 10), none⟩, .o ⟨(some 112), none, false, .mv (.t 14), none⟩, .o ⟨(some 113), none, false, .call 31 [(.t 111), (.t 112)], none⟩, .o ⟨(some 14), none, false, .mv (.t 113), (some [13, 14])⟩]
abbrev k7_o36 : List AJ := [.o ⟨(some 114), none, false, .mv (.t 14), none⟩, .o ⟨(some 115), none, false, .bin .lss (.t 114) (.c (.int .i64 0)), (some [13, 14, 115])⟩]
abbrev k7_o37 : List AJ := [.o ⟨(some 4), none, false, .mv (.c (.bool false)), (some [4])⟩]
def k7_65 : ACode := .seq (.region k7_o37) .ret
def k7_66 : ACode := .cond (.t 115) k7_65 .skip
def k7_67 : ACode := .seq (.region k7_o36) k7_66
abbrev k7_o38 : List AJ := [.o ⟨(some 116), none, false, .mv (.t 14), none⟩, .o ⟨(some 117), none, false, .mv (.t 13), none⟩, .o ⟨(some 118), none, false, .bin .neq (.t 116) (.t 117), (some [118])⟩]
abbrev k7_o39 : List AJ := [.o ⟨(some 4), none, false, .mv (.c (.bool false)), (some [4])⟩]
def k7_70 : ACode := .seq (.region k7_o39) .ret
def k7_71 : ACode := .cond (.t 118) k7_70 .skip
def k7_72 : ACode := .seq (.region k7_o38) k7_71
abbrev k7_o40 : List AJ := [.o ⟨(some 4), none, false, .mv (.c (.bool true)), (some [4])⟩]
def k7_74 : ACode := .seq (.region k7_o40) .ret
def k7_75 : ACode := .seq k7_72 k7_74
def k7_76 : ACode := .seq k7_67 k7_75
def k7_77 : ACode := .seq (.region k7_o35) k7_76
def k7_78 : ACode := .seq (.region k7_o34) k7_77
def k7_79 : ACode := .seq k7_60 k7_78
def k7_80 : ACode := .seq (.drawT 1 k7_o31 rfl) (.cut k7_79)
def k7_81 : ACode := .seq k7_54 k7_80
def k7_82 : ACode := .seq k7_49 k7_81
def k7_83 : ACode := .seq (.region k7_o26) k7_82
def k7_84 : ACode := .seq (.region k7_o25) k7_83
def k7_85 : ACode := .seq (.region k7_o24) k7_84
def k7_86 : ACode := .seq (.region k7_o23) k7_85
def k7_87 : ACode := .seq k7_40 k7_86
def k7_88 : ACode := .seq (.region k7_o20) k7_87
def k7_89 : ACode := .seq (.region k7_o19) k7_88
def k7_90 : ACode := .seq (.region k7_o18) k7_89
def k7_91 : ACode := .seq k7_32 k7_90
def k7_92 : ACode := .seq k7_27 k7_91
def k7_93 : ACode := .seq k7_22 k7_92
def k7_94 : ACode := .seq (.region k7_o11) k7_93
def k7_95 : ACode := .seq (.region k7_o10) k7_94
def k7_96 : ACode := .seq (.region k7_o9) k7_95
def k7_97 : ACode := .seq (.drawT 1 k7_o8 rfl) (.cut k7_96)
def k7_98 : ACode := .seq k7_13 k7_97
def k7_99 : ACode := .seq (.region k7_o5) k7_98
def k7_100 : ACode := .seq k7_7 k7_99
def k7_101 : ACode := .seq (.region k7_o2) k7_100
def k7_102 : ACode := .seq (.region k7_o1) k7_101
def k7_103 : ACode := .seq (.region k7_o0) k7_102
@[simp, simp ↓] theorem k7_5r : sR k7_5 k7_o4 .ret := yR rfl
@[simp, simp ↓] theorem k7_6r : rC k7_6 (.t 21) k7_5 .skip := zC rfl
@[simp, simp ↓] theorem k7_7r : sR k7_7 k7_o3 k7_6 := yR rfl
@[simp, simp ↓] theorem k7_11r : sR k7_11 k7_o7 .ret := yR rfl
@[simp, simp ↓] theorem k7_12r : rC k7_12 (.t 26) k7_11 .skip := zC rfl
@[simp, simp ↓] theorem k7_13r : sR k7_13 k7_o6 k7_12 := yR rfl
@[simp, simp ↓] theorem k7_20r : sR k7_20 k7_o13 .ret := yR rfl
@[simp, simp ↓] theorem k7_21r : rC k7_21 (.t 53) k7_20 .skip := zC rfl
@[simp, simp ↓] theorem k7_22r : sR k7_22 k7_o12 k7_21 := yR rfl
@[simp, simp ↓] theorem k7_25r : sR k7_25 k7_o15 .ret := yR rfl
@[simp, simp ↓] theorem k7_26r : rC k7_26 (.t 58) k7_25 .skip := zC rfl
@[simp, simp ↓] theorem k7_27r : sD k7_27 k7_o14 [] k7_26 := yD rfl
@[simp, simp ↓] theorem k7_30r : sR k7_30 k7_o17 .ret := yR rfl
@[simp, simp ↓] theorem k7_31r : rC k7_31 (.t 63) k7_30 .skip := zC rfl
@[simp, simp ↓] theorem k7_32r : sD k7_32 k7_o16 [] k7_31 := yD rfl
@[simp, simp ↓] theorem k7_38r : sR k7_38 k7_o22 .ret := yR rfl
@[simp, simp ↓] theorem k7_39r : rC k7_39 (.t 82) k7_38 .skip := zC rfl
@[simp, simp ↓] theorem k7_40r : sR k7_40 k7_o21 k7_39 := yR rfl
@[simp, simp ↓] theorem k7_47r : sR k7_47 k7_o28 .ret := yR rfl
@[simp, simp ↓] theorem k7_48r : rC k7_48 (.t 90) k7_47 .skip := zC rfl
@[simp, simp ↓] theorem k7_49r : sR k7_49 k7_o27 k7_48 := yR rfl
@[simp, simp ↓] theorem k7_52r : sR k7_52 k7_o30 .ret := yR rfl
@[simp, simp ↓] theorem k7_53r : rC k7_53 (.t 93) k7_52 .skip := zC rfl
@[simp, simp ↓] theorem k7_54r : sR k7_54 k7_o29 k7_53 := yR rfl
@[simp, simp ↓] theorem k7_58r : sR k7_58 k7_o33 .ret := yR rfl
@[simp, simp ↓] theorem k7_59r : rC k7_59 (.t 110) k7_58 .skip := zC rfl
@[simp, simp ↓] theorem k7_60r : sR k7_60 k7_o32 k7_59 := yR rfl
@[simp, simp ↓] theorem k7_65r : sR k7_65 k7_o37 .ret := yR rfl
@[simp, simp ↓] theorem k7_66r : rC k7_66 (.t 115) k7_65 .skip := zC rfl
@[simp, simp ↓] theorem k7_67r : sR k7_67 k7_o36 k7_66 := yR rfl
@[simp, simp ↓] theorem k7_70r : sR k7_70 k7_o39 .ret := yR rfl
@[simp, simp ↓] theorem k7_71r : rC k7_71 (.t 118) k7_70 .skip := zC rfl
@[simp, simp ↓] theorem k7_72r : sR k7_72 k7_o38 k7_71 := yR rfl
@[simp, simp ↓] theorem k7_74r : sR k7_74 k7_o40 .ret := yR rfl
@[simp, simp ↓] theorem k7_75r : rS k7_75 k7_72 k7_74 := zS rfl
@[simp, simp ↓] theorem k7_76r : rS k7_76 k7_67 k7_75 := zS rfl
@[simp, simp ↓] theorem k7_77r : sR k7_77 k7_o35 k7_76 := yR rfl
@[simp, simp ↓] theorem k7_78r : sR k7_78 k7_o34 k7_77 := yR rfl
@[simp, simp ↓] theorem k7_79r : rS k7_79 k7_60 k7_78 := zS rfl
@[simp, simp ↓] theorem k7_80r : sT k7_80 k7_o31 (.cut k7_79) := yT rfl
@[simp, simp ↓] theorem k7_81r : rS k7_81 k7_54 k7_80 := zS rfl
@[simp, simp ↓] theorem k7_82r : rS k7_82 k7_49 k7_81 := zS rfl
@[simp, simp ↓] theorem k7_83r : sR k7_83 k7_o26 k7_82 := yR rfl
@[simp, simp ↓] theorem k7_84r : sR k7_84 k7_o25 k7_83 := yR rfl
@[simp, simp ↓] theorem k7_85r : sR k7_85 k7_o24 k7_84 := yR rfl
@[simp, simp ↓] theorem k7_86r : sR k7_86 k7_o23 k7_85 := yR rfl
@[simp, simp ↓] theorem k7_87r : rS k7_87 k7_40 k7_86 := zS rfl
@[simp, simp ↓] theorem k7_88r : sR k7_88 k7_o20 k7_87 := yR rfl
@[simp, simp ↓] theorem k7_89r : sR k7_89 k7_o19 k7_88 := yR rfl
@[simp, simp ↓] theorem k7_90r : sR k7_90 k7_o18 k7_89 := yR rfl
@[simp, simp ↓] theorem k7_91r : rS k7_91 k7_32 k7_90 := zS rfl
@[simp, simp ↓] theorem k7_92r : rS k7_92 k7_27 k7_91 := zS rfl
@[simp, simp ↓] theorem k7_93r : rS k7_93 k7_22 k7_92 := zS rfl
@[simp, simp ↓] theorem k7_94r : sR k7_94 k7_o11 k7_93 := yR rfl
@[simp, simp ↓] theorem k7_95r : sR k7_95 k7_o10 k7_94 := yR rfl
@[simp, simp ↓] theorem k7_96r : sR k7_96 k7_o9 k7_95 := yR rfl
@[simp, simp ↓] theorem k7_97r : sT k7_97 k7_o8 (.cut k7_96) := yT rfl
@[simp, simp ↓] theorem k7_98r : rS k7_98 k7_13 k7_97 := zS rfl
@[simp, simp ↓] theorem k7_99r : sR k7_99 k7_o5 k7_98 := yR rfl
@[simp, simp ↓] theorem k7_100r : rS k7_100 k7_7 k7_99 := zS rfl
@[simp, simp ↓] theorem k7_101r : sR k7_101 k7_o2 k7_100 := yR rfl
@[simp, simp ↓] theorem k7_102r : sR k7_102 k7_o1 k7_101 := yR rfl
@[simp, simp ↓] theorem k7_103r : sR k7_103 k7_o0 k7_102 := yR rfl
noncomputable abbrev k7_C : Orc → Cx := mkC Try.prog [6, 8, 9, 10, 15] 7 119 [.tmp 4]
theorem k7_of : OfP Try.prog Try.f7 7 119 k7_C k7_103 := @ofP _ _ _ _ _ _ _ _ Try.func7 (by decide +kernel) rfl (by kernel_rfl) rfl (by kernel_rfl)
theorem k7_of0 : OfP0 Try.prog Try.f7 7 119 k7_C k7_103 := @ofP0 _ _ _ _ _ _ _ _ Try.func7 (by decide +kernel) rfl (by kernel_rfl) rfl (by kernel_rfl)
theorem re_law (x : Fil) (hx : x.wf) (q : LS) (hq : wfSS q) : ACalls Try.prog 7 [x.av, (cx q)] [] (fun v h' => v = .bool true ∧ h' = []) := by
  refine k7_of rfl orcMRe_p fun I => ?_
  have hx2_x := hx
  have hx2_q := hq
  refine Run2.of I 1000 ?_
  by_cases kx : (x.tot : Int) ≤ (1048576 : Int)
  · have hAx : ¬ (1048576 : Int) < x.tot := by omega
    have hBx : ¬ (1048576 : Int) - x.tot < 0 := by omega
    have hCx : (0 : Int) ≤ (1048576 : Int) - x.tot := by omega
    have lx : x.tot ≤ 1048576 := by omega
    have hDx : (1048576 : Int) - x.tot ≤ 1048576 := by omega
    by_cases kq : ((ssTot q) : Int) ≤ ((1048576 : Int) - x.tot)
    · have hAq : ¬ ((1048576 : Int) - x.tot) < (ssTot q) := by omega
      have hBq : ¬ ((1048576 : Int) - x.tot) - (ssTot q) < 0 := by omega
      have hCq : (0 : Int) ≤ ((1048576 : Int) - x.tot) - (ssTot q) := by omega
      have lq : (ssTot q) ≤ 1048576 := by omega
      have hDq : ((1048576 : Int) - x.tot) - (ssTot q) ≤ 1048576 := by omega
      have hct := x.reF_tot q
      have hcs := (x.reF q).cnt_le
      have hxc := x.cnt_le
      have hqc := sumL_le_tot q
      simp -implicitDefEqProofs [hx2_x, hx2_q, hAx, hBx, hCx, hDx, kx, hAq, hBq, hCq, hDq, kq, lx, lq]
      intro z9
      refine Run2.freeze z9 (by simp [hget]; rfl) ?_
      refine Run2.of I 1000 ?_
      simp -implicitDefEqProofs [fzE, fz, fzs]
      refine (toFil_o x _ lx).monoN ?_
      rintro v0 h' ⟨g0, o0, d0, rfl⟩ n0
      obtain ⟨pu0, pw0, pa0, pb0, rfl, pou0, pow0, phd0, phe0⟩ := id o0
      have c0 := pou0.cell
      have c0_1 := pow0.cell
      refine gK.go ?_
      simp -implicitDefEqProofs [c0, c0_1]
      refine (toCx_o q _ lq).monoN ?_
      rintro v1 h' ⟨g1, o1, d1, rfl⟩ n1
      obtain ⟨pu1, rfl, pou1⟩ := id o1
      have c1 := pou1.cell
      refine gK.go ?_
      simp -implicitDefEqProofs [c0, c0_1, c1]
      have L0 := o0.lentMid (A := g1) (B := []) (by simpa only [List.nil_append, List.append_nil, List.append_assoc] using n1)
      simp only [List.nil_append, List.append_nil, List.append_assoc] at L0
      have L1 := o1.lentMid (A := []) (B := g0) (by simpa only [List.nil_append, List.append_nil, List.append_assoc] using n1)
      refine (ACalls.gives (g1 ++ g0) (fun p hp => hp) (S := fun v h' => ∃ w, v = .tup [w, .int .i64 (x.reCode q)] ∧ OwnFil w (x.reF q) h') ?_ ?_).monoN ?_
      · rw [lend_cons, lend_cons, lend_nil']
        exact ACalls.wk (.cons L0.wk (.cons L1.wk .nil)) (implRe_o x q lx lq)
      · rintro v h' ⟨w, rfl, ho⟩
        have := ho.own
        exact ⟨by simp [own, owns, this.1], this.2⟩
      rintro v h' ⟨gg, ⟨w, rfl, og⟩, dg, rfl⟩ ng
      obtain ⟨qu, qw, qa, qb, rfl, qou, qow, qhd, qhe⟩ := id og
      have cw := qou.cell
      have cw_1 := qow.cell
      refine gK.go ?_
      simp -implicitDefEqProofs [c0, c0_1, c1, cw, cw_1]
      first | refine dcallK (eqFil_own og ((x.reF q).is) (fun p hp => List.mem_append_left _ hp) (show (x.reF q).tot ≤ 1048576 by omega)) ?_ | (refine (eqFil_own og ((x.reF q).is) (fun p hp => List.mem_append_left _ hp) (show (x.reF q).tot ≤ 1048576 by omega)).mono ?_; rintro v h' ⟨rfl, rfl⟩; refine gK.go ?_)
      simp -implicitDefEqProofs [c0, c0_1, c1, cw, cw_1]
      first | refine dcallK (toFil_c x _ lx) ?_ | (refine (toFil_c x _ lx).mono ?_; rintro v h' ⟨rfl, rfl⟩; refine gK.go ?_)
      simp -implicitDefEqProofs [c0, c0_1, c1, cw, cw_1]
      first | refine dcallK (eqFil_own o0 x.is (fun p hp => List.mem_append_right _ (List.mem_append_right _ (hp))) lx) ?_ | (refine (eqFil_own o0 x.is (fun p hp => List.mem_append_right _ (List.mem_append_right _ (hp))) lx).mono ?_; rintro v h' ⟨rfl, rfl⟩; refine gK.go ?_)
      simp -implicitDefEqProofs [c0, c0_1, c1, cw, cw_1]
      first | refine dcallK (toCx_c q _ lq) ?_ | (refine (toCx_c q _ lq).mono ?_; rintro v h' ⟨rfl, rfl⟩; refine gK.go ?_)
      simp -implicitDefEqProofs [c0, c0_1, c1, cw, cw_1]
      first | refine dcallK (eqCx_own o1 (cx_is q) (fun p hp => List.mem_append_right _ (List.mem_append_left _ hp)) lq) ?_ | (refine (eqCx_own o1 (cx_is q) (fun p hp => List.mem_append_right _ (List.mem_append_left _ hp)) lq).mono ?_; rintro v h' ⟨rfl, rfl⟩; refine gK.go ?_)
      simp -implicitDefEqProofs [c0, c0_1, c1, cw, cw_1]
      refine (markFil_drop o0 (gg ++ g1) (fun p hp => List.mem_append_right _ (List.mem_append_right _ (hp))) ?_ ?_ (1) (by omega) (by omega)).monoN ?_
      · simpa only [List.append_assoc] using keepL (a := (gg ++ g1)) (b := g0) (by simpa only [List.append_assoc] using ng)
      · exact fun nd => nodupL (a := (gg ++ g1)) (b := g0) (by simpa only [List.append_assoc] using nd)
      rintro _ _ ⟨e1, e2⟩ nk0
      rw [e1, e2]; rw [e2] at nk0
      refine gK.go ?_
      simp -implicitDefEqProofs [c0, c0_1, c1, cw, cw_1]
      refine (markCx_drop o1 gg (fun p hp => List.mem_append_right _ (hp)) ?_ ?_ (1 + ((x).cnt : Int)) (by omega) (by omega)).monoN ?_
      · simpa only [List.append_assoc] using keepL (a := gg) (b := g1) (by simpa only [List.append_assoc] using nk0)
      · exact fun nd => nodupL (a := gg) (b := g1) (by simpa only [List.append_assoc] using nd)
      rintro _ _ ⟨e1, e2⟩ nk1
      rw [e1, e2]; rw [e2] at nk1
      refine gK.go ?_
      have hk : ¬ (1 + ((x).cnt : Int) + (sumL q : Int)) < 0 := by omega
      simp -implicitDefEqProofs [c0, c0_1, c1, cw, cw_1, hk]
      first | refine dcallK (eqFil_own og ((x.reF q).is) (fun p hp => hp) (show (x.reF q).tot ≤ 1048576 by omega)) ?_ | (refine (eqFil_own og ((x.reF q).is) (fun p hp => hp) (show (x.reF q).tot ≤ 1048576 by omega)).mono ?_; rintro v h' ⟨rfl, rfl⟩; refine gK.go ?_)
      simp -implicitDefEqProofs [c0, c0_1, c1, cw, cw_1]
      skip
      refine (markFil_keep og [] (fun p hp => hp) keepN (fun _ => by simp [dom]) 1 (by omega) (by have := (show (x.reF q).tot ≤ 1048576 by omega); omega)).mono ?_
      rintro _ _ ⟨gm, rfl, om, rfl⟩
      refine gK.go ?_
      simp -implicitDefEqProofs [c0, c0_1, c1, cw, cw_1]
      have hq : ¬ (1 + (((x.reF q)).cnt : Int) < 0) := by omega
      first | refine dcallK (heldFil_own om (fun p hp => hp) 1 (by omega) (by have := (show (x.reF q).tot ≤ 1048576 by omega); simp; omega)) ?_ | (refine (heldFil_own om (fun p hp => hp) 1 (by omega) (by have := (show (x.reF q).tot ≤ 1048576 by omega); simp; omega)).mono ?_; rintro v h' ⟨rfl, rfl⟩; refine gK.go ?_)
      simp -implicitDefEqProofs [c0, c0_1, c1, cw, cw_1, hq, lx, lq]
      intro z8 z8n
      refine Run2.of I 1000 ?_
      simp -implicitDefEqProofs [c0, c0_1, c1, cw, cw_1, hq, lx, lq]
      first | refine dcallK (eqFil_c ((x.reF q)) ((x.reF q)) _ (show (x.reF q).tot ≤ 1048576 by omega)) ?_ | (refine (eqFil_c ((x.reF q)) ((x.reF q)) _ (show (x.reF q).tot ≤ 1048576 by omega)).mono ?_; rintro v h' ⟨rfl, rfl⟩; refine gK.go ?_)
      simp -implicitDefEqProofs [c0, c0_1, c1, cw, cw_1, hq, lx, lq]
      first | refine dcallK (heldFil_own om (fun p hp => List.mem_cons_of_mem _ hp) 1 (by omega) (by have := (show (x.reF q).tot ≤ 1048576 by omega); simp; omega)) ?_ | (refine (heldFil_own om (fun p hp => List.mem_cons_of_mem _ hp) 1 (by omega) (by have := (show (x.reF q).tot ≤ 1048576 by omega); simp; omega)).mono ?_; rintro v h' ⟨rfl, rfl⟩; refine gK.go ?_)
      simp -implicitDefEqProofs [c0, c0_1, c1, cw, cw_1, hq, lx, lq]
      exact Post.none ⟨rfl, rfl⟩
    · have hAq : ((1048576 : Int) - x.tot) < (ssTot q) := by omega
      simp -implicitDefEqProofs [hx2_x, hx2_q, hAx, hBx, hCx, hDx, kx, hAq]
      exact .base ⟨rfl, rfl⟩
  · have hAx : (1048576 : Int) < x.tot := by omega
    simp -implicitDefEqProofs [hx2_x, hx2_q, hAx]
    exact .base ⟨rfl, rfl⟩
end Go.AG
namespace Go.Proofs.Ytamjnegnoijjlaa
open Go.ChangeShapes Go.WideShapes Go.ChangeAt Go.RowKit Go.AG
theorem own : ownKnob Try.prog.godebug = none := by kernel_rfl
theorem laidOut : laidOutB Try.prog = true := by kernel_rfl
set_option maxRecDepth 100000 in
theorem fnExactRestrictFiltration_lifted (os : Os) (started : os.Started) (H : Type) (enc : TypeId × Value → H) :
    ReturnsInHanded {} Try.checked os 7 .any (Rows.fnExactRestrictFiltrationSpec.pre6 enc Try.prog Try.f7 Rows.fnExactRestrictFiltrationRow.domain false) (Rows.fnExactRestrictFiltrationSpec.post enc Try.prog Try.f7 false true false false) := by
  refine returnsInHanded_of_change (C := Try.checked) own started (by kernel_rfl) Try.func7
    (ChangeSpec.witness6 (enc := enc) (C := Try.checked) false ⟨#[], #[.agg #[.slice none 0 0, .slice none 0 0], .agg #[.slice none 0 0]], []⟩ 8 (by kernel_rfl) (by kernel_rfl) (by kernel_rfl) (by kernel_rfl)) ?_
  intro W base args ds gs before hval0 hW _ _
  have hval : ∀ (j : Nat) t v, Try.f7.params[j]? = some t → args[j]? = some v → Value.okWide Try.prog W .any base t v := hval0
  refine law_post (tys := [tyF, tyCx]) (tb := 4) laidOut rfl (by kernel_rfl) (by kernel_rfl) (by kernel_rfl) (by kernel_rfl) hval hW ?_ ?_
  · intro ds h
    match ds, h with
    | [a0, a1], _ => rfl
  · rintro xs ⟨x0, r0, rfl, h0, x1, r1, rfl, h1, hr⟩
    have hr0 : r1 = [] := hr
    subst hr0
    obtain ⟨p0, rfl, q0⟩ := Fil_of_shape h0
    obtain ⟨p1, rfl, q1⟩ := Cx_of_shape h1
    exact re_law p0 q0 p1 q1
theorem fnExactRestrictFiltration_holds : Rows.FnExactRestrictFiltrationSaid :=
  OpenClaim.holds_of_wide 7 Try.f7 rfl rfl rfl rfl rfl rfl rfl ⟨rfl, rfl, rfl, rfl, rfl⟩ rfl rfl rfl rfl rfl (by kernel_rfl) Try.func7 (by kernel_rfl)
    (of_decide_eq_true (by kernel_rfl)) (by unfold Func.isWrapper; first | (rw [if_pos (by decide +kernel)]; kernel_rfl) | (rw [if_neg (by decide +kernel)]; exact ⟨rfl, rfl⟩))
    (fun os started H enc _ => fnExactRestrictFiltration_lifted os started H enc)
end Go.Proofs.Ytamjnegnoijjlaa
