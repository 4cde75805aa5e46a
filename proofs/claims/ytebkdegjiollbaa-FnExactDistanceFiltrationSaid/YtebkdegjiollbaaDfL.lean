/- The law FnExactDistanceFiltration is true for every input: the program's DistanceFiltration returns what the reference's returns. -/
import Derived.Test.YtebkdegjiollbaaDfE
import Derived.Test.YtebkdegjiollbaaFilL
namespace Go.AG
open Go.Proofs Go.Proofs.Ytebkdegjiollbaa
set_option linter.unusedSimpArgs false
set_option linter.unusedVariables false
set_option maxRecDepth 4000
theorem sumL_le4' {rs : List (List Int)} (h : ∀ r ∈ rs, r.length ≤ 4) : sumL rs ≤ 4 * rs.length := by
  induction rs with
  | nil => simp [sumL]
  | cons a l ih =>
    have h1 := ih fun r hr => h r (List.mem_cons_of_mem _ hr)
    have h2 := h a (List.mem_cons_self ..)
    simp only [sumL, List.map_cons, List.sum_cons, List.length_cons] at h1 ⊢
    omega
theorem dfF_tot (rs : LS) (d : Int) : (dfF rs d).tot ≤ 1048576 := by
  unfold dfF
  split
  · rename_i h
    unfold dfCode at h
    split at h
    · split at h
      · split at h
        · omega
        · rename_i h1 h2 h3
          have h4 := sumL_le4' (rs := dfN rs.length (d + 1).toNat) fun r hr => by have := (dfN_in hr).2; omega
          simp only [dfT, Fil.tot, ssTot, List.length_map]
          omega
      · omega
    · omega
  · simp [Fil.tot, ssTot, sumL]
abbrev k7_o0 : List AJ := [.o ⟨(some 4), none, false, .mv (.c (.bool false)), (some [0, 1])⟩]
abbrev k7_o1 : List AJ := [.o ⟨(some 5), none, false, .mv (.c (.int .i64 1048576)), (some [0, 1, 5])⟩]
abbrev k7_o2 : List AJ := [.o ⟨(some 16), none, false, .mv (.t 0), none⟩, .o ⟨(some 17), none, false, .mv (.t 5), none⟩, .o ⟨(some 18), none, false, .call 36 [(.t 16), (.t 17)], none⟩, .o ⟨(some 5), none, false, .mv (.t 18), (some [0, 1, 5])⟩]
abbrev k7_o3 : List AJ := [.o ⟨(some 19), none, false, .mv (.t 5), none⟩, .o ⟨(some 20), none, false, .bin .lss (.t 19) (.c (.int .i64 0)), (some [0, 1, 20])⟩]
abbrev k7_o4 : List AJ := [.o ⟨(some 4), none, false, .mv (.c (.bool true)), (some [4])⟩]
def k7_5 : ACode := .seq (.region k7_o4) .ret
def k7_6 : ACode := .cond (.t 20) k7_5 .skip
def k7_7 : ACode := .seq (.region k7_o3) k7_6
abbrev k7_o5 : List AJ := [.o ⟨(some 22), none, false, .mv (.t 0), none⟩, .o ⟨(some 23), none, false, .call 38 [(.t 22)], none⟩, .o ⟨(some 24), none, false, .mv (.t 1), none⟩, .o ⟨(some 25), none, false, .call 37 [(.t 23), (.t 24)], none⟩, .o ⟨(some 21), none, false, .mv (.t 25), none⟩, .o ⟨(some 26), none, false, .extract (.t 21) 0, none⟩, .o ⟨(some 27), none, false, .extract (.t 21) 1, none⟩, .v 6 2 (.agg [.nilsl, .nilsl]) [] (.t 26) none, .o ⟨(some 7), none, false, .mv (.t 27), (some [0, 1, 6, 7])⟩]
abbrev k7_o6 : List AJ := [.o ⟨(some 28), none, false, .mv (.t 0), none⟩, .o ⟨(some 29), none, false, .call 38 [(.t 28)], none⟩, .o ⟨(some 8), none, false, .mv (.t 29), (some [0, 1, 6, 7, 8])⟩]
abbrev k7_o7 : List AJ := [.o ⟨(some 31), none, false, .mv (.t 8), none⟩, .o ⟨(some 32), none, false, .mv (.t 1), none⟩, .o ⟨(some 33), none, false, .call 39 [(.t 31), (.t 32)], none⟩, .o ⟨(some 30), none, false, .mv (.t 33), none⟩, .o ⟨(some 34), none, false, .extract (.t 30) 0, none⟩, .o ⟨(some 35), none, false, .extract (.t 30) 1, none⟩, .v 9 2 (.agg [.nilsl, .nilsl]) [] (.t 34) none, .o ⟨(some 10), none, false, .mv (.t 35), (some [0, 1, 6, 7, 8, 9, 10])⟩]
abbrev k7_o8 : List AJ := [.o ⟨(some 36), none, false, .load 2 true (.t 9), none⟩, .o ⟨(some 37), none, false, .load 2 true (.t 6), none⟩, .o ⟨(some 38), none, false, .call 40 [(.t 36), (.t 37)], none⟩, .o ⟨(some 39), none, false, .un .not (.t 38), none⟩, .o ⟨(some 40), none, false, .mv (.t 39), none⟩, .o ⟨(some 41), (some (40, false)), false, .mv (.t 10), none⟩, .o ⟨(some 42), (some (40, false)), false, .mv (.t 7), none⟩, .o ⟨(some 43), (some (40, false)), false, .bin .neq (.t 41) (.t 42), none⟩, .o ⟨(some 44), none, false, .pick (.t 40) (.c (.bool true)) (.t 43), (some [0, 1, 6, 7, 8, 9, 10, 44])⟩]
abbrev k7_o9 : List AJ := [.o ⟨(some 4), none, false, .mv (.c (.bool false)), (some [4])⟩]
def k7_13 : ACode := .seq (.region k7_o9) .ret
def k7_14 : ACode := .cond (.t 44) k7_13 .skip
def k7_15 : ACode := .seq (.region k7_o8) k7_14
abbrev k7_o10 : List AJ := [.o ⟨(some 45), none, false, .mv (.t 8), none⟩, .o ⟨(some 46), none, false, .mv (.t 0), none⟩, .o ⟨(some 47), none, false, .call 38 [(.t 46)], none⟩, .o ⟨(some 48), none, false, .call 12 [(.t 45), (.t 47)], none⟩, .o ⟨(some 49), none, false, .un .not (.t 48), (some [0, 1, 6, 7, 8, 9, 10, 49])⟩]
abbrev k7_o11 : List AJ := [.o ⟨(some 4), none, false, .mv (.c (.bool false)), (some [4])⟩]
def k7_18 : ACode := .seq (.region k7_o11) .ret
def k7_19 : ACode := .cond (.t 49) k7_18 .skip
def k7_20 : ACode := .seq (.region k7_o10) k7_19
abbrev k7_o12 : List AJ := [.o ⟨(some 11), none, false, .mv (.c (.int .i64 1)), (some [0, 1, 6, 7, 8, 9, 10, 11])⟩]
abbrev k7_o13 : List AJ := [.o ⟨(some 50), none, false, .mv (.t 8), none⟩, .o ⟨(some 51), none, false, .mv (.t 11), none⟩, .o ⟨(some 52), none, false, .call 15 [(.t 50), (.t 51)], none⟩, .o ⟨(some 11), none, false, .mv (.t 52), (some [0, 1, 6, 7, 9, 10, 11])⟩]
abbrev k7_o14 : List AJ := [.o ⟨(some 53), none, false, .mv (.t 11), none⟩, .o ⟨(some 54), none, false, .bin .lss (.t 53) (.c (.int .i64 0)), none⟩, .o ⟨(some 55), none, false, .mv (.t 54), none⟩, .o ⟨(some 56), (some (55, false)), false, .load 2 true (.t 9), none⟩, .o ⟨(some 57), (some (55, false)), false, .load 2 true (.t 6), none⟩, .o ⟨(some 58), (some (55, false)), false, .call 40 [(.t 56), (.t 57)], none⟩, .o ⟨(some 59), (some (55, false)), false, .un .not (.t 58), none⟩, .o ⟨(some 60), none, false, .pick (.t 55) (.c (.bool true)) (.t 59), none⟩, .o ⟨(some 61), none, false, .mv (.t 60), none⟩, .o ⟨(some 62), (some (61, false)), false, .mv (.t 10), (some [0, 1, 6, 7, 9, 61, 62])⟩, .o ⟨(some 63), (some (61, false)), false, .mv (.t 7), none⟩, .o ⟨(some 64), (some (61, false)), false, .bin .neq (.t 62) (.t 63), none⟩, .o ⟨(some 65), none, false, .pick (.t 61) (.c (.bool true)) (.t 64), (some [0, 1, 6, 7, 9, 65])⟩]
abbrev k7_o15 : List AJ := [.o ⟨(some 4), none, false, .mv (.c (.bool false)), (some [4])⟩]
def k7_25 : ACode := .seq (.region k7_o15) .ret
def k7_26 : ACode := .cond (.t 65) k7_25 .skip
def k7_27 : ACode := .seq (.region k7_o14) k7_26
abbrev k7_o16 : List AJ := [.o ⟨(some 12), none, false, .mv (.c (.int .i64 1)), (some [0, 1, 6, 7, 9, 12])⟩]
abbrev k7_o17 : List AJ := [.o ⟨(some 66), none, false, .load 2 true (.t 9), none⟩, .o ⟨(some 67), none, false, .mv (.t 12), none⟩, .o ⟨(some 68), none, false, .call 41 [(.t 66), (.t 67)], none⟩, .o ⟨(some 12), none, false, .mv (.t 68), (some [0, 1, 6, 7, 9, 12])⟩]
abbrev k7_o18 : List AJ := [.o ⟨(some 13), none, false, .mv (.c (.int .i64 1)), (some [0, 1, 6, 7, 9, 12, 13])⟩]
abbrev k7_o19 : List AJ := [.o ⟨(some 69), none, false, .load 2 true (.t 9), none⟩, .o ⟨(some 70), none, false, .mv (.t 13), none⟩, .o ⟨(some 71), none, false, .call 42 [(.t 69), (.t 70)], none⟩, .o ⟨(some 13), none, false, .mv (.t 71), (some [0, 1, 6, 7, 9, 12, 13])⟩]
abbrev k7_o20 : List AJ := [.o ⟨(some 72), none, false, .mv (.t 13), none⟩, .o ⟨(some 73), none, false, .bin .lss (.t 72) (.c (.int .i64 0)), (some [0, 1, 6, 7, 9, 12, 13, 73])⟩]
abbrev k7_o21 : List AJ := [.o ⟨(some 4), none, false, .mv (.c (.bool false)), (some [4])⟩]
def k7_34 : ACode := .seq (.region k7_o21) .ret
def k7_35 : ACode := .cond (.t 73) k7_34 .skip
def k7_36 : ACode := .seq (.region k7_o20) k7_35
abbrev k7_o22 : List AJ := [.o ⟨(some 74), none, false, .mv (.t 13), none⟩, .o ⟨(some 75), none, false, .mv (.t 12), none⟩, .o ⟨(some 76), none, false, .bin .neq (.t 74) (.t 75), (some [0, 1, 6, 7, 9, 12, 76])⟩]
abbrev k7_o23 : List AJ := [.o ⟨(some 4), none, false, .mv (.c (.bool false)), (some [4])⟩]
def k7_39 : ACode := .seq (.region k7_o23) .ret
def k7_40 : ACode := .cond (.t 76) k7_39 .skip
def k7_41 : ACode := .seq (.region k7_o22) k7_40
abbrev k7_o24 : List AJ := [.o ⟨(some 78), none, false, .mv (.t 0), none⟩, .o ⟨(some 79), none, false, .call 38 [(.t 78)], none⟩, .o ⟨(some 80), none, false, .mv (.t 1), none⟩, .o ⟨(some 81), none, false, .call 39 [(.t 79), (.t 80)], none⟩, .o ⟨(some 77), none, false, .mv (.t 81), none⟩, .o ⟨(some 82), none, false, .extract (.t 77) 0, none⟩, .o ⟨(some 83), none, false, .extract (.t 77) 1, none⟩, .v 14 2 (.agg [.nilsl, .nilsl]) [] (.t 82) none, .o ⟨(some 15), none, false, .mv (.t 83), (some [6, 7, 9, 12, 14, 15])⟩]
abbrev k7_o25 : List AJ := [.o ⟨(some 84), none, false, .load 2 true (.t 14), none⟩, .o ⟨(some 85), none, false, .load 2 true (.t 6), none⟩, .o ⟨(some 86), none, false, .call 40 [(.t 84), (.t 85)], none⟩, .o ⟨(some 87), none, false, .un .not (.t 86), none⟩, .o ⟨(some 88), none, false, .mv (.t 87), none⟩, .o ⟨(some 89), (some (88, false)), false, .mv (.t 15), none⟩, .o ⟨(some 90), (some (88, false)), false, .mv (.t 7), none⟩, .o ⟨(some 91), (some (88, false)), false, .bin .neq (.t 89) (.t 90), none⟩, .o ⟨(some 92), none, false, .pick (.t 88) (.c (.bool true)) (.t 91), (some [9, 12, 92])⟩]
abbrev k7_o26 : List AJ := [.o ⟨(some 4), none, false, .mv (.c (.bool false)), (some [4])⟩]
def k7_45 : ACode := .seq (.region k7_o26) .ret
def k7_46 : ACode := .cond (.t 92) k7_45 .skip
def k7_47 : ACode := .seq (.region k7_o25) k7_46
abbrev k7_o27 : List AJ := [.o ⟨(some 13), none, false, .mv (.c (.int .i64 1)), (some [9, 12, 13])⟩]
abbrev k7_o28 : List AJ := [.o ⟨(some 93), none, false, .load 2 true (.t 9), none⟩, .o ⟨(some 94), none, false, .mv (.t 13), none⟩, .o ⟨(some 95), none, false, .call 42 [(.t 93), (.t 94)], none⟩, .o ⟨(some 13), none, false, .mv (.t 95), (some [12, 13])⟩]
abbrev k7_o29 : List AJ := [.o ⟨(some 96), none, false, .mv (.t 13), none⟩, .o ⟨(some 97), none, false, .bin .lss (.t 96) (.c (.int .i64 0)), (some [12, 13, 97])⟩]
abbrev k7_o30 : List AJ := [.o ⟨(some 4), none, false, .mv (.c (.bool false)), (some [4])⟩]
def k7_52 : ACode := .seq (.region k7_o30) .ret
def k7_53 : ACode := .cond (.t 97) k7_52 .skip
def k7_54 : ACode := .seq (.region k7_o29) k7_53
abbrev k7_o31 : List AJ := [.o ⟨(some 98), none, false, .mv (.t 13), none⟩, .o ⟨(some 99), none, false, .mv (.t 12), none⟩, .o ⟨(some 100), none, false, .bin .neq (.t 98) (.t 99), (some [100])⟩]
abbrev k7_o32 : List AJ := [.o ⟨(some 4), none, false, .mv (.c (.bool false)), (some [4])⟩]
def k7_57 : ACode := .seq (.region k7_o32) .ret
def k7_58 : ACode := .cond (.t 100) k7_57 .skip
def k7_59 : ACode := .seq (.region k7_o31) k7_58
abbrev k7_o33 : List AJ := [.o ⟨(some 4), none, false, .mv (.c (.bool true)), (some [4])⟩]
def k7_61 : ACode := .seq (.region k7_o33) .ret
def k7_62 : ACode := .seq k7_59 k7_61
def k7_63 : ACode := .seq k7_54 k7_62
def k7_64 : ACode := .seq (.region k7_o28) k7_63
def k7_65 : ACode := .seq (.region k7_o27) k7_64
def k7_66 : ACode := .seq k7_47 k7_65
def k7_67 : ACode := .seq (.region k7_o24) k7_66
def k7_68 : ACode := .seq k7_41 k7_67
def k7_69 : ACode := .seq k7_36 k7_68
def k7_70 : ACode := .seq (.region k7_o19) k7_69
def k7_71 : ACode := .seq (.region k7_o18) k7_70
def k7_72 : ACode := .seq (.region k7_o17) k7_71
def k7_73 : ACode := .seq (.region k7_o16) k7_72
def k7_74 : ACode := .seq k7_27 k7_73
def k7_75 : ACode := .seq (.region k7_o13) k7_74
def k7_76 : ACode := .seq (.region k7_o12) k7_75
def k7_77 : ACode := .seq k7_20 k7_76
def k7_78 : ACode := .seq k7_15 k7_77
def k7_79 : ACode := .seq (.region k7_o7) k7_78
def k7_80 : ACode := .seq (.region k7_o6) k7_79
def k7_81 : ACode := .seq (.region k7_o5) k7_80
def k7_82 : ACode := .seq k7_7 k7_81
def k7_83 : ACode := .seq (.region k7_o2) k7_82
def k7_84 : ACode := .seq (.region k7_o1) k7_83
def k7_85 : ACode := .seq (.region k7_o0) k7_84
@[simp, simp ↓] theorem k7_5r : sR k7_5 k7_o4 .ret := yR rfl
@[simp, simp ↓] theorem k7_6r : rC k7_6 (.t 20) k7_5 .skip := zC rfl
@[simp, simp ↓] theorem k7_7r : sR k7_7 k7_o3 k7_6 := yR rfl
@[simp, simp ↓] theorem k7_13r : sR k7_13 k7_o9 .ret := yR rfl
@[simp, simp ↓] theorem k7_14r : rC k7_14 (.t 44) k7_13 .skip := zC rfl
@[simp, simp ↓] theorem k7_15r : sR k7_15 k7_o8 k7_14 := yR rfl
@[simp, simp ↓] theorem k7_18r : sR k7_18 k7_o11 .ret := yR rfl
@[simp, simp ↓] theorem k7_19r : rC k7_19 (.t 49) k7_18 .skip := zC rfl
@[simp, simp ↓] theorem k7_20r : sR k7_20 k7_o10 k7_19 := yR rfl
@[simp, simp ↓] theorem k7_25r : sR k7_25 k7_o15 .ret := yR rfl
@[simp, simp ↓] theorem k7_26r : rC k7_26 (.t 65) k7_25 .skip := zC rfl
@[simp, simp ↓] theorem k7_27r : sR k7_27 k7_o14 k7_26 := yR rfl
@[simp, simp ↓] theorem k7_34r : sR k7_34 k7_o21 .ret := yR rfl
@[simp, simp ↓] theorem k7_35r : rC k7_35 (.t 73) k7_34 .skip := zC rfl
@[simp, simp ↓] theorem k7_36r : sR k7_36 k7_o20 k7_35 := yR rfl
@[simp, simp ↓] theorem k7_39r : sR k7_39 k7_o23 .ret := yR rfl
@[simp, simp ↓] theorem k7_40r : rC k7_40 (.t 76) k7_39 .skip := zC rfl
@[simp, simp ↓] theorem k7_41r : sR k7_41 k7_o22 k7_40 := yR rfl
@[simp, simp ↓] theorem k7_45r : sR k7_45 k7_o26 .ret := yR rfl
@[simp, simp ↓] theorem k7_46r : rC k7_46 (.t 92) k7_45 .skip := zC rfl
@[simp, simp ↓] theorem k7_47r : sR k7_47 k7_o25 k7_46 := yR rfl
@[simp, simp ↓] theorem k7_52r : sR k7_52 k7_o30 .ret := yR rfl
@[simp, simp ↓] theorem k7_53r : rC k7_53 (.t 97) k7_52 .skip := zC rfl
@[simp, simp ↓] theorem k7_54r : sR k7_54 k7_o29 k7_53 := yR rfl
@[simp, simp ↓] theorem k7_57r : sR k7_57 k7_o32 .ret := yR rfl
@[simp, simp ↓] theorem k7_58r : rC k7_58 (.t 100) k7_57 .skip := zC rfl
@[simp, simp ↓] theorem k7_59r : sR k7_59 k7_o31 k7_58 := yR rfl
@[simp, simp ↓] theorem k7_61r : sR k7_61 k7_o33 .ret := yR rfl
@[simp, simp ↓] theorem k7_62r : rS k7_62 k7_59 k7_61 := zS rfl
@[simp, simp ↓] theorem k7_63r : rS k7_63 k7_54 k7_62 := zS rfl
@[simp, simp ↓] theorem k7_64r : sR k7_64 k7_o28 k7_63 := yR rfl
@[simp, simp ↓] theorem k7_65r : sR k7_65 k7_o27 k7_64 := yR rfl
@[simp, simp ↓] theorem k7_66r : rS k7_66 k7_47 k7_65 := zS rfl
@[simp, simp ↓] theorem k7_67r : sR k7_67 k7_o24 k7_66 := yR rfl
@[simp, simp ↓] theorem k7_68r : rS k7_68 k7_41 k7_67 := zS rfl
@[simp, simp ↓] theorem k7_69r : rS k7_69 k7_36 k7_68 := zS rfl
@[simp, simp ↓] theorem k7_70r : sR k7_70 k7_o19 k7_69 := yR rfl
@[simp, simp ↓] theorem k7_71r : sR k7_71 k7_o18 k7_70 := yR rfl
@[simp, simp ↓] theorem k7_72r : sR k7_72 k7_o17 k7_71 := yR rfl
@[simp, simp ↓] theorem k7_73r : sR k7_73 k7_o16 k7_72 := yR rfl
@[simp, simp ↓] theorem k7_74r : rS k7_74 k7_27 k7_73 := zS rfl
@[simp, simp ↓] theorem k7_75r : sR k7_75 k7_o13 k7_74 := yR rfl
@[simp, simp ↓] theorem k7_76r : sR k7_76 k7_o12 k7_75 := yR rfl
@[simp, simp ↓] theorem k7_77r : rS k7_77 k7_20 k7_76 := zS rfl
@[simp, simp ↓] theorem k7_78r : rS k7_78 k7_15 k7_77 := zS rfl
@[simp, simp ↓] theorem k7_79r : sR k7_79 k7_o7 k7_78 := yR rfl
@[simp, simp ↓] theorem k7_80r : sR k7_80 k7_o6 k7_79 := yR rfl
@[simp, simp ↓] theorem k7_81r : sR k7_81 k7_o5 k7_80 := yR rfl
@[simp, simp ↓] theorem k7_82r : rS k7_82 k7_7 k7_81 := zS rfl
@[simp, simp ↓] theorem k7_83r : sR k7_83 k7_o2 k7_82 := yR rfl
@[simp, simp ↓] theorem k7_84r : sR k7_84 k7_o1 k7_83 := yR rfl
@[simp, simp ↓] theorem k7_85r : sR k7_85 k7_o0 k7_84 := yR rfl
noncomputable abbrev k7_C : Orc → Cx := mkC Try.prog [6, 9, 14] 7 101 [.tmp 4]
theorem k7_of : OfP Try.prog Try.f7 7 101 k7_C k7_85 := @ofP _ _ _ _ _ _ _ _ Try.func7 (by decide +kernel) rfl (by kernel_rfl) rfl (by kernel_rfl)
theorem k7_of0 : OfP0 Try.prog Try.f7 7 101 k7_C k7_85 := @ofP0 _ _ _ _ _ _ _ _ Try.func7 (by decide +kernel) rfl (by kernel_rfl) rfl (by kernel_rfl)
theorem df_law (x : LS) (hx : wfSS x) (d : Int) (hd : in64 d) : ACalls Try.prog 7 [(.snap 1 (x.map il)), (.int .i64 d)] [] (fun v h' => v = .bool true ∧ h' = []) := by
  refine k7_of rfl orcM_p fun I => ?_
  have hx2_x := hx
  refine Run2.of I 1000 ?_
  by_cases kx : ((ssTot x) : Int) ≤ (1048576 : Int)
  · have hAx : ¬ (1048576 : Int) < (ssTot x) := by omega
    have hBx : ¬ (1048576 : Int) - (ssTot x) < 0 := by omega
    have hCx : (0 : Int) ≤ (1048576 : Int) - (ssTot x) := by omega
    have lx : (ssTot x) ≤ 1048576 := by omega
    have hDx : (1048576 : Int) - (ssTot x) ≤ 1048576 := by omega
    have hct := dfF_tot x d
    have hcs := (dfF x d).cnt_le
    have hsr := (show sumL x ≤ ssTot x by unfold ssTot; omega)
    simp -implicitDefEqProofs [hx2_x, hAx, hBx, hCx, hDx, kx]
    first | refine dcallK (toInt64SS_t x _ lx) ?_ | (refine (toInt64SS_t x _ lx).mono ?_; rintro v h' ⟨rfl, rfl⟩; refine gK.go ?_)
    simp -implicitDefEqProofs
    first | refine dcallK (specDF_c x d _ lx) ?_ | (refine (specDF_c x d _ lx).mono ?_; rintro v h' ⟨rfl, rfl⟩; refine gK.go ?_)
    simp -implicitDefEqProofs
    refine (toInt64SS_n x _ lx).monoN ?_
    rintro v0 h' ⟨g0, o0, d0, rfl⟩ n0
    refine gK.go ?_
    simp -implicitDefEqProofs
    simp only [List.append_nil] at n0
    have L0 := o0.lentMid (A := []) (B := []) (by simpa only [List.nil_append, List.append_nil, List.append_assoc] using n0)
    simp only [List.nil_append, List.append_nil, List.append_assoc] at L0
    refine (ACalls.gives g0 (fun p hp => hp) (S := fun v h' => ∃ w, v = .tup [w, .int .i64 (dfCode x d)] ∧ OwnFil w (dfF x d) h') ?_ ?_).monoN ?_
    · rw [lend_cons, lend_cons, lend_nil', lend1_cold g0 (x := (.int .i64 d)) rfl]
      exact ACalls.wk (.cons L0.wk (.cons (.refl _) .nil)) (implDF_o x d lx)
    · rintro v h' ⟨w, rfl, ho⟩
      have := ho.own
      exact ⟨by simp [own, owns, this.1], this.2⟩
    rintro v h' ⟨gg, ⟨w, rfl, og⟩, dg, rfl⟩ ng
    obtain ⟨qu, qw, qa, qb, rfl, qou, qow, qhd, qhe⟩ := id og
    have cw := qou.cell
    have cw_1 := qow.cell
    refine gK.go ?_
    simp -implicitDefEqProofs [cw, cw_1]
    first | refine dcallK (eqFil_own og ((dfF x d).is) (fun p hp => List.mem_append_left _ hp) (show (dfF x d).tot ≤ 1048576 by omega)) ?_ | (refine (eqFil_own og ((dfF x d).is) (fun p hp => List.mem_append_left _ hp) (show (dfF x d).tot ≤ 1048576 by omega)).mono ?_; rintro v h' ⟨rfl, rfl⟩; refine gK.go ?_)
    simp -implicitDefEqProofs [cw, cw_1]
    first | refine dcallK (toInt64SS_t x _ lx) ?_ | (refine (toInt64SS_t x _ lx).mono ?_; rintro v h' ⟨rfl, rfl⟩; refine gK.go ?_)
    simp -implicitDefEqProofs [cw, cw_1]
    first | refine dcallK (eqL_own o0 (.is x) (fun p hp => List.mem_append_right _ (hp)) lx) ?_ | (refine (eqL_own o0 (.is x) (fun p hp => List.mem_append_right _ (hp)) lx).mono ?_; rintro v h' ⟨rfl, rfl⟩; refine gK.go ?_)
    simp -implicitDefEqProofs [cw, cw_1]
    refine (markL_drop o0 gg (fun p hp => List.mem_append_right _ (hp)) ?_ ?_ (1) (by omega) (by omega)).monoN ?_
    · simpa only [List.append_assoc] using keepL (a := gg) (b := g0) (by simpa only [List.append_assoc] using ng)
    · exact fun nd => nodupL (a := gg) (b := g0) (by simpa only [List.append_assoc] using nd)
    rintro _ _ ⟨e1, e2⟩ nk0
    rw [e1, e2]; rw [e2] at nk0
    refine gK.go ?_
    have hk : ¬ (1 + (sumL x : Int)) < 0 := by omega
    simp -implicitDefEqProofs [cw, cw_1, hk]
    first | refine dcallK (eqFil_own og ((dfF x d).is) (fun p hp => hp) (show (dfF x d).tot ≤ 1048576 by omega)) ?_ | (refine (eqFil_own og ((dfF x d).is) (fun p hp => hp) (show (dfF x d).tot ≤ 1048576 by omega)).mono ?_; rintro v h' ⟨rfl, rfl⟩; refine gK.go ?_)
    simp -implicitDefEqProofs [cw, cw_1]
    skip
    refine (markFil_keep og [] (fun p hp => hp) keepN (fun _ => by simp [dom]) 1 (by omega) (by have := (show (dfF x d).tot ≤ 1048576 by omega); omega)).mono ?_
    rintro _ _ ⟨gm, rfl, om, rfl⟩
    refine gK.go ?_
    simp -implicitDefEqProofs [cw, cw_1]
    have hq : ¬ (1 + (((dfF x d)).cnt : Int) < 0) := by omega
    first | refine dcallK (heldFil_own om (fun p hp => hp) 1 (by omega) (by have := (show (dfF x d).tot ≤ 1048576 by omega); simp; omega)) ?_ | (refine (heldFil_own om (fun p hp => hp) 1 (by omega) (by have := (show (dfF x d).tot ≤ 1048576 by omega); simp; omega)).mono ?_; rintro v h' ⟨rfl, rfl⟩; refine gK.go ?_)
    simp -implicitDefEqProofs [cw, cw_1, hq]
    first | refine dcallK (toInt64SS_t x _ lx) ?_ | (refine (toInt64SS_t x _ lx).mono ?_; rintro v h' ⟨rfl, rfl⟩; refine gK.go ?_)
    simp -implicitDefEqProofs [cw, cw_1]
    refine (ACalls.gives [] (by simp) (S := fun v h' => ∃ w, v = .tup [w, .int .i64 (dfCode x d)] ∧ OwnFil w (dfF x d) h') ?_ ?_).mono ?_
    · exact implDF_o x d lx
    · rintro v h' ⟨w, rfl, ho⟩
      have := ho.own
      exact ⟨by simp [own, owns, this.1], this.2⟩
    rintro _ _ ⟨g9, ⟨w9, rfl, o9⟩, d9, rfl⟩
    obtain ⟨ru, rw, ra, rb, rfl, rou, row, rhd, rhe⟩ := id o9
    have cz := rou.cell
    have cz_1 := row.cell
    refine gK.go ?_
    simp -implicitDefEqProofs [cw, cw_1, hq, cz, cz_1]
    first | refine dcallK (eqFil_own o9 ((dfF x d).is) (fun p hp => List.mem_append_left _ hp) (show (dfF x d).tot ≤ 1048576 by omega)) ?_ | (refine (eqFil_own o9 ((dfF x d).is) (fun p hp => List.mem_append_left _ hp) (show (dfF x d).tot ≤ 1048576 by omega)).mono ?_; rintro v h' ⟨rfl, rfl⟩; refine gK.go ?_)
    simp -implicitDefEqProofs [cw, cw_1, hq, cz, cz_1]
    first | refine dcallK (heldFil_own om (fun p hp => List.mem_append_right _ hp) 1 (by omega) (by have := (show (dfF x d).tot ≤ 1048576 by omega); simp; omega)) ?_ | (refine (heldFil_own om (fun p hp => List.mem_append_right _ hp) 1 (by omega) (by have := (show (dfF x d).tot ≤ 1048576 by omega); simp; omega)).mono ?_; rintro v h' ⟨rfl, rfl⟩; refine gK.go ?_)
    simp -implicitDefEqProofs [cw, cw_1, hq, cz, cz_1]
    exact Post.none ⟨rfl, rfl⟩
  · have hAx : (1048576 : Int) < (ssTot x) := by omega
    simp -implicitDefEqProofs [hx2_x, hAx]
    exact .base ⟨rfl, rfl⟩
end Go.AG
namespace Go.Proofs.Ytebkdegjiollbaa
open Go.ChangeShapes Go.WideShapes Go.ChangeAt Go.RowKit Go.AG
theorem own : ownKnob Try.prog.godebug = none := by kernel_rfl
theorem laidOut : laidOutB Try.prog = true := by kernel_rfl
set_option maxRecDepth 100000 in
theorem fnExactDistanceFiltration_lifted (os : Os) (started : os.Started) (H : Type) (enc : TypeId × Value → H) :
    ReturnsInHanded {} Try.checked os 7 .any (Rows.fnExactDistanceFiltrationSpec.pre6 enc Try.prog Try.f7 Rows.fnExactDistanceFiltrationRow.domain false) (Rows.fnExactDistanceFiltrationSpec.post enc Try.prog Try.f7 false true false false) := by
  refine returnsInHanded_of_change (C := Try.checked) own started (by kernel_rfl) Try.func7
    (ChangeSpec.witness6 (enc := enc) (C := Try.checked) false ⟨#[], #[.slice none 0 0, .int .i64 0], []⟩ 8 (by kernel_rfl) (by kernel_rfl) (by kernel_rfl) (by kernel_rfl)) ?_
  intro W base args ds gs before hval0 hW _ _
  have hval : ∀ (j : Nat) t v, Try.f7.params[j]? = some t → args[j]? = some v → Value.okWide Try.prog W .any base t v := hval0
  refine law_post (tys := [tySS, (.int .i64)]) (tb := 4) laidOut rfl (by kernel_rfl) (by kernel_rfl) (by kernel_rfl) (by kernel_rfl) hval hW ?_ ?_ ⟨fun p hp => by simp [laidV] at hp, fun p hp => by simp [laidS] at hp⟩
  · intro ds h
    match ds, h with
    | [a0, a1], _ => rfl
  · rintro xs ⟨x0, r0, rfl, h0, x1, r1, rfl, h1, hr⟩
    have hr0 : r1 = [] := hr
    subst hr0
    obtain ⟨p0, rfl, q0⟩ := Lists_of_shape h0
    obtain ⟨p1, rfl, q1⟩ := Int_of_shape h1
    exact df_law p0 q0 p1 q1
theorem fnExactDistanceFiltration_holds : Rows.FnExactDistanceFiltrationSaid :=
  OpenClaim.holds_of_wide 7 Try.f7 rfl rfl rfl rfl rfl rfl rfl ⟨rfl, rfl, rfl, rfl, rfl⟩ rfl rfl rfl rfl rfl (by kernel_rfl) Try.func7 (by kernel_rfl)
    (of_decide_eq_true (by kernel_rfl)) (by unfold Func.isWrapper; first | (rw [if_pos (by decide +kernel)]; kernel_rfl) | (rw [if_neg (by decide +kernel)]; exact ⟨rfl, rfl⟩))
    (fun os started H enc _ => fnExactDistanceFiltration_lifted os started H enc)
end Go.Proofs.Ytebkdegjiollbaa
