/- The reference's forest of a graph and the phases along it. No statement is made here. -/
import Derived.Test.YtdjamhallkijmaaPhTurnB
namespace Go.AG
open Go.Proofs Go.Proofs.Ytdjamhallkijmaa
set_option linter.unusedSimpArgs false
set_option linter.unusedVariables false
set_option maxRecDepth 4000
/-- A list that is changed in place: the first v are new. -/
def inpl {α : Type} (l l' : List α) (v : Nat) : List α := l'.take v ++ l.drop v
section
variable {α β : Type} {l l' : List α} {v : Nat}
theorem inpl_len (h : l'.length = l.length) : (inpl l l' v).length = l.length := by simp [inpl]; omega
@[simp] theorem inpl_zero : inpl l l' 0 = l := by simp [inpl]
theorem inpl_end (h : l'.length = l.length) : inpl l l' l.length = l' := by simp [inpl, ← h]
theorem inpl_get (h : l'.length = l.length) (hv : v < l.length) (h2 : v < (inpl l l' v).length) : (inpl l l' v)[v] = l[v] := by
  simp only [inpl]
  rw [List.getElem_append_right (by simp; omega)]
  simp [Nat.min_eq_left (show v ≤ l'.length by omega)]
theorem inpl_old (h : l'.length = l.length) {j : Nat} (hj : j < v) (hv : v < l.length) (h2 : j < (inpl l l' v).length) : (inpl l l' v)[j] = l'[j] := by
  simp only [inpl]
  rw [List.getElem_append_left (by simp; omega)]
  simp
theorem inpl_set (h : l'.length = l.length) (hv : v < l.length) : (inpl l l' v).set v (l'[v]'(h ▸ hv)) = inpl l l' (v + 1) := by
  have h1 : (l'.take v).length = v := by simp; omega
  unfold inpl
  rw [List.take_succ_eq_append_getElem (by omega), List.set_append_right _ _ (by omega), h1, Nat.sub_self, List.drop_eq_getElem_cons hv]
  simp only [List.set_cons_zero, List.append_assoc, List.cons_append, List.nil_append]
theorem inpl_keep (h : l'.length = l.length) (hv : v < l.length) (he : l'[v]'(h ▸ hv) = l[v]) : inpl l l' v = inpl l l' (v + 1) := by
  rw [← inpl_set h hv, he, ← inpl_get h hv (by rw [inpl_len h]; exact hv), List.set_getElem_self]
theorem inpl_map (f : α → β) : (inpl l l' v).map f = inpl (l.map f) (l'.map f) v := by simp [inpl]
end
abbrev k49_o0 : List AJ := [.o ⟨(some 4), none, false, .mv (.c .nilsl), none⟩, .o ⟨(some 5), none, false, .mv (.c .nilsl), (some [0, 1])⟩]
abbrev k49_o1 : List AJ := [.e 20 1 none, .o ⟨(some 6), none, false, .mv (.t 20), (some [0, 1, 6])⟩]
abbrev k49_o2 : List AJ := [.e 21 1 none, .o ⟨(some 7), none, false, .mv (.t 21), (some [0, 1, 6, 7])⟩]
abbrev k49_o3 : List AJ := [.o ⟨(some 8), none, false, .mv (.c (.int .i64 0)), (some [0, 1, 6, 7, 8])⟩]
abbrev k49_o4 : List AJ := [.o ⟨(some 22), none, false, .mv (.t 8), none⟩, .o ⟨(some 23), none, false, .mv (.t 0), none⟩, .o ⟨(some 24), none, false, .nilchk (.t 23), none⟩, .o ⟨(some 25), none, false, .fieldA 0 (.t 24), none⟩, .o ⟨(some 26), none, false, .load 1 false (.t 25), none⟩, .o ⟨(some 27), none, false, .bin .lss (.t 22) (.t 26), (some [0, 1, 6, 7, 8, 27])⟩]
def k49_5 : ACode := .cond (.t 27) .skip (.exit 0)
def k49_6 : ACode := .seq (.region k49_o4) k49_5
abbrev k49_o5 : List AJ := [.o ⟨(some 30), none, false, .mv (.t 6), none⟩, .o ⟨(some 31), none, false, .mv (.t 8), none⟩, .o ⟨(some 32), none, false, .bsl false 1 [(.t 31)], none⟩, .o ⟨(some 33), none, false, .append 1 8 (.t 30) (.t 32), none⟩, .o ⟨(some 6), none, false, .mv (.t 33), (some [0, 1, 6, 7, 8])⟩]
abbrev k49_o6 : List AJ := [.o ⟨(some 34), none, false, .mv (.t 7), none⟩, .o ⟨(some 35), none, false, .bsl false 1 [(.c (.int .i64 0))], none⟩, .o ⟨(some 36), none, false, .append 1 8 (.t 34) (.t 35), none⟩, .o ⟨(some 7), none, false, .mv (.t 36), (some [0, 1, 6, 7, 8])⟩]
def k49_8 : ACode := .region k49_o6
def k49_9 : ACode := .seq (.region k49_o5) k49_8
abbrev k49_o7 : List AJ := [.o ⟨(some 28), none, false, .mv (.t 8), none⟩, .o ⟨(some 29), none, true, .bin .add (.t 28) (.c (.int .i64 1)), none⟩, .o ⟨(some 8), none, false, .mv (.t 29), (some [0, 1, 6, 7, 8])⟩]
def k49_11 : ACode := .region k49_o7
def k49_12 : ACode := .seq (.block 1 k49_9) k49_11
def k49_13 : ACode := .seq k49_6 k49_12
def k49_14 : ACode := .loop k49_13
def k49_15 : ACode := .block 0 k49_14
def k49_16 : ACode := .seq (.region k49_o3) k49_15
abbrev k49_o8 : List AJ := [.e 37 1 none, .o ⟨(some 9), none, false, .mv (.t 37), (some [0, 1, 6, 7, 9])⟩]
abbrev k49_o9 : List AJ := [.o ⟨(some 10), none, false, .mv (.c (.int .i64 0)), (some [0, 1, 6, 7, 9, 10])⟩]
abbrev k49_o10 : List AJ := [.o ⟨(some 38), none, false, .mv (.t 10), none⟩, .o ⟨(some 39), none, false, .mv (.t 0), none⟩, .o ⟨(some 40), none, false, .nilchk (.t 39), none⟩, .o ⟨(some 41), none, false, .fieldA 2 (.t 40), none⟩, .o ⟨(some 42), none, false, .load 1 false (.t 41), none⟩, .o ⟨(some 43), none, false, .len (.t 42), none⟩, .o ⟨(some 44), none, false, .bin .lss (.t 38) (.t 43), (some [0, 1, 6, 7, 9, 10, 44])⟩]
def k49_20 : ACode := .cond (.t 44) .skip (.exit 2)
def k49_21 : ACode := .seq (.region k49_o10) k49_20
abbrev k49_o11 : List AJ := [.o ⟨(some 47), none, false, .mv (.t 0), none⟩, .o ⟨(some 48), none, false, .nilchk (.t 47), none⟩, .o ⟨(some 49), none, false, .fieldA 2 (.t 48), none⟩, .o ⟨(some 50), none, false, .load 1 false (.t 49), none⟩, .o ⟨(some 51), none, false, .mv (.t 10), none⟩, .o ⟨(some 52), none, false, .idxA 3 (.t 50) (.t 51), none⟩, .o ⟨(some 53), none, false, .load 3 true (.t 52), none⟩, .v 11 3 (.agg [(.int .i64 0), (.int .i64 0), (.int .i64 0)]) [] (.t 53) (some [0, 1, 6, 7, 9, 10, 11])]
abbrev k49_o12 : List AJ := [.o ⟨(some 54), none, false, .mv (.t 6), none⟩, .o ⟨(some 55), none, false, .fieldA 0 (.t 11), none⟩, .o ⟨(some 56), none, false, .load 1 false (.t 55), none⟩, .o ⟨(some 57), none, false, .idxA 1 (.t 54) (.t 56), none⟩, .o ⟨(some 58), none, false, .load 1 false (.t 57), none⟩, .o ⟨(some 12), none, false, .mv (.t 58), (some [0, 1, 6, 7, 9, 10, 11, 12])⟩]
abbrev k49_o13 : List AJ := [.o ⟨(some 59), none, false, .mv (.t 6), none⟩, .o ⟨(some 60), none, false, .fieldA 1 (.t 11), none⟩, .o ⟨(some 61), none, false, .load 1 false (.t 60), none⟩, .o ⟨(some 62), none, false, .idxA 1 (.t 59) (.t 61), none⟩, .o ⟨(some 63), none, false, .load 1 false (.t 62), none⟩, .o ⟨(some 13), none, false, .mv (.t 63), (some [0, 1, 6, 7, 9, 10, 11, 12, 13])⟩]
abbrev k49_o14 : List AJ := [.o ⟨(some 64), none, false, .mv (.t 12), none⟩, .o ⟨(some 65), none, false, .mv (.t 13), none⟩, .o ⟨(some 66), none, false, .bin .eql (.t 64) (.t 65), none⟩, .o ⟨(some 67), none, false, .mv (.t 66), none⟩, .o ⟨(some 68), (some (67, false)), false, .mv (.t 1), none⟩, .o ⟨(some 69), (some (67, false)), false, .mv (.t 10), none⟩, .o ⟨(some 70), (some (67, false)), false, .call 69 [(.t 68), (.t 69)], none⟩, .o ⟨(some 71), none, false, .pick (.t 67) (.c (.bool true)) (.t 70), (some [0, 1, 6, 7, 9, 10, 11, 12, 13, 71])⟩]
def k49_26 : ACode := .cond (.t 71) (.exit 3) .skip
def k49_27 : ACode := .seq (.region k49_o14) k49_26
abbrev k49_o15 : List AJ := [.o ⟨(some 72), none, false, .mv (.t 9), none⟩, .o ⟨(some 73), none, false, .mv (.t 10), none⟩, .o ⟨(some 74), none, false, .bsl false 1 [(.t 73)], none⟩, .o ⟨(some 75), none, false, .append 1 8 (.t 72) (.t 74), none⟩, .o ⟨(some 9), none, false, .mv (.t 75), (some [0, 1, 6, 7, 9, 10, 11, 12, 13])⟩]
abbrev k49_o16 : List AI := [⟨(some 76), none, false, .mv (.t 7), none⟩, ⟨(some 77), none, false, .fieldA 0 (.t 11), none⟩, ⟨(some 78), none, false, .load 1 false (.t 77), none⟩, ⟨(some 79), none, false, .idxA 1 (.t 76) (.t 78), none⟩, ⟨(some 80), none, false, .load 1 false (.t 79), none⟩, ⟨(some 81), none, false, .fieldA 2 (.t 11), none⟩, ⟨(some 82), none, false, .load 1 false (.t 81), none⟩, ⟨(some 83), none, true, .bin .add (.t 80) (.t 82), none⟩, ⟨(some 84), none, false, .mv (.t 7), none⟩, ⟨(some 85), none, false, .fieldA 1 (.t 11), none⟩, ⟨(some 86), none, false, .load 1 false (.t 85), none⟩, ⟨(some 87), none, false, .idxA 1 (.t 84) (.t 86), none⟩, ⟨(some 88), none, false, .load 1 false (.t 87), none⟩, ⟨(some 89), none, true, .bin .sub (.t 83) (.t 88), (some [0, 1, 6, 7, 9, 10, 12, 13, 89])⟩, ⟨(some 90), none, false, .mv (.t 0), none⟩, ⟨(some 91), none, false, .nilchk (.t 90), none⟩, ⟨(some 92), none, false, .fieldA 1 (.t 91), none⟩, ⟨(some 93), none, false, .load 1 false (.t 92), none⟩, ⟨(some 94), none, false, .call 54 [(.t 89), (.t 93)], none⟩, ⟨(some 14), none, false, .mv (.t 94), (some [0, 1, 6, 7, 9, 10, 12, 13, 14])⟩]
abbrev k49_o17 : List AJ := [.o ⟨(some 15), none, false, .mv (.c (.int .i64 0)), (some [0, 1, 6, 7, 9, 10, 12, 13, 14, 15])⟩]
abbrev k49_o18 : List AJ := [.o ⟨(some 95), none, false, .mv (.t 15), none⟩, .o ⟨(some 96), none, false, .mv (.t 6), none⟩, .o ⟨(some 97), none, false, .len (.t 96), none⟩, .o ⟨(some 98), none, false, .bin .lss (.t 95) (.t 97), (some [0, 1, 6, 7, 9, 10, 12, 13, 14, 15, 98])⟩]
def k49_32 : ACode := .cond (.t 98) .skip (.exit 4)
def k49_33 : ACode := .seq (.region k49_o18) k49_32
abbrev k49_o19 : List AJ := [.o ⟨(some 101), none, false, .mv (.t 6), none⟩, .o ⟨(some 102), none, false, .mv (.t 15), none⟩, .o ⟨(some 103), none, false, .idxA 1 (.t 101) (.t 102), none⟩, .o ⟨(some 104), none, false, .load 1 false (.t 103), none⟩, .o ⟨(some 105), none, false, .mv (.t 13), none⟩, .o ⟨(some 106), none, false, .bin .eql (.t 104) (.t 105), (some [0, 1, 6, 7, 9, 10, 12, 13, 14, 15, 106])⟩]
abbrev k49_o20 : List AJ := [.o ⟨(some 107), none, false, .mv (.t 6), none⟩, .o ⟨(some 108), none, false, .mv (.t 15), none⟩, .o ⟨(some 109), none, false, .mv (.t 12), none⟩, .o ⟨(some 110), none, false, .idxA 1 (.t 107) (.t 108), none⟩, .o ⟨none, none, false, .store 1 (.t 110) (.t 109), (some [0, 1, 6, 7, 9, 10, 12, 13, 14, 15])⟩]
abbrev k49_o21 : List AI := [⟨(some 111), none, false, .mv (.t 7), none⟩, ⟨(some 112), none, false, .mv (.t 15), none⟩, ⟨(some 113), none, false, .mv (.t 7), none⟩, ⟨(some 114), none, false, .mv (.t 15), none⟩, ⟨(some 115), none, false, .idxA 1 (.t 113) (.t 114), none⟩, ⟨(some 116), none, false, .load 1 false (.t 115), none⟩, ⟨(some 117), none, false, .mv (.t 14), none⟩, ⟨(some 118), none, true, .bin .add (.t 116) (.t 117), none⟩, ⟨(some 119), none, false, .mv (.t 0), none⟩, ⟨(some 120), none, false, .nilchk (.t 119), none⟩, ⟨(some 121), none, false, .fieldA 1 (.t 120), none⟩, ⟨(some 122), none, false, .load 1 false (.t 121), none⟩, ⟨(some 123), none, false, .bin .rem (.t 118) (.t 122), none⟩, ⟨(some 124), none, false, .idxA 1 (.t 111) (.t 112), (some [0, 1, 6, 7, 9, 10, 12, 13, 14, 15, 123, 124])⟩]
abbrev k49_o22 : List AJ := [.o ⟨none, none, false, .store 1 (.t 124) (.t 123), (some [0, 1, 6, 7, 9, 10, 12, 13, 14, 15])⟩]
def k49_36 : ACode := .draw k49_o21 k49_o22 rfl
def k49_37 : ACode := .seq (.region k49_o20) k49_36
def k49_38 : ACode := .cond (.t 106) k49_37 .skip
def k49_39 : ACode := .seq (.region k49_o19) k49_38
abbrev k49_o23 : List AJ := [.o ⟨(some 99), none, false, .mv (.t 15), none⟩, .o ⟨(some 100), none, true, .bin .add (.t 99) (.c (.int .i64 1)), none⟩, .o ⟨(some 15), none, false, .mv (.t 100), (some [0, 1, 6, 7, 9, 10, 12, 13, 14, 15])⟩]
def k49_41 : ACode := .region k49_o23
def k49_42 : ACode := .seq (.block 5 k49_39) k49_41
def k49_43 : ACode := .seq k49_33 k49_42
def k49_44 : ACode := .loop k49_43
def k49_45 : ACode := .block 4 k49_44
def k49_46 : ACode := .seq (.region k49_o17) k49_45
def k49_47 : ACode := .seq (.draw k49_o16 [] rfl) k49_46
def k49_48 : ACode := .seq (.region k49_o15) k49_47
def k49_49 : ACode := .seq k49_27 k49_48
def k49_50 : ACode := .seq (.region k49_o13) k49_49
def k49_51 : ACode := .seq (.region k49_o12) k49_50
def k49_52 : ACode := .seq (.region k49_o11) k49_51
abbrev k49_o24 : List AJ := [.o ⟨(some 45), none, false, .mv (.t 10), none⟩, .o ⟨(some 46), none, true, .bin .add (.t 45) (.c (.int .i64 1)), none⟩, .o ⟨(some 10), none, false, .mv (.t 46), (some [0, 1, 6, 7, 9, 10])⟩]
def k49_54 : ACode := .region k49_o24
def k49_55 : ACode := .seq (.block 3 k49_52) k49_54
def k49_56 : ACode := .seq k49_21 k49_55
def k49_57 : ACode := .loop k49_56
def k49_58 : ACode := .block 2 k49_57
def k49_59 : ACode := .seq (.region k49_o9) k49_58
abbrev k49_o25 : List AJ := [.o ⟨(some 16), none, false, .mv (.c (.int .i64 0)), (some [0, 6, 7, 9, 16])⟩]
abbrev k49_o26 : List AJ := [.o ⟨(some 125), none, false, .mv (.t 16), none⟩, .o ⟨(some 126), none, false, .mv (.t 6), none⟩, .o ⟨(some 127), none, false, .len (.t 126), none⟩, .o ⟨(some 128), none, false, .bin .lss (.t 125) (.t 127), (some [0, 6, 7, 9, 16, 128])⟩]
def k49_62 : ACode := .cond (.t 128) .skip (.exit 6)
def k49_63 : ACode := .seq (.region k49_o26) k49_62
abbrev k49_o27 : List AJ := [.o ⟨(some 17), none, false, .mv (.c (.int .i64 0)), (some [0, 6, 7, 9, 16, 17])⟩]
abbrev k49_o28 : List AI := [⟨(some 131), none, false, .mv (.t 6), none⟩, ⟨(some 132), none, false, .mv (.t 17), none⟩, ⟨(some 133), none, false, .idxA 1 (.t 131) (.t 132), none⟩, ⟨(some 134), none, false, .load 1 false (.t 133), none⟩, ⟨(some 135), none, false, .mv (.t 6), none⟩, ⟨(some 136), none, false, .mv (.t 16), none⟩, ⟨(some 137), none, false, .idxA 1 (.t 135) (.t 136), none⟩, ⟨(some 138), none, false, .load 1 false (.t 137), none⟩, ⟨(some 139), none, false, .bin .neq (.t 134) (.t 138), (some [0, 6, 7, 9, 16, 17, 139])⟩]
def k49_66 : ACode := .cond (.t 139) .skip (.exit 8)
def k49_67 : ACode := .seq (.draw k49_o28 [] rfl) k49_66
abbrev k49_o29 : List AJ := [.o ⟨(some 140), none, false, .mv (.t 17), none⟩, .o ⟨(some 141), none, true, .bin .add (.t 140) (.c (.int .i64 1)), none⟩, .o ⟨(some 17), none, false, .mv (.t 141), (some [0, 6, 7, 9, 16, 17])⟩]
def k49_68 : ACode := .region k49_o29
def k49_69 : ACode := .block 9 k49_68
def k49_70 : ACode := .seq k49_67 k49_69
def k49_71 : ACode := .loop k49_70
abbrev k49_o30 : List AJ := [.o ⟨(some 142), none, false, .mv (.t 17), none⟩, .o ⟨(some 143), none, false, .mv (.t 16), none⟩, .o ⟨(some 144), none, false, .bin .lss (.t 142) (.t 143), (some [0, 6, 7, 9, 16, 17, 144])⟩]
abbrev k49_o31 : List AI := [⟨(some 145), none, false, .mv (.t 7), none⟩, ⟨(some 146), none, false, .mv (.t 16), none⟩, ⟨(some 147), none, false, .mv (.t 7), none⟩, ⟨(some 148), none, false, .mv (.t 16), none⟩, ⟨(some 149), none, false, .idxA 1 (.t 147) (.t 148), none⟩, ⟨(some 150), none, false, .load 1 false (.t 149), none⟩, ⟨(some 151), none, false, .mv (.t 7), none⟩, ⟨(some 152), none, false, .mv (.t 17), none⟩, ⟨(some 153), none, false, .idxA 1 (.t 151) (.t 152), none⟩, ⟨(some 154), none, false, .load 1 false (.t 153), none⟩, ⟨(some 155), none, true, .bin .sub (.t 150) (.t 154), none⟩, ⟨(some 156), none, false, .mv (.t 0), none⟩, ⟨(some 157), none, false, .nilchk (.t 156), none⟩, ⟨(some 158), none, false, .fieldA 1 (.t 157), (some [0, 6, 7, 9, 16, 145, 146, 155, 158])⟩, ⟨(some 159), none, false, .load 1 false (.t 158), none⟩, ⟨(some 160), none, false, .call 54 [(.t 155), (.t 159)], none⟩, ⟨(some 161), none, false, .idxA 1 (.t 145) (.t 146), (some [0, 6, 7, 9, 16, 160, 161])⟩]
abbrev k49_o32 : List AJ := [.o ⟨none, none, false, .store 1 (.t 161) (.t 160), (some [0, 6, 7, 9, 16])⟩]
def k49_74 : ACode := .draw k49_o31 k49_o32 rfl
def k49_75 : ACode := .cond (.t 144) k49_74 .skip
def k49_76 : ACode := .seq (.region k49_o30) k49_75
def k49_77 : ACode := .seq (.block 8 k49_71) k49_76
def k49_78 : ACode := .seq (.region k49_o27) k49_77
abbrev k49_o33 : List AJ := [.o ⟨(some 129), none, false, .mv (.t 16), none⟩, .o ⟨(some 130), none, true, .bin .add (.t 129) (.c (.int .i64 1)), none⟩, .o ⟨(some 16), none, false, .mv (.t 130), (some [0, 6, 7, 9, 16])⟩]
def k49_80 : ACode := .region k49_o33
def k49_81 : ACode := .seq (.block 7 k49_78) k49_80
def k49_82 : ACode := .seq k49_63 k49_81
def k49_83 : ACode := .loop k49_82
def k49_84 : ACode := .block 6 k49_83
def k49_85 : ACode := .seq (.region k49_o25) k49_84
abbrev k49_o34 : List AJ := [.o ⟨(some 18), none, false, .mv (.c (.int .i64 0)), (some [6, 7, 9, 18])⟩]
abbrev k49_o35 : List AJ := [.o ⟨(some 162), none, false, .mv (.t 18), none⟩, .o ⟨(some 163), none, false, .mv (.t 6), none⟩, .o ⟨(some 164), none, false, .len (.t 163), none⟩, .o ⟨(some 165), none, false, .bin .lss (.t 162) (.t 164), (some [6, 7, 9, 18, 165])⟩]
def k49_88 : ACode := .cond (.t 165) .skip (.exit 10)
def k49_89 : ACode := .seq (.region k49_o35) k49_88
abbrev k49_o36 : List AJ := [.o ⟨(some 19), none, false, .mv (.c (.int .i64 0)), (some [6, 7, 9, 18, 19])⟩]
abbrev k49_o37 : List AI := [⟨(some 168), none, false, .mv (.t 6), none⟩, ⟨(some 169), none, false, .mv (.t 19), none⟩, ⟨(some 170), none, false, .idxA 1 (.t 168) (.t 169), none⟩, ⟨(some 171), none, false, .load 1 false (.t 170), none⟩, ⟨(some 172), none, false, .mv (.t 6), none⟩, ⟨(some 173), none, false, .mv (.t 18), none⟩, ⟨(some 174), none, false, .idxA 1 (.t 172) (.t 173), none⟩, ⟨(some 175), none, false, .load 1 false (.t 174), none⟩, ⟨(some 176), none, false, .bin .neq (.t 171) (.t 175), (some [6, 7, 9, 18, 19, 176])⟩]
def k49_92 : ACode := .cond (.t 176) .skip (.exit 12)
def k49_93 : ACode := .seq (.draw k49_o37 [] rfl) k49_92
abbrev k49_o38 : List AJ := [.o ⟨(some 177), none, false, .mv (.t 19), none⟩, .o ⟨(some 178), none, true, .bin .add (.t 177) (.c (.int .i64 1)), none⟩, .o ⟨(some 19), none, false, .mv (.t 178), (some [6, 7, 9, 18, 19])⟩]
def k49_94 : ACode := .region k49_o38
def k49_95 : ACode := .block 13 k49_94
def k49_96 : ACode := .seq k49_93 k49_95
def k49_97 : ACode := .loop k49_96
abbrev k49_o39 : List AJ := [.o ⟨(some 179), none, false, .mv (.t 19), none⟩, .o ⟨(some 180), none, false, .mv (.t 18), none⟩, .o ⟨(some 181), none, false, .bin .eql (.t 179) (.t 180), (some [6, 7, 9, 18, 181])⟩]
abbrev k49_o40 : List AJ := [.o ⟨(some 182), none, false, .mv (.t 7), none⟩, .o ⟨(some 183), none, false, .mv (.t 18), none⟩, .o ⟨(some 184), none, false, .idxA 1 (.t 182) (.t 183), none⟩, .o ⟨none, none, false, .store 1 (.t 184) (.c (.int .i64 0)), (some [6, 7, 9, 18])⟩]
def k49_100 : ACode := .region k49_o40
def k49_101 : ACode := .cond (.t 181) k49_100 .skip
def k49_102 : ACode := .seq (.region k49_o39) k49_101
def k49_103 : ACode := .seq (.block 12 k49_97) k49_102
def k49_104 : ACode := .seq (.region k49_o36) k49_103
abbrev k49_o41 : List AJ := [.o ⟨(some 166), none, false, .mv (.t 18), none⟩, .o ⟨(some 167), none, true, .bin .add (.t 166) (.c (.int .i64 1)), none⟩, .o ⟨(some 18), none, false, .mv (.t 167), (some [6, 7, 9, 18])⟩]
def k49_106 : ACode := .region k49_o41
def k49_107 : ACode := .seq (.block 11 k49_104) k49_106
def k49_108 : ACode := .seq k49_89 k49_107
def k49_109 : ACode := .loop k49_108
def k49_110 : ACode := .block 10 k49_109
def k49_111 : ACode := .seq (.region k49_o34) k49_110
abbrev k49_o42 : List AJ := [.o ⟨(some 185), none, false, .mv (.t 9), none⟩, .o ⟨(some 186), none, false, .mv (.t 7), none⟩, .o ⟨(some 4), none, false, .mv (.t 185), none⟩, .o ⟨(some 5), none, false, .mv (.t 186), (some [4, 5])⟩]
def k49_113 : ACode := .seq (.region k49_o42) .ret
def k49_114 : ACode := .seq k49_111 k49_113
def k49_115 : ACode := .seq k49_85 k49_114
def k49_116 : ACode := .seq k49_59 k49_115
def k49_117 : ACode := .seq (.region k49_o8) k49_116
def k49_118 : ACode := .seq k49_16 k49_117
def k49_119 : ACode := .seq (.region k49_o2) k49_118
def k49_120 : ACode := .seq (.region k49_o1) k49_119
def k49_121 : ACode := .seq (.region k49_o0) k49_120
@[simp, simp ↓] theorem k49_5r : rC k49_5 (.t 27) .skip (.exit 0) := zC rfl
@[simp, simp ↓] theorem k49_6r : sR k49_6 k49_o4 k49_5 := yR rfl
@[simp, simp ↓] theorem k49_8r : rR k49_8 k49_o6 := zR rfl
@[simp, simp ↓] theorem k49_9r : sR k49_9 k49_o5 k49_8 := yR rfl
@[simp, simp ↓] theorem k49_11r : rR k49_11 k49_o7 := zR rfl
@[simp, simp ↓] theorem k49_12r : sB k49_12 1 k49_9 k49_11 := yB rfl
@[simp, simp ↓] theorem k49_13r : rS k49_13 k49_6 k49_12 := zS rfl
@[simp, simp ↓] theorem k49_14r : rL k49_14 k49_13 := zL rfl
@[simp, simp ↓] theorem k49_15r : rB k49_15 0 k49_14 := zB rfl
@[simp, simp ↓] theorem k49_16r : sR k49_16 k49_o3 k49_15 := yR rfl
@[simp, simp ↓] theorem k49_20r : rC k49_20 (.t 44) .skip (.exit 2) := zC rfl
@[simp, simp ↓] theorem k49_21r : sR k49_21 k49_o10 k49_20 := yR rfl
@[simp, simp ↓] theorem k49_26r : rC k49_26 (.t 71) (.exit 3) .skip := zC rfl
@[simp, simp ↓] theorem k49_27r : sR k49_27 k49_o14 k49_26 := yR rfl
@[simp, simp ↓] theorem k49_32r : rC k49_32 (.t 98) .skip (.exit 4) := zC rfl
@[simp, simp ↓] theorem k49_33r : sR k49_33 k49_o18 k49_32 := yR rfl
@[simp, simp ↓] theorem k49_36r : rD k49_36 k49_o21 k49_o22 := zD rfl
@[simp, simp ↓] theorem k49_37r : sR k49_37 k49_o20 k49_36 := yR rfl
@[simp, simp ↓] theorem k49_38r : rC k49_38 (.t 106) k49_37 .skip := zC rfl
@[simp, simp ↓] theorem k49_39r : sR k49_39 k49_o19 k49_38 := yR rfl
@[simp, simp ↓] theorem k49_41r : rR k49_41 k49_o23 := zR rfl
@[simp, simp ↓] theorem k49_42r : sB k49_42 5 k49_39 k49_41 := yB rfl
@[simp, simp ↓] theorem k49_43r : rS k49_43 k49_33 k49_42 := zS rfl
@[simp, simp ↓] theorem k49_44r : rL k49_44 k49_43 := zL rfl
@[simp, simp ↓] theorem k49_45r : rB k49_45 4 k49_44 := zB rfl
@[simp, simp ↓] theorem k49_46r : sR k49_46 k49_o17 k49_45 := yR rfl
@[simp, simp ↓] theorem k49_47r : sD k49_47 k49_o16 [] k49_46 := yD rfl
@[simp, simp ↓] theorem k49_48r : sR k49_48 k49_o15 k49_47 := yR rfl
@[simp, simp ↓] theorem k49_49r : rS k49_49 k49_27 k49_48 := zS rfl
@[simp, simp ↓] theorem k49_50r : sR k49_50 k49_o13 k49_49 := yR rfl
@[simp, simp ↓] theorem k49_51r : sR k49_51 k49_o12 k49_50 := yR rfl
@[simp, simp ↓] theorem k49_52r : sR k49_52 k49_o11 k49_51 := yR rfl
@[simp, simp ↓] theorem k49_54r : rR k49_54 k49_o24 := zR rfl
@[simp, simp ↓] theorem k49_55r : sB k49_55 3 k49_52 k49_54 := yB rfl
@[simp, simp ↓] theorem k49_56r : rS k49_56 k49_21 k49_55 := zS rfl
@[simp, simp ↓] theorem k49_57r : rL k49_57 k49_56 := zL rfl
@[simp, simp ↓] theorem k49_58r : rB k49_58 2 k49_57 := zB rfl
@[simp, simp ↓] theorem k49_59r : sR k49_59 k49_o9 k49_58 := yR rfl
@[simp, simp ↓] theorem k49_62r : rC k49_62 (.t 128) .skip (.exit 6) := zC rfl
@[simp, simp ↓] theorem k49_63r : sR k49_63 k49_o26 k49_62 := yR rfl
@[simp, simp ↓] theorem k49_66r : rC k49_66 (.t 139) .skip (.exit 8) := zC rfl
@[simp, simp ↓] theorem k49_67r : sD k49_67 k49_o28 [] k49_66 := yD rfl
@[simp, simp ↓] theorem k49_68r : rR k49_68 k49_o29 := zR rfl
@[simp, simp ↓] theorem k49_69r : rB k49_69 9 k49_68 := zB rfl
@[simp, simp ↓] theorem k49_70r : rS k49_70 k49_67 k49_69 := zS rfl
@[simp, simp ↓] theorem k49_71r : rL k49_71 k49_70 := zL rfl
@[simp, simp ↓] theorem k49_74r : rD k49_74 k49_o31 k49_o32 := zD rfl
@[simp, simp ↓] theorem k49_75r : rC k49_75 (.t 144) k49_74 .skip := zC rfl
@[simp, simp ↓] theorem k49_76r : sR k49_76 k49_o30 k49_75 := yR rfl
@[simp, simp ↓] theorem k49_77r : sB k49_77 8 k49_71 k49_76 := yB rfl
@[simp, simp ↓] theorem k49_78r : sR k49_78 k49_o27 k49_77 := yR rfl
@[simp, simp ↓] theorem k49_80r : rR k49_80 k49_o33 := zR rfl
@[simp, simp ↓] theorem k49_81r : sB k49_81 7 k49_78 k49_80 := yB rfl
@[simp, simp ↓] theorem k49_82r : rS k49_82 k49_63 k49_81 := zS rfl
@[simp, simp ↓] theorem k49_83r : rL k49_83 k49_82 := zL rfl
@[simp, simp ↓] theorem k49_84r : rB k49_84 6 k49_83 := zB rfl
@[simp, simp ↓] theorem k49_85r : sR k49_85 k49_o25 k49_84 := yR rfl
@[simp, simp ↓] theorem k49_88r : rC k49_88 (.t 165) .skip (.exit 10) := zC rfl
@[simp, simp ↓] theorem k49_89r : sR k49_89 k49_o35 k49_88 := yR rfl
@[simp, simp ↓] theorem k49_92r : rC k49_92 (.t 176) .skip (.exit 12) := zC rfl
@[simp, simp ↓] theorem k49_93r : sD k49_93 k49_o37 [] k49_92 := yD rfl
@[simp, simp ↓] theorem k49_94r : rR k49_94 k49_o38 := zR rfl
@[simp, simp ↓] theorem k49_95r : rB k49_95 13 k49_94 := zB rfl
@[simp, simp ↓] theorem k49_96r : rS k49_96 k49_93 k49_95 := zS rfl
@[simp, simp ↓] theorem k49_97r : rL k49_97 k49_96 := zL rfl
@[simp, simp ↓] theorem k49_100r : rR k49_100 k49_o40 := zR rfl
@[simp, simp ↓] theorem k49_101r : rC k49_101 (.t 181) k49_100 .skip := zC rfl
@[simp, simp ↓] theorem k49_102r : sR k49_102 k49_o39 k49_101 := yR rfl
@[simp, simp ↓] theorem k49_103r : sB k49_103 12 k49_97 k49_102 := yB rfl
@[simp, simp ↓] theorem k49_104r : sR k49_104 k49_o36 k49_103 := yR rfl
@[simp, simp ↓] theorem k49_106r : rR k49_106 k49_o41 := zR rfl
@[simp, simp ↓] theorem k49_107r : sB k49_107 11 k49_104 k49_106 := yB rfl
@[simp, simp ↓] theorem k49_108r : rS k49_108 k49_89 k49_107 := zS rfl
@[simp, simp ↓] theorem k49_109r : rL k49_109 k49_108 := zL rfl
@[simp, simp ↓] theorem k49_110r : rB k49_110 10 k49_109 := zB rfl
@[simp, simp ↓] theorem k49_111r : sR k49_111 k49_o34 k49_110 := yR rfl
@[simp, simp ↓] theorem k49_113r : sR k49_113 k49_o42 .ret := yR rfl
@[simp, simp ↓] theorem k49_114r : rS k49_114 k49_111 k49_113 := zS rfl
@[simp, simp ↓] theorem k49_115r : rS k49_115 k49_85 k49_114 := zS rfl
@[simp, simp ↓] theorem k49_116r : rS k49_116 k49_59 k49_115 := zS rfl
@[simp, simp ↓] theorem k49_117r : sR k49_117 k49_o8 k49_116 := yR rfl
@[simp, simp ↓] theorem k49_118r : rS k49_118 k49_16 k49_117 := zS rfl
@[simp, simp ↓] theorem k49_119r : sR k49_119 k49_o2 k49_118 := yR rfl
@[simp, simp ↓] theorem k49_120r : sR k49_120 k49_o1 k49_119 := yR rfl
@[simp, simp ↓] theorem k49_121r : sR k49_121 k49_o0 k49_120 := yR rfl
noncomputable abbrev k49_C : Orc → Cx := mkC Try.prog [11, 20, 21, 37] 49 187 [.tmp 4, .tmp 5]
theorem k49_of : OfP Try.prog Try.f49 49 187 k49_C k49_121 := @ofP _ _ _ _ _ _ _ _ Try.func49 (by decide +kernel) rfl (by kernel_rfl) rfl (by kernel_rfl)
theorem k49_of0 : OfP0 Try.prog Try.f49 49 187 k49_C k49_121 := @ofP0 _ _ _ _ _ _ _ _ Try.func49 (by decide +kernel) rfl (by kernel_rfl) rfl (by kernel_rfl)
noncomputable abbrev FoC : Cx := k49_C (lk orcT2)
/-- One part is given to another, and its phases are moved. -/
theorem for_inner (I : Is FoC Try.f49) {h : Heap} {R : AV → Heap → Prop} {sk : List AItem} {x : Ph} {P F P' F' : List Int} {a b d : Int} {i : Nat} {u : AV} {ga : Heap} {idp idf : Nat} {N : Nat} (hne : ¬ idf = idp) (hp : idp ∉ dom ga) (hf : idf ∉ dom ga)
    (l1 : P.length = N) (l2 : F.length = N) (l3 : P'.length = N) (l4 : F'.length = N) (hP : ∀ (v : Nat) (h1 : v < P.length) (h2 : v < P'.length), P'[v] = if P[v] = b then a else P[v])
    (hF : ∀ (v : Nat) (h1 : v < P.length) (h2 : v < F.length) (h3 : v < F'.length), F'[v] = if P[v] = b then (F[v] + d) % x.m else F[v]) (hb : ∀ (v : Nat) (h2 : v < F.length), 0 ≤ F[v] ∧ F[v] < x.m) (hd : 0 ≤ d ∧ d < x.m) (hm : x.m ≤ 360) (hN : N ≤ 12)
    (go : vc2 FoC 991 [] sk [(0, .ip [.int .i64 x.n, .int .i64 x.m, .snap 3 (x.ts.map T.av)]), (1, .snap 1 []), (6, .sl idp 1 0 N none), (7, .sl idf 1 0 N none), (9, u), (10, .int .i64 (i : Nat)), (12, .int .i64 a), (13, .int .i64 b), (14, .int .i64 d), (15, .int .i64 N), (98, .bool false)] (ga ++ ((idf, ⟨1, F'.map iv⟩) :: (idp, ⟨1, P'.map iv⟩) :: h)) R) :
    Run2 FoC (.code k49_43 :: .inLoop k49_43 :: .inBlock 4 :: sk) [(0, .ip [.int .i64 x.n, .int .i64 x.m, .snap 3 (x.ts.map T.av)]), (1, .snap 1 []), (6, .sl idp 1 0 N none), (7, .sl idf 1 0 N none), (9, u), (10, .int .i64 (i : Nat)), (12, .int .i64 a), (13, .int .i64 b), (14, .int .i64 d), (15, .int .i64 0)] (ga ++ ((idf, ⟨1, F.map iv⟩) :: (idp, ⟨1, P.map iv⟩) :: h)) R := by
  rw [show F.map iv = inpl (F.map iv) (F'.map iv) 0 by simp, show P.map iv = inpl (P.map iv) (P'.map iv) 0 by simp]
  refine Run2.loopE (fun v => [(0, .ip [.int .i64 x.n, .int .i64 x.m, .snap 3 (x.ts.map T.av)]), (1, .snap 1 []), (6, .sl idp 1 0 N none), (7, .sl idf 1 0 N none), (9, u), (10, .int .i64 (i : Nat)), (12, .int .i64 a), (13, .int .i64 b), (14, .int .i64 d), (15, .int .i64 (v : Nat))])
    (fun v => ga ++ ((idf, ⟨1, inpl (F.map iv) (F'.map iv) v⟩) :: (idp, ⟨1, inpl (P.map iv) (P'.map iv) v⟩) :: h)) (fun v => N - v) (fun v => v ≤ N) 0 (by simp) rfl (Nat.zero_le _) fun v hv ih => ?_
  have n1 := inpl_len (l := F.map iv) (l' := F'.map iv) (v := v) (by simp; omega)
  have n2 := inpl_len (l := P.map iv) (l' := P'.map iv) (v := v) (by simp; omega)
  by_cases hlt : v < N
  · have go1 := ih (v + 1) (by omega) (by omega)
    clear ih
    have g1 := inpl_get (l := F.map iv) (l' := F'.map iv) (v := v) (by simp; omega) (by simp; omega) (by rw [n1]; simp; omega)
    have g2 := inpl_get (l := P.map iv) (l' := P'.map iv) (v := v) (by simp; omega) (by simp; omega) (by rw [n2]; simp; omega)
    have s1 := inpl_set (l := F.map iv) (l' := F'.map iv) (v := v) (by simp; omega) (by simp; omega)
    have s2 := inpl_set (l := P.map iv) (l' := P'.map iv) (v := v) (by simp; omega) (by simp; omega)
    have k1 := inpl_keep (l := F.map iv) (l' := F'.map iv) (v := v) (by simp; omega) (by simp; omega)
    have k2 := inpl_keep (l := P.map iv) (l' := P'.map iv) (v := v) (by simp; omega) (by simp; omega)
    simp only [List.getElem_map] at g1 g2 s1 s2 k1 k2
    have hb := hb v (by omega)
    have hP := hP v (by omega) (by omega)
    have hF := hF v (by omega) (by omega) (by omega)
    rw [hP] at s2 k2
    rw [hF] at s1 k1
    generalize hX : inpl (F.map iv) (F'.map iv) = X at *
    generalize hY : inpl (P.map iv) (P'.map iv) = Y at *
    have m1 : v < (X v).length := by rw [n1]; simp; omega
    have m2 : v < (Y v).length := by rw [n2]; simp; omega
    refine Run2.of I 1000 ?_
    simp -implicitDefEqProofs [hlt, hget_app hp, hget_app hf, hset_app hp, hset_app hf, hne, m1, m2, g1, g2]
    refine ⟨fun h1 => ⟨by omega, by omega, by omega, ?_⟩, fun h1 => ⟨by omega, ?_⟩⟩
    · simp only [iv, if_pos h1] at s1 s2
      rw [Int.tmod_eq_emod_of_nonneg (by omega), s1, s2]
      simpa using go1
    · simp only [iv, if_neg h1, forall_const] at k1 k2
      rw [k1, k2]
      simpa using go1
  · obtain rfl : v = N := by omega
    have e1 : inpl (F.map iv) (F'.map iv) v = F'.map iv := by have := inpl_end (l := F.map iv) (l' := F'.map iv) (by simp; omega); simpa [l2] using this
    have e2 : inpl (P.map iv) (P'.map iv) v = P'.map iv := by have := inpl_end (l := P.map iv) (l' := P'.map iv) (by simp; omega); simpa [l1] using this
    refine Run2.of I 1000 ?_
    simp -implicitDefEqProofs
    rw [e1, e2]
    exact go

/-- The least node of the part. -/
theorem for_first1 (I : Is FoC Try.f49) {h : Heap} {R : AV → Heap → Prop} {sk : List AItem} {x : Ph} {P : List Int} {X : List AV} {u : AV} {ga : Heap} {idp idf : Nat} {N v k0 : Nat} (hne : ¬ idf = idp) (hp : idp ∉ dom ga) (hf : idf ∉ dom ga)
    (l1 : P.length = N) (hv : v < P.length) (hk : k0 ≤ v) (h1 : P[k0] = P[v]) (h2 : ∀ (j : Nat) (hj : j < k0), P[j] ≠ P[v]) (hN : N ≤ 12)
    (go : vc2 FoC 995 [] sk [(0, .ip [.int .i64 x.n, .int .i64 x.m, .snap 3 (x.ts.map T.av)]), (6, .sl idp 1 0 N none), (7, .sl idf 1 0 N none), (9, u), (16, .int .i64 (v : Nat)), (17, .int .i64 (k0 : Nat)), (139, .bool false)] (ga ++ ((idf, ⟨1, X⟩) :: (idp, ⟨1, P.map iv⟩) :: h)) R) :
    Run2 FoC (.code k49_70 :: .inLoop k49_70 :: .inBlock 8 :: sk) [(0, .ip [.int .i64 x.n, .int .i64 x.m, .snap 3 (x.ts.map T.av)]), (6, .sl idp 1 0 N none), (7, .sl idf 1 0 N none), (9, u), (16, .int .i64 (v : Nat)), (17, .int .i64 0)] (ga ++ ((idf, ⟨1, X⟩) :: (idp, ⟨1, P.map iv⟩) :: h)) R := by
  refine Run2.loopE (fun k => [(0, .ip [.int .i64 x.n, .int .i64 x.m, .snap 3 (x.ts.map T.av)]), (6, .sl idp 1 0 N none), (7, .sl idf 1 0 N none), (9, u), (16, .int .i64 (v : Nat)), (17, .int .i64 (k : Nat))]) (fun _ => ga ++ ((idf, ⟨1, X⟩) :: (idp, ⟨1, P.map iv⟩) :: h)) (fun k => k0 - k) (fun k => k ≤ k0) 0 (by simp) rfl (Nat.zero_le _) fun k hk' ih => ?_
  have hkN : k < P.length := by omega
  have hvN : v < N := by omega
  by_cases hlt : k < k0
  · have go1 := ih (k + 1) (by omega) (by omega)
    have hne1 := h2 k hlt
    clear ih
    refine Run2.of I 1000 ?_
    simp -implicitDefEqProofs [hlt, hget_app hp, hget_app hf, hne, hkN, hv, hne1, hvN, show k < N by omega]
    first | exact ⟨by omega, by simpa using go1⟩ | trace_state
  · obtain rfl : k = k0 := by omega
    refine Run2.of I 1000 ?_
    simp -implicitDefEqProofs [hget_app hp, hget_app hf, hne, hkN, hv, h1, hvN, show k < N by omega]
    exact go

/-- The least node of the part. -/
theorem for_first2 (I : Is FoC Try.f49) {h : Heap} {R : AV → Heap → Prop} {sk : List AItem} {x : Ph} {P : List Int} {X : List AV} {u : AV} {ga : Heap} {idp idf : Nat} {N v k0 : Nat} (hne : ¬ idf = idp) (hp : idp ∉ dom ga) (hf : idf ∉ dom ga)
    (l1 : P.length = N) (hv : v < P.length) (hk : k0 ≤ v) (h1 : P[k0] = P[v]) (h2 : ∀ (j : Nat) (hj : j < k0), P[j] ≠ P[v]) (hN : N ≤ 12)
    (go : vc2 FoC 995 [] sk [(6, .sl idp 1 0 N none), (7, .sl idf 1 0 N none), (9, u), (18, .int .i64 (v : Nat)), (19, .int .i64 (k0 : Nat)), (176, .bool false)] (ga ++ ((idf, ⟨1, X⟩) :: (idp, ⟨1, P.map iv⟩) :: h)) R) :
    Run2 FoC (.code k49_96 :: .inLoop k49_96 :: .inBlock 12 :: sk) [(6, .sl idp 1 0 N none), (7, .sl idf 1 0 N none), (9, u), (18, .int .i64 (v : Nat)), (19, .int .i64 0)] (ga ++ ((idf, ⟨1, X⟩) :: (idp, ⟨1, P.map iv⟩) :: h)) R := by
  refine Run2.loopE (fun k => [(6, .sl idp 1 0 N none), (7, .sl idf 1 0 N none), (9, u), (18, .int .i64 (v : Nat)), (19, .int .i64 (k : Nat))]) (fun _ => ga ++ ((idf, ⟨1, X⟩) :: (idp, ⟨1, P.map iv⟩) :: h)) (fun k => k0 - k) (fun k => k ≤ k0) 0 (by simp) rfl (Nat.zero_le _) fun k hk' ih => ?_
  have hkN : k < P.length := by omega
  have hvN : v < N := by omega
  by_cases hlt : k < k0
  · have go1 := ih (k + 1) (by omega) (by omega)
    have hne1 := h2 k hlt
    clear ih
    refine Run2.of I 1000 ?_
    simp -implicitDefEqProofs [hlt, hget_app hp, hget_app hf, hne, hkN, hv, hne1, hvN, show k < N by omega]
    first | exact ⟨by omega, by simpa using go1⟩ | trace_state
  · obtain rfl : k = k0 := by omega
    refine Run2.of I 1000 ?_
    simp -implicitDefEqProofs [hget_app hp, hget_app hf, hne, hkN, hv, h1, hvN, show k < N by omega]
    exact go

theorem for_norm1 (I : Is FoC Try.f49) {h : Heap} {R : AV → Heap → Prop} {sk : List AItem} {x : Ph} {P F F' : List Int} {u : AV} {ga : Heap} {idp idf : Nat} {N : Nat} (fst : Nat → Nat) (hne : ¬ idf = idp) (hp : idp ∉ dom ga) (hf : idf ∉ dom ga)
    (l1 : P.length = N) (l2 : F.length = N) (l3 : F'.length = N) (hfst : ∀ (v : Nat) (hv : v < P.length), ∃ (hk : fst v ≤ v), P[fst v] = P[v] ∧ ∀ (j : Nat) (hj : j < fst v), P[j] ≠ P[v]) (hff : ∀ v, v < N → fst (fst v) = fst v)
    (hF : ∀ (v : Nat) (h1 : v < F.length) (h2 : v < F'.length) (h3 : fst v < F.length), F'[v] = if fst v < v then (F[v] - F[fst v]) % x.m else F[v]) (hb : ∀ (v : Nat) (h2 : v < F.length), 0 ≤ F[v] ∧ F[v] < x.m) (hm : 2 ≤ x.m ∧ x.m ≤ 360) (hN : N ≤ 12)
    (go : vc2 FoC 991 [] sk [(0, .ip [.int .i64 x.n, .int .i64 x.m, .snap 3 (x.ts.map T.av)]), (6, .sl idp 1 0 N none), (7, .sl idf 1 0 N none), (9, u), (16, .int .i64 (N : Nat)), (128, .bool false)] (ga ++ ((idf, ⟨1, F'.map iv⟩) :: (idp, ⟨1, P.map iv⟩) :: h)) R) :
    Run2 FoC (.code k49_82 :: .inLoop k49_82 :: .inBlock 6 :: sk) [(0, .ip [.int .i64 x.n, .int .i64 x.m, .snap 3 (x.ts.map T.av)]), (6, .sl idp 1 0 N none), (7, .sl idf 1 0 N none), (9, u), (16, .int .i64 0)] (ga ++ ((idf, ⟨1, F.map iv⟩) :: (idp, ⟨1, P.map iv⟩) :: h)) R := by
  rw [show F.map iv = inpl (F.map iv) (F'.map iv) 0 by simp]
  refine Run2.loopE (fun v => [(0, .ip [.int .i64 x.n, .int .i64 x.m, .snap 3 (x.ts.map T.av)]), (6, .sl idp 1 0 N none), (7, .sl idf 1 0 N none), (9, u), (16, .int .i64 (v : Nat))]) (fun v => ga ++ ((idf, ⟨1, inpl (F.map iv) (F'.map iv) v⟩) :: (idp, ⟨1, P.map iv⟩) :: h)) (fun v => N - v) (fun v => v ≤ N) 0 (by simp) rfl (Nat.zero_le _) fun v hv ih => ?_
  have n1 := inpl_len (l := F.map iv) (l' := F'.map iv) (v := v) (by simp; omega)
  by_cases hlt : v < N
  · have go1 := ih (v + 1) (by omega) (by omega)
    clear ih
    obtain ⟨hk, q1, q2⟩ := hfst v (by omega)
    have hkF : fst v < F.length := by omega
    have g1 := inpl_get (l := F.map iv) (l' := F'.map iv) (v := v) (by simp; omega) (by simp; omega) (by rw [n1]; simp; omega)
    have s1 := inpl_set (l := F.map iv) (l' := F'.map iv) (v := v) (by simp; omega) (by simp; omega)
    have k1 := inpl_keep (l := F.map iv) (l' := F'.map iv) (v := v) (by simp; omega) (by simp; omega)
    simp only [List.getElem_map] at g1 s1 k1
    have hF0 := hF v (by omega) (by omega) hkF
    have hF1 := hF (fst v) (by omega) (by omega) (by rw [hff v hlt]; omega)
    have hb0 := hb v (by omega)
    have hb1 := hb (fst v) (by omega)
    simp only [hff v hlt] at hF1
    rw [hF0] at s1 k1
    have g2 : ∀ hj : fst v < v, (inpl (F.map iv) (F'.map iv) v)[fst v]'(by rw [n1]; simp; omega) = .int .i64 F[fst v] := fun hj =>
      (inpl_old (l := F.map iv) (l' := F'.map iv) (v := v) (by simp; omega) hj (by simp; omega) (by rw [n1]; simp; omega)).trans (by rw [List.getElem_map, hF1, if_neg (Nat.lt_irrefl _)]; rfl)
    generalize hX : inpl (F.map iv) (F'.map iv) = X at *
    have m1 : v < (X v).length := by rw [n1]; simp; omega
    have m2 : fst v < (X v).length := by omega
    have m3 : fst v < N := by omega
    refine Run2.of I 1000 ?_
    simp -implicitDefEqProofs [hlt]
    refine for_first1 I hne hp hf l1 (by omega) hk q1 q2 hN ?_
    by_cases hj : fst v < v
    · have g2 := g2 hj
      simp -implicitDefEqProofs [hget_app hp, hget_app hf, hset_app hp, hset_app hf, hne, m1, m2, m3, hlt, g1, hj, g2]
      refine ⟨by omega, by omega, by omega, ?_⟩
      simp only [iv, if_pos hj] at s1
      rw [s1]
      simpa using go1
    · simp -implicitDefEqProofs [hget_app hp, hget_app hf, hset_app hp, hset_app hf, hne, m1, m2, m3, hlt, g1, hj]
      refine ⟨by omega, ?_⟩
      simp only [if_neg hj, forall_const] at k1
      rw [k1]
      simpa using go1
  · obtain rfl : v = N := by omega
    have e1 : inpl (F.map iv) (F'.map iv) v = F'.map iv := by have := inpl_end (l := F.map iv) (l' := F'.map iv) (by simp; omega); simpa [l2] using this
    refine Run2.of I 1000 ?_
    simp -implicitDefEqProofs
    rw [e1]
    exact go

theorem for_norm2 (I : Is FoC Try.f49) {h : Heap} {R : AV → Heap → Prop} {sk : List AItem} {x : Ph} {P F F' : List Int} {u : AV} {ga : Heap} {idp idf : Nat} {N : Nat} (fst : Nat → Nat) (hne : ¬ idf = idp) (hp : idp ∉ dom ga) (hf : idf ∉ dom ga)
    (l1 : P.length = N) (l2 : F.length = N) (l3 : F'.length = N) (hfst : ∀ (v : Nat) (hv : v < P.length), ∃ (hk : fst v ≤ v), P[fst v] = P[v] ∧ ∀ (j : Nat) (hj : j < fst v), P[j] ≠ P[v]) (hff : ∀ v, v < N → fst (fst v) = fst v)
    (hF : ∀ (v : Nat) (h1 : v < F.length) (h2 : v < F'.length) (h3 : fst v < F.length), F'[v] = if fst v = v then 0 else F[v]) (hb : ∀ (v : Nat) (h2 : v < F.length), 0 ≤ F[v] ∧ F[v] < x.m) (hm : 2 ≤ x.m ∧ x.m ≤ 360) (hN : N ≤ 12)
    (go : vc2 FoC 991 [] sk [(6, .sl idp 1 0 N none), (7, .sl idf 1 0 N none), (9, u), (18, .int .i64 (N : Nat)), (165, .bool false)] (ga ++ ((idf, ⟨1, F'.map iv⟩) :: (idp, ⟨1, P.map iv⟩) :: h)) R) :
    Run2 FoC (.code k49_108 :: .inLoop k49_108 :: .inBlock 10 :: sk) [(6, .sl idp 1 0 N none), (7, .sl idf 1 0 N none), (9, u), (18, .int .i64 0)] (ga ++ ((idf, ⟨1, F.map iv⟩) :: (idp, ⟨1, P.map iv⟩) :: h)) R := by
  rw [show F.map iv = inpl (F.map iv) (F'.map iv) 0 by simp]
  refine Run2.loopE (fun v => [(6, .sl idp 1 0 N none), (7, .sl idf 1 0 N none), (9, u), (18, .int .i64 (v : Nat))]) (fun v => ga ++ ((idf, ⟨1, inpl (F.map iv) (F'.map iv) v⟩) :: (idp, ⟨1, P.map iv⟩) :: h)) (fun v => N - v) (fun v => v ≤ N) 0 (by simp) rfl (Nat.zero_le _) fun v hv ih => ?_
  have n1 := inpl_len (l := F.map iv) (l' := F'.map iv) (v := v) (by simp; omega)
  by_cases hlt : v < N
  · have go1 := ih (v + 1) (by omega) (by omega)
    clear ih
    obtain ⟨hk, q1, q2⟩ := hfst v (by omega)
    have hkF : fst v < F.length := by omega
    have g1 := inpl_get (l := F.map iv) (l' := F'.map iv) (v := v) (by simp; omega) (by simp; omega) (by rw [n1]; simp; omega)
    have s1 := inpl_set (l := F.map iv) (l' := F'.map iv) (v := v) (by simp; omega) (by simp; omega)
    have k1 := inpl_keep (l := F.map iv) (l' := F'.map iv) (v := v) (by simp; omega) (by simp; omega)
    simp only [List.getElem_map] at g1 s1 k1
    have hF0 := hF v (by omega) (by omega) hkF
    have hF1 := hF (fst v) (by omega) (by omega) (by rw [hff v hlt]; omega)
    have hb0 := hb v (by omega)
    have hb1 := hb (fst v) (by omega)
    simp only [hff v hlt] at hF1
    rw [hF0] at s1 k1
    generalize hX : inpl (F.map iv) (F'.map iv) = X at *
    have m1 : v < (X v).length := by rw [n1]; simp; omega
    have m2 : fst v < (X v).length := by omega
    have m3 : fst v < N := by omega
    refine Run2.of I 1000 ?_
    simp -implicitDefEqProofs [hlt]
    refine for_first2 (x := x) I hne hp hf l1 (by omega) hk q1 q2 hN ?_
    by_cases hj : fst v = v
    · simp -implicitDefEqProofs [hget_app hp, hget_app hf, hset_app hp, hset_app hf, hne, m1, m2, m3, hlt, g1, hj]
      refine ⟨by omega, ?_⟩
      simp only [iv, if_pos hj] at s1
      rw [s1]
      simpa using go1
    · have hj' : ¬ (fst v : Int) = v := by omega
      simp -implicitDefEqProofs [hget_app hp, hget_app hf, hset_app hp, hset_app hf, hne, m1, m2, m3, hlt, g1, hj, hj']
      refine ⟨by omega, ?_⟩
      simp only [if_neg hj, forall_const] at k1
      rw [k1]
      simpa using go1
  · obtain rfl : v = N := by omega
    have e1 : inpl (F.map iv) (F'.map iv) v = F'.map iv := by have := inpl_end (l := F.map iv) (l' := F'.map iv) (by simp; omega); simpa [l2] using this
    refine Run2.of I 1000 ?_
    simp -implicitDefEqProofs
    rw [e1]
    exact go
end Go.AG
