/- The reference's forest of a graph and the phases along it. No statement is made here. -/
import Derived.Test.YtknonamjhdlmlaaPhTurnB
namespace Go.AG
open Go.Proofs Go.Proofs.Ytknonamjhdlmlaa
set_option linter.unusedSimpArgs false
set_option linter.unusedVariables false
set_option maxRecDepth 4000
/-- A list that is changed in place: the first v are new. -/
def inpl {α : Type} (l l' : List α) (v : Nat) : List α := l'.take v ++ l.drop v
section
variable {α β : Type} {l l' : List α} {v : Nat}
theorem inpl_len (h : l'.length = l.length) : (inpl l l' v).length = l.length := by simp [inpl]; omega
@[simp] theorem inpl_zero : inpl l l' 0 = l := by simp [inpl]
theorem inpl_end (h : l'.length = l.length) : inpl l l' l.length = l' := by simp [inpl, ← h]
theorem inpl_get (h : l'.length = l.length) (hv : v < l.length) (h2 : v < (inpl l l' v).length) : (inpl l l' v)[v] = l[v] := by
  simp only [inpl]
  rw [List.getElem_append_right (by simp; omega)]
  simp [Nat.min_eq_left (show v ≤ l'.length by omega)]
theorem inpl_old (h : l'.length = l.length) {j : Nat} (hj : j < v) (hv : v < l.length) (h2 : j < (inpl l l' v).length) : (inpl l l' v)[j] = l'[j] := by
  simp only [inpl]
  rw [List.getElem_append_left (by simp; omega)]
  simp
theorem inpl_set (h : l'.length = l.length) (hv : v < l.length) : (inpl l l' v).set v (l'[v]'(h ▸ hv)) = inpl l l' (v + 1) := by
  have h1 : (l'.take v).length = v := by simp; omega
  unfold inpl
  rw [List.take_succ_eq_append_getElem (by omega), List.set_append_right _ _ (by omega), h1, Nat.sub_self, List.drop_eq_getElem_cons hv]
  simp only [List.set_cons_zero, List.append_assoc, List.cons_append, List.nil_append]
theorem inpl_keep (h : l'.length = l.length) (hv : v < l.length) (he : l'[v]'(h ▸ hv) = l[v]) : inpl l l' v = inpl l l' (v + 1) := by
  rw [← inpl_set h hv, he, ← inpl_get h hv (by rw [inpl_len h]; exact hv), List.set_getElem_self]
theorem inpl_map (f : α → β) : (inpl l l' v).map f = inpl (l.map f) (l'.map f) v := by simp [inpl]
end
abbrev c_spec_l23Forest_o0 : List AJ := [.o ⟨(some 4), none, false, .mv (.c .nilsl), none⟩, .o ⟨(some 5), none, false, .mv (.c .nilsl), (some [0, 1])⟩]
def c_spec_l23Forest_0 : ACode := .region c_spec_l23Forest_o0
abbrev c_spec_l23Forest_o1 : List AJ := [.e 20 1 none, .o ⟨(some 6), none, false, .mv (.t 20), (some [0, 1, 6])⟩]
def c_spec_l23Forest_1 : ACode := .region c_spec_l23Forest_o1
abbrev c_spec_l23Forest_o2 : List AJ := [.e 21 1 none, .o ⟨(some 7), none, false, .mv (.t 21), (some [0, 1, 6, 7])⟩]
def c_spec_l23Forest_2 : ACode := .region c_spec_l23Forest_o2
abbrev c_spec_l23Forest_o3 : List AJ := [.o ⟨(some 8), none, false, .mv (.c (.int .i64 0)), (some [0, 1, 6, 7, 8])⟩]
def c_spec_l23Forest_3 : ACode := .region c_spec_l23Forest_o3
abbrev c_spec_l23Forest_o4 : List AJ := [.o ⟨(some 22), none, false, .mv (.t 8), none⟩, .o ⟨(some 23), none, false, .mv (.t 0), none⟩, .o ⟨(some 24), none, false, .nilchk (.t 23), none⟩, .o ⟨(some 25), none, false, .fieldA 0 (.t 24), none⟩, .o ⟨(some 26), none, false, .load 1 false (.t 25), none⟩, .o ⟨(some 27), none, false, .bin .lss (.t 22) (.t 26), (some [0, 1, 6, 7, 8, 27])⟩]
def c_spec_l23Forest_4 : ACode := .region c_spec_l23Forest_o4
def c_spec_l23Forest_5 : ACode := .cond (.t 27) .skip (.exit 0)
def c_spec_l23Forest_6 : ACode := .seq c_spec_l23Forest_4 c_spec_l23Forest_5
abbrev c_spec_l23Forest_o5 : List AJ := [.o ⟨(some 30), none, false, .mv (.t 6), none⟩, .o ⟨(some 31), none, false, .mv (.t 8), none⟩, .o ⟨(some 32), none, false, .bsl false 1 [(.t 31)], none⟩, .o ⟨(some 33), none, false, .append 1 8 (.t 30) (.t 32), none⟩, .o ⟨(some 6), none, false, .mv (.t 33), (some [0, 1, 6, 7, 8])⟩]
def c_spec_l23Forest_7 : ACode := .region c_spec_l23Forest_o5
abbrev c_spec_l23Forest_o6 : List AJ := [.o ⟨(some 34), none, false, .mv (.t 7), none⟩, .o ⟨(some 35), none, false, .bsl false 1 [(.c (.int .i64 0))], none⟩, .o ⟨(some 36), none, false, .append 1 8 (.t 34) (.t 35), none⟩, .o ⟨(some 7), none, false, .mv (.t 36), (some [0, 1, 6, 7, 8])⟩]
def c_spec_l23Forest_8 : ACode := .region c_spec_l23Forest_o6
def c_spec_l23Forest_9 : ACode := .seq c_spec_l23Forest_7 c_spec_l23Forest_8
def c_spec_l23Forest_10 : ACode := .block 1 c_spec_l23Forest_9
abbrev c_spec_l23Forest_o7 : List AJ := [.o ⟨(some 28), none, false, .mv (.t 8), none⟩, .o ⟨(some 29), none, true, .bin .add (.t 28) (.c (.int .i64 1)), none⟩, .o ⟨(some 8), none, false, .mv (.t 29), (some [0, 1, 6, 7, 8])⟩]
def c_spec_l23Forest_11 : ACode := .region c_spec_l23Forest_o7
def c_spec_l23Forest_12 : ACode := .seq c_spec_l23Forest_10 c_spec_l23Forest_11
def c_spec_l23Forest_13 : ACode := .seq c_spec_l23Forest_6 c_spec_l23Forest_12
def c_spec_l23Forest_14 : ACode := .loop c_spec_l23Forest_13
def c_spec_l23Forest_15 : ACode := .block 0 c_spec_l23Forest_14
def c_spec_l23Forest_16 : ACode := .seq c_spec_l23Forest_3 c_spec_l23Forest_15
abbrev c_spec_l23Forest_o8 : List AJ := [.e 37 1 none, .o ⟨(some 9), none, false, .mv (.t 37), (some [0, 1, 6, 7, 9])⟩]
def c_spec_l23Forest_17 : ACode := .region c_spec_l23Forest_o8
abbrev c_spec_l23Forest_o9 : List AJ := [.o ⟨(some 10), none, false, .mv (.c (.int .i64 0)), (some [0, 1, 6, 7, 9, 10])⟩]
def c_spec_l23Forest_18 : ACode := .region c_spec_l23Forest_o9
abbrev c_spec_l23Forest_o10 : List AJ := [.o ⟨(some 38), none, false, .mv (.t 10), none⟩, .o ⟨(some 39), none, false, .mv (.t 0), none⟩, .o ⟨(some 40), none, false, .nilchk (.t 39), none⟩, .o ⟨(some 41), none, false, .fieldA 2 (.t 40), none⟩, .o ⟨(some 42), none, false, .load 1 false (.t 41), none⟩, .o ⟨(some 43), none, false, .len (.t 42), none⟩, .o ⟨(some 44), none, false, .bin .lss (.t 38) (.t 43), (some [0, 1, 6, 7, 9, 10, 44])⟩]
def c_spec_l23Forest_19 : ACode := .region c_spec_l23Forest_o10
def c_spec_l23Forest_20 : ACode := .cond (.t 44) .skip (.exit 2)
def c_spec_l23Forest_21 : ACode := .seq c_spec_l23Forest_19 c_spec_l23Forest_20
abbrev c_spec_l23Forest_o11 : List AJ := [.o ⟨(some 47), none, false, .mv (.t 0), none⟩, .o ⟨(some 48), none, false, .nilchk (.t 47), none⟩, .o ⟨(some 49), none, false, .fieldA 2 (.t 48), none⟩, .o ⟨(some 50), none, false, .load 1 false (.t 49), none⟩, .o ⟨(some 51), none, false, .mv (.t 10), none⟩, .o ⟨(some 52), none, false, .idxA 3 (.t 50) (.t 51), none⟩, .o ⟨(some 53), none, false, .load 3 true (.t 52), none⟩, .v 11 3 (.agg [(.int .i64 0), (.int .i64 0), (.int .i64 0)]) [] (.t 53) (some [0, 1, 6, 7, 9, 10, 11])]
def c_spec_l23Forest_22 : ACode := .region c_spec_l23Forest_o11
abbrev c_spec_l23Forest_o12 : List AJ := [.o ⟨(some 54), none, false, .mv (.t 6), none⟩, .o ⟨(some 55), none, false, .fieldA 0 (.t 11), none⟩, .o ⟨(some 56), none, false, .load 1 false (.t 55), none⟩, .o ⟨(some 57), none, false, .idxA 1 (.t 54) (.t 56), none⟩, .o ⟨(some 58), none, false, .load 1 false (.t 57), none⟩, .o ⟨(some 12), none, false, .mv (.t 58), (some [0, 1, 6, 7, 9, 10, 11, 12])⟩]
def c_spec_l23Forest_23 : ACode := .region c_spec_l23Forest_o12
abbrev c_spec_l23Forest_o13 : List AJ := [.o ⟨(some 59), none, false, .mv (.t 6), none⟩, .o ⟨(some 60), none, false, .fieldA 1 (.t 11), none⟩, .o ⟨(some 61), none, false, .load 1 false (.t 60), none⟩, .o ⟨(some 62), none, false, .idxA 1 (.t 59) (.t 61), none⟩, .o ⟨(some 63), none, false, .load 1 false (.t 62), none⟩, .o ⟨(some 13), none, false, .mv (.t 63), (some [0, 1, 6, 7, 9, 10, 11, 12, 13])⟩]
def c_spec_l23Forest_24 : ACode := .region c_spec_l23Forest_o13
abbrev c_spec_l23Forest_o14 : List AJ := [.o ⟨(some 64), none, false, .mv (.t 12), none⟩, .o ⟨(some 65), none, false, .mv (.t 13), none⟩, .o ⟨(some 66), none, false, .bin .eql (.t 64) (.t 65), none⟩, .o ⟨(some 67), none, false, .mv (.t 66), none⟩, .o ⟨(some 68), (some (67, false)), false, .mv (.t 1), none⟩, .o ⟨(some 69), (some (67, false)), false, .mv (.t 10), none⟩, .o ⟨(some 70), (some (67, false)), false, .call 95 [(.t 68), (.t 69)], none⟩, .o ⟨(some 71), none, false, .pick (.t 67) (.c (.bool true)) (.t 70), (some [0, 1, 6, 7, 9, 10, 11, 12, 13, 71])⟩]
def c_spec_l23Forest_25 : ACode := .region c_spec_l23Forest_o14
def c_spec_l23Forest_26 : ACode := .cond (.t 71) (.exit 3) .skip
def c_spec_l23Forest_27 : ACode := .seq c_spec_l23Forest_25 c_spec_l23Forest_26
abbrev c_spec_l23Forest_o15 : List AJ := [.o ⟨(some 72), none, false, .mv (.t 9), none⟩, .o ⟨(some 73), none, false, .mv (.t 10), none⟩, .o ⟨(some 74), none, false, .bsl false 1 [(.t 73)], none⟩, .o ⟨(some 75), none, false, .append 1 8 (.t 72) (.t 74), none⟩, .o ⟨(some 9), none, false, .mv (.t 75), (some [0, 1, 6, 7, 9, 10, 11, 12, 13])⟩]
def c_spec_l23Forest_28 : ACode := .region c_spec_l23Forest_o15
abbrev c_spec_l23Forest_o16 : List AI := [⟨(some 76), none, false, .mv (.t 7), none⟩, ⟨(some 77), none, false, .fieldA 0 (.t 11), none⟩, ⟨(some 78), none, false, .load 1 false (.t 77), none⟩, ⟨(some 79), none, false, .idxA 1 (.t 76) (.t 78), none⟩, ⟨(some 80), none, false, .load 1 false (.t 79), none⟩, ⟨(some 81), none, false, .fieldA 2 (.t 11), none⟩, ⟨(some 82), none, false, .load 1 false (.t 81), none⟩, ⟨(some 83), none, true, .bin .add (.t 80) (.t 82), none⟩, ⟨(some 84), none, false, .mv (.t 7), none⟩, ⟨(some 85), none, false, .fieldA 1 (.t 11), none⟩, ⟨(some 86), none, false, .load 1 false (.t 85), none⟩, ⟨(some 87), none, false, .idxA 1 (.t 84) (.t 86), none⟩, ⟨(some 88), none, false, .load 1 false (.t 87), none⟩, ⟨(some 89), none, true, .bin .sub (.t 83) (.t 88), (some [0, 1, 6, 7, 9, 10, 12, 13, 89])⟩, ⟨(some 90), none, false, .mv (.t 0), none⟩, ⟨(some 91), none, false, .nilchk (.t 90), none⟩, ⟨(some 92), none, false, .fieldA 1 (.t 91), none⟩, ⟨(some 93), none, false, .load 1 false (.t 92), none⟩, ⟨(some 94), none, false, .call 64 [(.t 89), (.t 93)], none⟩, ⟨(some 14), none, false, .mv (.t 94), (some [0, 1, 6, 7, 9, 10, 12, 13, 14])⟩]
def c_spec_l23Forest_29 : ACode := .draw c_spec_l23Forest_o16 [] rfl
abbrev c_spec_l23Forest_o17 : List AJ := [.o ⟨(some 15), none, false, .mv (.c (.int .i64 0)), (some [0, 1, 6, 7, 9, 10, 12, 13, 14, 15])⟩]
def c_spec_l23Forest_30 : ACode := .region c_spec_l23Forest_o17
abbrev c_spec_l23Forest_o18 : List AJ := [.o ⟨(some 95), none, false, .mv (.t 15), none⟩, .o ⟨(some 96), none, false, .mv (.t 6), none⟩, .o ⟨(some 97), none, false, .len (.t 96), none⟩, .o ⟨(some 98), none, false, .bin .lss (.t 95) (.t 97), (some [0, 1, 6, 7, 9, 10, 12, 13, 14, 15, 98])⟩]
def c_spec_l23Forest_31 : ACode := .region c_spec_l23Forest_o18
def c_spec_l23Forest_32 : ACode := .cond (.t 98) .skip (.exit 4)
def c_spec_l23Forest_33 : ACode := .seq c_spec_l23Forest_31 c_spec_l23Forest_32
abbrev c_spec_l23Forest_o19 : List AJ := [.o ⟨(some 101), none, false, .mv (.t 6), none⟩, .o ⟨(some 102), none, false, .mv (.t 15), none⟩, .o ⟨(some 103), none, false, .idxA 1 (.t 101) (.t 102), none⟩, .o ⟨(some 104), none, false, .load 1 false (.t 103), none⟩, .o ⟨(some 105), none, false, .mv (.t 13), none⟩, .o ⟨(some 106), none, false, .bin .eql (.t 104) (.t 105), (some [0, 1, 6, 7, 9, 10, 12, 13, 14, 15, 106])⟩]
def c_spec_l23Forest_34 : ACode := .region c_spec_l23Forest_o19
abbrev c_spec_l23Forest_o20 : List AJ := [.o ⟨(some 107), none, false, .mv (.t 6), none⟩, .o ⟨(some 108), none, false, .mv (.t 15), none⟩, .o ⟨(some 109), none, false, .mv (.t 12), none⟩, .o ⟨(some 110), none, false, .idxA 1 (.t 107) (.t 108), none⟩, .o ⟨none, none, false, .store 1 (.t 110) (.t 109), (some [0, 1, 6, 7, 9, 10, 12, 13, 14, 15])⟩]
def c_spec_l23Forest_35 : ACode := .region c_spec_l23Forest_o20
abbrev c_spec_l23Forest_o21 : List AI := [⟨(some 111), none, false, .mv (.t 7), none⟩, ⟨(some 112), none, false, .mv (.t 15), none⟩, ⟨(some 113), none, false, .mv (.t 7), none⟩, ⟨(some 114), none, false, .mv (.t 15), none⟩, ⟨(some 115), none, false, .idxA 1 (.t 113) (.t 114), none⟩, ⟨(some 116), none, false, .load 1 false (.t 115), none⟩, ⟨(some 117), none, false, .mv (.t 14), none⟩, ⟨(some 118), none, true, .bin .add (.t 116) (.t 117), none⟩, ⟨(some 119), none, false, .mv (.t 0), none⟩, ⟨(some 120), none, false, .nilchk (.t 119), none⟩, ⟨(some 121), none, false, .fieldA 1 (.t 120), none⟩, ⟨(some 122), none, false, .load 1 false (.t 121), none⟩, ⟨(some 123), none, false, .bin .rem (.t 118) (.t 122), none⟩, ⟨(some 124), none, false, .idxA 1 (.t 111) (.t 112), (some [0, 1, 6, 7, 9, 10, 12, 13, 14, 15, 123, 124])⟩]
abbrev c_spec_l23Forest_o22 : List AJ := [.o ⟨none, none, false, .store 1 (.t 124) (.t 123), (some [0, 1, 6, 7, 9, 10, 12, 13, 14, 15])⟩]
def c_spec_l23Forest_36 : ACode := .draw c_spec_l23Forest_o21 c_spec_l23Forest_o22 rfl
def c_spec_l23Forest_37 : ACode := .seq c_spec_l23Forest_35 c_spec_l23Forest_36
def c_spec_l23Forest_38 : ACode := .cond (.t 106) c_spec_l23Forest_37 .skip
def c_spec_l23Forest_39 : ACode := .seq c_spec_l23Forest_34 c_spec_l23Forest_38
def c_spec_l23Forest_40 : ACode := .block 5 c_spec_l23Forest_39
abbrev c_spec_l23Forest_o23 : List AJ := [.o ⟨(some 99), none, false, .mv (.t 15), none⟩, .o ⟨(some 100), none, true, .bin .add (.t 99) (.c (.int .i64 1)), none⟩, .o ⟨(some 15), none, false, .mv (.t 100), (some [0, 1, 6, 7, 9, 10, 12, 13, 14, 15])⟩]
def c_spec_l23Forest_41 : ACode := .region c_spec_l23Forest_o23
def c_spec_l23Forest_42 : ACode := .seq c_spec_l23Forest_40 c_spec_l23Forest_41
def c_spec_l23Forest_43 : ACode := .seq c_spec_l23Forest_33 c_spec_l23Forest_42
def c_spec_l23Forest_44 : ACode := .loop c_spec_l23Forest_43
def c_spec_l23Forest_45 : ACode := .block 4 c_spec_l23Forest_44
def c_spec_l23Forest_46 : ACode := .seq c_spec_l23Forest_30 c_spec_l23Forest_45
def c_spec_l23Forest_47 : ACode := .seq c_spec_l23Forest_29 c_spec_l23Forest_46
def c_spec_l23Forest_48 : ACode := .seq c_spec_l23Forest_28 c_spec_l23Forest_47
def c_spec_l23Forest_49 : ACode := .seq c_spec_l23Forest_27 c_spec_l23Forest_48
def c_spec_l23Forest_50 : ACode := .seq c_spec_l23Forest_24 c_spec_l23Forest_49
def c_spec_l23Forest_51 : ACode := .seq c_spec_l23Forest_23 c_spec_l23Forest_50
def c_spec_l23Forest_52 : ACode := .seq c_spec_l23Forest_22 c_spec_l23Forest_51
def c_spec_l23Forest_53 : ACode := .block 3 c_spec_l23Forest_52
abbrev c_spec_l23Forest_o24 : List AJ := [.o ⟨(some 45), none, false, .mv (.t 10), none⟩, .o ⟨(some 46), none, true, .bin .add (.t 45) (.c (.int .i64 1)), none⟩, .o ⟨(some 10), none, false, .mv (.t 46), (some [0, 1, 6, 7, 9, 10])⟩]
def c_spec_l23Forest_54 : ACode := .region c_spec_l23Forest_o24
def c_spec_l23Forest_55 : ACode := .seq c_spec_l23Forest_53 c_spec_l23Forest_54
def c_spec_l23Forest_56 : ACode := .seq c_spec_l23Forest_21 c_spec_l23Forest_55
def c_spec_l23Forest_57 : ACode := .loop c_spec_l23Forest_56
def c_spec_l23Forest_58 : ACode := .block 2 c_spec_l23Forest_57
def c_spec_l23Forest_59 : ACode := .seq c_spec_l23Forest_18 c_spec_l23Forest_58
abbrev c_spec_l23Forest_o25 : List AJ := [.o ⟨(some 16), none, false, .mv (.c (.int .i64 0)), (some [0, 6, 7, 9, 16])⟩]
def c_spec_l23Forest_60 : ACode := .region c_spec_l23Forest_o25
abbrev c_spec_l23Forest_o26 : List AJ := [.o ⟨(some 125), none, false, .mv (.t 16), none⟩, .o ⟨(some 126), none, false, .mv (.t 6), none⟩, .o ⟨(some 127), none, false, .len (.t 126), none⟩, .o ⟨(some 128), none, false, .bin .lss (.t 125) (.t 127), (some [0, 6, 7, 9, 16, 128])⟩]
def c_spec_l23Forest_61 : ACode := .region c_spec_l23Forest_o26
def c_spec_l23Forest_62 : ACode := .cond (.t 128) .skip (.exit 6)
def c_spec_l23Forest_63 : ACode := .seq c_spec_l23Forest_61 c_spec_l23Forest_62
abbrev c_spec_l23Forest_o27 : List AJ := [.o ⟨(some 17), none, false, .mv (.c (.int .i64 0)), (some [0, 6, 7, 9, 16, 17])⟩]
def c_spec_l23Forest_64 : ACode := .region c_spec_l23Forest_o27
abbrev c_spec_l23Forest_o28 : List AI := [⟨(some 131), none, false, .mv (.t 6), none⟩, ⟨(some 132), none, false, .mv (.t 17), none⟩, ⟨(some 133), none, false, .idxA 1 (.t 131) (.t 132), none⟩, ⟨(some 134), none, false, .load 1 false (.t 133), none⟩, ⟨(some 135), none, false, .mv (.t 6), none⟩, ⟨(some 136), none, false, .mv (.t 16), none⟩, ⟨(some 137), none, false, .idxA 1 (.t 135) (.t 136), none⟩, ⟨(some 138), none, false, .load 1 false (.t 137), none⟩, ⟨(some 139), none, false, .bin .neq (.t 134) (.t 138), (some [0, 6, 7, 9, 16, 17, 139])⟩]
def c_spec_l23Forest_65 : ACode := .draw c_spec_l23Forest_o28 [] rfl
def c_spec_l23Forest_66 : ACode := .cond (.t 139) .skip (.exit 8)
def c_spec_l23Forest_67 : ACode := .seq c_spec_l23Forest_65 c_spec_l23Forest_66
abbrev c_spec_l23Forest_o29 : List AJ := [.o ⟨(some 140), none, false, .mv (.t 17), none⟩, .o ⟨(some 141), none, true, .bin .add (.t 140) (.c (.int .i64 1)), none⟩, .o ⟨(some 17), none, false, .mv (.t 141), (some [0, 6, 7, 9, 16, 17])⟩]
def c_spec_l23Forest_68 : ACode := .region c_spec_l23Forest_o29
def c_spec_l23Forest_69 : ACode := .block 9 c_spec_l23Forest_68
def c_spec_l23Forest_70 : ACode := .seq c_spec_l23Forest_67 c_spec_l23Forest_69
def c_spec_l23Forest_71 : ACode := .loop c_spec_l23Forest_70
def c_spec_l23Forest_72 : ACode := .block 8 c_spec_l23Forest_71
abbrev c_spec_l23Forest_o30 : List AJ := [.o ⟨(some 142), none, false, .mv (.t 17), none⟩, .o ⟨(some 143), none, false, .mv (.t 16), none⟩, .o ⟨(some 144), none, false, .bin .lss (.t 142) (.t 143), (some [0, 6, 7, 9, 16, 17, 144])⟩]
def c_spec_l23Forest_73 : ACode := .region c_spec_l23Forest_o30
abbrev c_spec_l23Forest_o31 : List AI := [⟨(some 145), none, false, .mv (.t 7), none⟩, ⟨(some 146), none, false, .mv (.t 16), none⟩, ⟨(some 147), none, false, .mv (.t 7), none⟩, ⟨(some 148), none, false, .mv (.t 16), none⟩, ⟨(some 149), none, false, .idxA 1 (.t 147) (.t 148), none⟩, ⟨(some 150), none, false, .load 1 false (.t 149), none⟩, ⟨(some 151), none, false, .mv (.t 7), none⟩, ⟨(some 152), none, false, .mv (.t 17), none⟩, ⟨(some 153), none, false, .idxA 1 (.t 151) (.t 152), none⟩, ⟨(some 154), none, false, .load 1 false (.t 153), none⟩, ⟨(some 155), none, true, .bin .sub (.t 150) (.t 154), none⟩, ⟨(some 156), none, false, .mv (.t 0), none⟩, ⟨(some 157), none, false, .nilchk (.t 156), none⟩, ⟨(some 158), none, false, .fieldA 1 (.t 157), (some [0, 6, 7, 9, 16, 145, 146, 155, 158])⟩, ⟨(some 159), none, false, .load 1 false (.t 158), none⟩, ⟨(some 160), none, false, .call 64 [(.t 155), (.t 159)], none⟩, ⟨(some 161), none, false, .idxA 1 (.t 145) (.t 146), (some [0, 6, 7, 9, 16, 160, 161])⟩]
abbrev c_spec_l23Forest_o32 : List AJ := [.o ⟨none, none, false, .store 1 (.t 161) (.t 160), (some [0, 6, 7, 9, 16])⟩]
def c_spec_l23Forest_74 : ACode := .draw c_spec_l23Forest_o31 c_spec_l23Forest_o32 rfl
def c_spec_l23Forest_75 : ACode := .cond (.t 144) c_spec_l23Forest_74 .skip
def c_spec_l23Forest_76 : ACode := .seq c_spec_l23Forest_73 c_spec_l23Forest_75
def c_spec_l23Forest_77 : ACode := .seq c_spec_l23Forest_72 c_spec_l23Forest_76
def c_spec_l23Forest_78 : ACode := .seq c_spec_l23Forest_64 c_spec_l23Forest_77
def c_spec_l23Forest_79 : ACode := .block 7 c_spec_l23Forest_78
abbrev c_spec_l23Forest_o33 : List AJ := [.o ⟨(some 129), none, false, .mv (.t 16), none⟩, .o ⟨(some 130), none, true, .bin .add (.t 129) (.c (.int .i64 1)), none⟩, .o ⟨(some 16), none, false, .mv (.t 130), (some [0, 6, 7, 9, 16])⟩]
def c_spec_l23Forest_80 : ACode := .region c_spec_l23Forest_o33
def c_spec_l23Forest_81 : ACode := .seq c_spec_l23Forest_79 c_spec_l23Forest_80
def c_spec_l23Forest_82 : ACode := .seq c_spec_l23Forest_63 c_spec_l23Forest_81
def c_spec_l23Forest_83 : ACode := .loop c_spec_l23Forest_82
def c_spec_l23Forest_84 : ACode := .block 6 c_spec_l23Forest_83
def c_spec_l23Forest_85 : ACode := .seq c_spec_l23Forest_60 c_spec_l23Forest_84
abbrev c_spec_l23Forest_o34 : List AJ := [.o ⟨(some 18), none, false, .mv (.c (.int .i64 0)), (some [6, 7, 9, 18])⟩]
def c_spec_l23Forest_86 : ACode := .region c_spec_l23Forest_o34
abbrev c_spec_l23Forest_o35 : List AJ := [.o ⟨(some 162), none, false, .mv (.t 18), none⟩, .o ⟨(some 163), none, false, .mv (.t 6), none⟩, .o ⟨(some 164), none, false, .len (.t 163), none⟩, .o ⟨(some 165), none, false, .bin .lss (.t 162) (.t 164), (some [6, 7, 9, 18, 165])⟩]
def c_spec_l23Forest_87 : ACode := .region c_spec_l23Forest_o35
def c_spec_l23Forest_88 : ACode := .cond (.t 165) .skip (.exit 10)
def c_spec_l23Forest_89 : ACode := .seq c_spec_l23Forest_87 c_spec_l23Forest_88
abbrev c_spec_l23Forest_o36 : List AJ := [.o ⟨(some 19), none, false, .mv (.c (.int .i64 0)), (some [6, 7, 9, 18, 19])⟩]
def c_spec_l23Forest_90 : ACode := .region c_spec_l23Forest_o36
abbrev c_spec_l23Forest_o37 : List AI := [⟨(some 168), none, false, .mv (.t 6), none⟩, ⟨(some 169), none, false, .mv (.t 19), none⟩, ⟨(some 170), none, false, .idxA 1 (.t 168) (.t 169), none⟩, ⟨(some 171), none, false, .load 1 false (.t 170), none⟩, ⟨(some 172), none, false, .mv (.t 6), none⟩, ⟨(some 173), none, false, .mv (.t 18), none⟩, ⟨(some 174), none, false, .idxA 1 (.t 172) (.t 173), none⟩, ⟨(some 175), none, false, .load 1 false (.t 174), none⟩, ⟨(some 176), none, false, .bin .neq (.t 171) (.t 175), (some [6, 7, 9, 18, 19, 176])⟩]
def c_spec_l23Forest_91 : ACode := .draw c_spec_l23Forest_o37 [] rfl
def c_spec_l23Forest_92 : ACode := .cond (.t 176) .skip (.exit 12)
def c_spec_l23Forest_93 : ACode := .seq c_spec_l23Forest_91 c_spec_l23Forest_92
abbrev c_spec_l23Forest_o38 : List AJ := [.o ⟨(some 177), none, false, .mv (.t 19), none⟩, .o ⟨(some 178), none, true, .bin .add (.t 177) (.c (.int .i64 1)), none⟩, .o ⟨(some 19), none, false, .mv (.t 178), (some [6, 7, 9, 18, 19])⟩]
def c_spec_l23Forest_94 : ACode := .region c_spec_l23Forest_o38
def c_spec_l23Forest_95 : ACode := .block 13 c_spec_l23Forest_94
def c_spec_l23Forest_96 : ACode := .seq c_spec_l23Forest_93 c_spec_l23Forest_95
def c_spec_l23Forest_97 : ACode := .loop c_spec_l23Forest_96
def c_spec_l23Forest_98 : ACode := .block 12 c_spec_l23Forest_97
abbrev c_spec_l23Forest_o39 : List AJ := [.o ⟨(some 179), none, false, .mv (.t 19), none⟩, .o ⟨(some 180), none, false, .mv (.t 18), none⟩, .o ⟨(some 181), none, false, .bin .eql (.t 179) (.t 180), (some [6, 7, 9, 18, 181])⟩]
def c_spec_l23Forest_99 : ACode := .region c_spec_l23Forest_o39
abbrev c_spec_l23Forest_o40 : List AJ := [.o ⟨(some 182), none, false, .mv (.t 7), none⟩, .o ⟨(some 183), none, false, .mv (.t 18), none⟩, .o ⟨(some 184), none, false, .idxA 1 (.t 182) (.t 183), none⟩, .o ⟨none, none, false, .store 1 (.t 184) (.c (.int .i64 0)), (some [6, 7, 9, 18])⟩]
def c_spec_l23Forest_100 : ACode := .region c_spec_l23Forest_o40
def c_spec_l23Forest_101 : ACode := .cond (.t 181) c_spec_l23Forest_100 .skip
def c_spec_l23Forest_102 : ACode := .seq c_spec_l23Forest_99 c_spec_l23Forest_101
def c_spec_l23Forest_103 : ACode := .seq c_spec_l23Forest_98 c_spec_l23Forest_102
def c_spec_l23Forest_104 : ACode := .seq c_spec_l23Forest_90 c_spec_l23Forest_103
def c_spec_l23Forest_105 : ACode := .block 11 c_spec_l23Forest_104
abbrev c_spec_l23Forest_o41 : List AJ := [.o ⟨(some 166), none, false, .mv (.t 18), none⟩, .o ⟨(some 167), none, true, .bin .add (.t 166) (.c (.int .i64 1)), none⟩, .o ⟨(some 18), none, false, .mv (.t 167), (some [6, 7, 9, 18])⟩]
def c_spec_l23Forest_106 : ACode := .region c_spec_l23Forest_o41
def c_spec_l23Forest_107 : ACode := .seq c_spec_l23Forest_105 c_spec_l23Forest_106
def c_spec_l23Forest_108 : ACode := .seq c_spec_l23Forest_89 c_spec_l23Forest_107
def c_spec_l23Forest_109 : ACode := .loop c_spec_l23Forest_108
def c_spec_l23Forest_110 : ACode := .block 10 c_spec_l23Forest_109
def c_spec_l23Forest_111 : ACode := .seq c_spec_l23Forest_86 c_spec_l23Forest_110
abbrev c_spec_l23Forest_o42 : List AJ := [.o ⟨(some 185), none, false, .mv (.t 9), none⟩, .o ⟨(some 186), none, false, .mv (.t 7), none⟩, .o ⟨(some 4), none, false, .mv (.t 185), none⟩, .o ⟨(some 5), none, false, .mv (.t 186), (some [4, 5])⟩]
def c_spec_l23Forest_112 : ACode := .region c_spec_l23Forest_o42
def c_spec_l23Forest_113 : ACode := .seq c_spec_l23Forest_112 .ret
def c_spec_l23Forest_114 : ACode := .seq c_spec_l23Forest_111 c_spec_l23Forest_113
def c_spec_l23Forest_115 : ACode := .seq c_spec_l23Forest_85 c_spec_l23Forest_114
def c_spec_l23Forest_116 : ACode := .seq c_spec_l23Forest_59 c_spec_l23Forest_115
def c_spec_l23Forest_117 : ACode := .seq c_spec_l23Forest_17 c_spec_l23Forest_116
def c_spec_l23Forest_118 : ACode := .seq c_spec_l23Forest_16 c_spec_l23Forest_117
def c_spec_l23Forest_119 : ACode := .seq c_spec_l23Forest_2 c_spec_l23Forest_118
def c_spec_l23Forest_120 : ACode := .seq c_spec_l23Forest_1 c_spec_l23Forest_119
def c_spec_l23Forest_121 : ACode := .seq c_spec_l23Forest_0 c_spec_l23Forest_120
section
variable (C : Cx) (n : Nat) (sk : List AItem) (e : Env) (h : Heap) (R : AV → Heap → Prop)
@[simp, simp ↓] theorem c_spec_l23Forest_0_r : vc2 C (n + 1) [] (.code c_spec_l23Forest_0 :: sk) e h R = (vc2 C n c_spec_l23Forest_o0 sk e h R) := nr rfl
@[simp, simp ↓] theorem c_spec_l23Forest_1_r : vc2 C (n + 1) [] (.code c_spec_l23Forest_1 :: sk) e h R = (vc2 C n c_spec_l23Forest_o1 sk e h R) := nr rfl
@[simp, simp ↓] theorem c_spec_l23Forest_2_r : vc2 C (n + 1) [] (.code c_spec_l23Forest_2 :: sk) e h R = (vc2 C n c_spec_l23Forest_o2 sk e h R) := nr rfl
@[simp, simp ↓] theorem c_spec_l23Forest_3_r : vc2 C (n + 1) [] (.code c_spec_l23Forest_3 :: sk) e h R = (vc2 C n c_spec_l23Forest_o3 sk e h R) := nr rfl
@[simp, simp ↓] theorem c_spec_l23Forest_4_r : vc2 C (n + 1) [] (.code c_spec_l23Forest_4 :: sk) e h R = (vc2 C n c_spec_l23Forest_o4 sk e h R) := nr rfl
@[simp, simp ↓] theorem c_spec_l23Forest_5_r : vc2 C (n + 1) [] (.code c_spec_l23Forest_5 :: sk) e h R = (condK (ev e (.t 27)) (vc2 C n [] (.code .skip :: sk) e h R) (vc2 C n [] (.code (.exit 0) :: sk) e h R)) := nr rfl
@[simp, simp ↓] theorem c_spec_l23Forest_6_r : vc2 C (n + 1) [] (.code c_spec_l23Forest_6 :: sk) e h R = (vc2 C n [] (.code c_spec_l23Forest_4 :: .code c_spec_l23Forest_5 :: sk) e h R) := nr rfl
@[simp, simp ↓] theorem c_spec_l23Forest_7_r : vc2 C (n + 1) [] (.code c_spec_l23Forest_7 :: sk) e h R = (vc2 C n c_spec_l23Forest_o5 sk e h R) := nr rfl
@[simp, simp ↓] theorem c_spec_l23Forest_8_r : vc2 C (n + 1) [] (.code c_spec_l23Forest_8 :: sk) e h R = (vc2 C n c_spec_l23Forest_o6 sk e h R) := nr rfl
@[simp, simp ↓] theorem c_spec_l23Forest_9_r : vc2 C (n + 1) [] (.code c_spec_l23Forest_9 :: sk) e h R = (vc2 C n [] (.code c_spec_l23Forest_7 :: .code c_spec_l23Forest_8 :: sk) e h R) := nr rfl
@[simp, simp ↓] theorem c_spec_l23Forest_10_r : vc2 C (n + 1) [] (.code c_spec_l23Forest_10 :: sk) e h R = (vc2 C n [] (.code c_spec_l23Forest_9 :: .inBlock 1 :: sk) e h R) := nr rfl
@[simp, simp ↓] theorem c_spec_l23Forest_11_r : vc2 C (n + 1) [] (.code c_spec_l23Forest_11 :: sk) e h R = (vc2 C n c_spec_l23Forest_o7 sk e h R) := nr rfl
@[simp, simp ↓] theorem c_spec_l23Forest_12_r : vc2 C (n + 1) [] (.code c_spec_l23Forest_12 :: sk) e h R = (vc2 C n [] (.code c_spec_l23Forest_10 :: .code c_spec_l23Forest_11 :: sk) e h R) := nr rfl
@[simp, simp ↓] theorem c_spec_l23Forest_13_r : vc2 C (n + 1) [] (.code c_spec_l23Forest_13 :: sk) e h R = (vc2 C n [] (.code c_spec_l23Forest_6 :: .code c_spec_l23Forest_12 :: sk) e h R) := nr rfl
@[simp, simp ↓] theorem c_spec_l23Forest_14_r : vc2 C (n + 1) [] (.code c_spec_l23Forest_14 :: sk) e h R = (Run2 C (.code c_spec_l23Forest_13 :: .inLoop c_spec_l23Forest_13 :: sk) e h R) := nr rfl
@[simp, simp ↓] theorem c_spec_l23Forest_15_r : vc2 C (n + 1) [] (.code c_spec_l23Forest_15 :: sk) e h R = (vc2 C n [] (.code c_spec_l23Forest_14 :: .inBlock 0 :: sk) e h R) := nr rfl
@[simp, simp ↓] theorem c_spec_l23Forest_16_r : vc2 C (n + 1) [] (.code c_spec_l23Forest_16 :: sk) e h R = (vc2 C n [] (.code c_spec_l23Forest_3 :: .code c_spec_l23Forest_15 :: sk) e h R) := nr rfl
@[simp, simp ↓] theorem c_spec_l23Forest_17_r : vc2 C (n + 1) [] (.code c_spec_l23Forest_17 :: sk) e h R = (vc2 C n c_spec_l23Forest_o8 sk e h R) := nr rfl
@[simp, simp ↓] theorem c_spec_l23Forest_18_r : vc2 C (n + 1) [] (.code c_spec_l23Forest_18 :: sk) e h R = (vc2 C n c_spec_l23Forest_o9 sk e h R) := nr rfl
@[simp, simp ↓] theorem c_spec_l23Forest_19_r : vc2 C (n + 1) [] (.code c_spec_l23Forest_19 :: sk) e h R = (vc2 C n c_spec_l23Forest_o10 sk e h R) := nr rfl
@[simp, simp ↓] theorem c_spec_l23Forest_20_r : vc2 C (n + 1) [] (.code c_spec_l23Forest_20 :: sk) e h R = (condK (ev e (.t 44)) (vc2 C n [] (.code .skip :: sk) e h R) (vc2 C n [] (.code (.exit 2) :: sk) e h R)) := nr rfl
@[simp, simp ↓] theorem c_spec_l23Forest_21_r : vc2 C (n + 1) [] (.code c_spec_l23Forest_21 :: sk) e h R = (vc2 C n [] (.code c_spec_l23Forest_19 :: .code c_spec_l23Forest_20 :: sk) e h R) := nr rfl
@[simp, simp ↓] theorem c_spec_l23Forest_22_r : vc2 C (n + 1) [] (.code c_spec_l23Forest_22 :: sk) e h R = (vc2 C n c_spec_l23Forest_o11 sk e h R) := nr rfl
@[simp, simp ↓] theorem c_spec_l23Forest_23_r : vc2 C (n + 1) [] (.code c_spec_l23Forest_23 :: sk) e h R = (vc2 C n c_spec_l23Forest_o12 sk e h R) := nr rfl
@[simp, simp ↓] theorem c_spec_l23Forest_24_r : vc2 C (n + 1) [] (.code c_spec_l23Forest_24 :: sk) e h R = (vc2 C n c_spec_l23Forest_o13 sk e h R) := nr rfl
@[simp, simp ↓] theorem c_spec_l23Forest_25_r : vc2 C (n + 1) [] (.code c_spec_l23Forest_25 :: sk) e h R = (vc2 C n c_spec_l23Forest_o14 sk e h R) := nr rfl
@[simp, simp ↓] theorem c_spec_l23Forest_26_r : vc2 C (n + 1) [] (.code c_spec_l23Forest_26 :: sk) e h R = (condK (ev e (.t 71)) (vc2 C n [] (.code (.exit 3) :: sk) e h R) (vc2 C n [] (.code .skip :: sk) e h R)) := nr rfl
@[simp, simp ↓] theorem c_spec_l23Forest_27_r : vc2 C (n + 1) [] (.code c_spec_l23Forest_27 :: sk) e h R = (vc2 C n [] (.code c_spec_l23Forest_25 :: .code c_spec_l23Forest_26 :: sk) e h R) := nr rfl
@[simp, simp ↓] theorem c_spec_l23Forest_28_r : vc2 C (n + 1) [] (.code c_spec_l23Forest_28 :: sk) e h R = (vc2 C n c_spec_l23Forest_o15 sk e h R) := nr rfl
@[simp, simp ↓] theorem c_spec_l23Forest_29_r : vc2 C (n + 1) [] (.code c_spec_l23Forest_29 :: sk) e h R = (draw2 C h (vK C n [] sk R h) c_spec_l23Forest_o16 e) := nr rfl
@[simp, simp ↓] theorem c_spec_l23Forest_30_r : vc2 C (n + 1) [] (.code c_spec_l23Forest_30 :: sk) e h R = (vc2 C n c_spec_l23Forest_o17 sk e h R) := nr rfl
@[simp, simp ↓] theorem c_spec_l23Forest_31_r : vc2 C (n + 1) [] (.code c_spec_l23Forest_31 :: sk) e h R = (vc2 C n c_spec_l23Forest_o18 sk e h R) := nr rfl
@[simp, simp ↓] theorem c_spec_l23Forest_32_r : vc2 C (n + 1) [] (.code c_spec_l23Forest_32 :: sk) e h R = (condK (ev e (.t 98)) (vc2 C n [] (.code .skip :: sk) e h R) (vc2 C n [] (.code (.exit 4) :: sk) e h R)) := nr rfl
@[simp, simp ↓] theorem c_spec_l23Forest_33_r : vc2 C (n + 1) [] (.code c_spec_l23Forest_33 :: sk) e h R = (vc2 C n [] (.code c_spec_l23Forest_31 :: .code c_spec_l23Forest_32 :: sk) e h R) := nr rfl
@[simp, simp ↓] theorem c_spec_l23Forest_34_r : vc2 C (n + 1) [] (.code c_spec_l23Forest_34 :: sk) e h R = (vc2 C n c_spec_l23Forest_o19 sk e h R) := nr rfl
@[simp, simp ↓] theorem c_spec_l23Forest_35_r : vc2 C (n + 1) [] (.code c_spec_l23Forest_35 :: sk) e h R = (vc2 C n c_spec_l23Forest_o20 sk e h R) := nr rfl
@[simp, simp ↓] theorem c_spec_l23Forest_36_r : vc2 C (n + 1) [] (.code c_spec_l23Forest_36 :: sk) e h R = (draw2 C h (vK C n c_spec_l23Forest_o22 sk R h) c_spec_l23Forest_o21 e) := nr rfl
@[simp, simp ↓] theorem c_spec_l23Forest_37_r : vc2 C (n + 1) [] (.code c_spec_l23Forest_37 :: sk) e h R = (vc2 C n [] (.code c_spec_l23Forest_35 :: .code c_spec_l23Forest_36 :: sk) e h R) := nr rfl
@[simp, simp ↓] theorem c_spec_l23Forest_38_r : vc2 C (n + 1) [] (.code c_spec_l23Forest_38 :: sk) e h R = (condK (ev e (.t 106)) (vc2 C n [] (.code c_spec_l23Forest_37 :: sk) e h R) (vc2 C n [] (.code .skip :: sk) e h R)) := nr rfl
@[simp, simp ↓] theorem c_spec_l23Forest_39_r : vc2 C (n + 1) [] (.code c_spec_l23Forest_39 :: sk) e h R = (vc2 C n [] (.code c_spec_l23Forest_34 :: .code c_spec_l23Forest_38 :: sk) e h R) := nr rfl
@[simp, simp ↓] theorem c_spec_l23Forest_40_r : vc2 C (n + 1) [] (.code c_spec_l23Forest_40 :: sk) e h R = (vc2 C n [] (.code c_spec_l23Forest_39 :: .inBlock 5 :: sk) e h R) := nr rfl
@[simp, simp ↓] theorem c_spec_l23Forest_41_r : vc2 C (n + 1) [] (.code c_spec_l23Forest_41 :: sk) e h R = (vc2 C n c_spec_l23Forest_o23 sk e h R) := nr rfl
@[simp, simp ↓] theorem c_spec_l23Forest_42_r : vc2 C (n + 1) [] (.code c_spec_l23Forest_42 :: sk) e h R = (vc2 C n [] (.code c_spec_l23Forest_40 :: .code c_spec_l23Forest_41 :: sk) e h R) := nr rfl
@[simp, simp ↓] theorem c_spec_l23Forest_43_r : vc2 C (n + 1) [] (.code c_spec_l23Forest_43 :: sk) e h R = (vc2 C n [] (.code c_spec_l23Forest_33 :: .code c_spec_l23Forest_42 :: sk) e h R) := nr rfl
@[simp, simp ↓] theorem c_spec_l23Forest_44_r : vc2 C (n + 1) [] (.code c_spec_l23Forest_44 :: sk) e h R = (Run2 C (.code c_spec_l23Forest_43 :: .inLoop c_spec_l23Forest_43 :: sk) e h R) := nr rfl
@[simp, simp ↓] theorem c_spec_l23Forest_45_r : vc2 C (n + 1) [] (.code c_spec_l23Forest_45 :: sk) e h R = (vc2 C n [] (.code c_spec_l23Forest_44 :: .inBlock 4 :: sk) e h R) := nr rfl
@[simp, simp ↓] theorem c_spec_l23Forest_46_r : vc2 C (n + 1) [] (.code c_spec_l23Forest_46 :: sk) e h R = (vc2 C n [] (.code c_spec_l23Forest_30 :: .code c_spec_l23Forest_45 :: sk) e h R) := nr rfl
@[simp, simp ↓] theorem c_spec_l23Forest_47_r : vc2 C (n + 1) [] (.code c_spec_l23Forest_47 :: sk) e h R = (vc2 C n [] (.code c_spec_l23Forest_29 :: .code c_spec_l23Forest_46 :: sk) e h R) := nr rfl
@[simp, simp ↓] theorem c_spec_l23Forest_48_r : vc2 C (n + 1) [] (.code c_spec_l23Forest_48 :: sk) e h R = (vc2 C n [] (.code c_spec_l23Forest_28 :: .code c_spec_l23Forest_47 :: sk) e h R) := nr rfl
@[simp, simp ↓] theorem c_spec_l23Forest_49_r : vc2 C (n + 1) [] (.code c_spec_l23Forest_49 :: sk) e h R = (vc2 C n [] (.code c_spec_l23Forest_27 :: .code c_spec_l23Forest_48 :: sk) e h R) := nr rfl
@[simp, simp ↓] theorem c_spec_l23Forest_50_r : vc2 C (n + 1) [] (.code c_spec_l23Forest_50 :: sk) e h R = (vc2 C n [] (.code c_spec_l23Forest_24 :: .code c_spec_l23Forest_49 :: sk) e h R) := nr rfl
@[simp, simp ↓] theorem c_spec_l23Forest_51_r : vc2 C (n + 1) [] (.code c_spec_l23Forest_51 :: sk) e h R = (vc2 C n [] (.code c_spec_l23Forest_23 :: .code c_spec_l23Forest_50 :: sk) e h R) := nr rfl
@[simp, simp ↓] theorem c_spec_l23Forest_52_r : vc2 C (n + 1) [] (.code c_spec_l23Forest_52 :: sk) e h R = (vc2 C n [] (.code c_spec_l23Forest_22 :: .code c_spec_l23Forest_51 :: sk) e h R) := nr rfl
@[simp, simp ↓] theorem c_spec_l23Forest_53_r : vc2 C (n + 1) [] (.code c_spec_l23Forest_53 :: sk) e h R = (vc2 C n [] (.code c_spec_l23Forest_52 :: .inBlock 3 :: sk) e h R) := nr rfl
@[simp, simp ↓] theorem c_spec_l23Forest_54_r : vc2 C (n + 1) [] (.code c_spec_l23Forest_54 :: sk) e h R = (vc2 C n c_spec_l23Forest_o24 sk e h R) := nr rfl
@[simp, simp ↓] theorem c_spec_l23Forest_55_r : vc2 C (n + 1) [] (.code c_spec_l23Forest_55 :: sk) e h R = (vc2 C n [] (.code c_spec_l23Forest_53 :: .code c_spec_l23Forest_54 :: sk) e h R) := nr rfl
@[simp, simp ↓] theorem c_spec_l23Forest_56_r : vc2 C (n + 1) [] (.code c_spec_l23Forest_56 :: sk) e h R = (vc2 C n [] (.code c_spec_l23Forest_21 :: .code c_spec_l23Forest_55 :: sk) e h R) := nr rfl
@[simp, simp ↓] theorem c_spec_l23Forest_57_r : vc2 C (n + 1) [] (.code c_spec_l23Forest_57 :: sk) e h R = (Run2 C (.code c_spec_l23Forest_56 :: .inLoop c_spec_l23Forest_56 :: sk) e h R) := nr rfl
@[simp, simp ↓] theorem c_spec_l23Forest_58_r : vc2 C (n + 1) [] (.code c_spec_l23Forest_58 :: sk) e h R = (vc2 C n [] (.code c_spec_l23Forest_57 :: .inBlock 2 :: sk) e h R) := nr rfl
@[simp, simp ↓] theorem c_spec_l23Forest_59_r : vc2 C (n + 1) [] (.code c_spec_l23Forest_59 :: sk) e h R = (vc2 C n [] (.code c_spec_l23Forest_18 :: .code c_spec_l23Forest_58 :: sk) e h R) := nr rfl
@[simp, simp ↓] theorem c_spec_l23Forest_60_r : vc2 C (n + 1) [] (.code c_spec_l23Forest_60 :: sk) e h R = (vc2 C n c_spec_l23Forest_o25 sk e h R) := nr rfl
@[simp, simp ↓] theorem c_spec_l23Forest_61_r : vc2 C (n + 1) [] (.code c_spec_l23Forest_61 :: sk) e h R = (vc2 C n c_spec_l23Forest_o26 sk e h R) := nr rfl
@[simp, simp ↓] theorem c_spec_l23Forest_62_r : vc2 C (n + 1) [] (.code c_spec_l23Forest_62 :: sk) e h R = (condK (ev e (.t 128)) (vc2 C n [] (.code .skip :: sk) e h R) (vc2 C n [] (.code (.exit 6) :: sk) e h R)) := nr rfl
@[simp, simp ↓] theorem c_spec_l23Forest_63_r : vc2 C (n + 1) [] (.code c_spec_l23Forest_63 :: sk) e h R = (vc2 C n [] (.code c_spec_l23Forest_61 :: .code c_spec_l23Forest_62 :: sk) e h R) := nr rfl
@[simp, simp ↓] theorem c_spec_l23Forest_64_r : vc2 C (n + 1) [] (.code c_spec_l23Forest_64 :: sk) e h R = (vc2 C n c_spec_l23Forest_o27 sk e h R) := nr rfl
@[simp, simp ↓] theorem c_spec_l23Forest_65_r : vc2 C (n + 1) [] (.code c_spec_l23Forest_65 :: sk) e h R = (draw2 C h (vK C n [] sk R h) c_spec_l23Forest_o28 e) := nr rfl
@[simp, simp ↓] theorem c_spec_l23Forest_66_r : vc2 C (n + 1) [] (.code c_spec_l23Forest_66 :: sk) e h R = (condK (ev e (.t 139)) (vc2 C n [] (.code .skip :: sk) e h R) (vc2 C n [] (.code (.exit 8) :: sk) e h R)) := nr rfl
@[simp, simp ↓] theorem c_spec_l23Forest_67_r : vc2 C (n + 1) [] (.code c_spec_l23Forest_67 :: sk) e h R = (vc2 C n [] (.code c_spec_l23Forest_65 :: .code c_spec_l23Forest_66 :: sk) e h R) := nr rfl
@[simp, simp ↓] theorem c_spec_l23Forest_68_r : vc2 C (n + 1) [] (.code c_spec_l23Forest_68 :: sk) e h R = (vc2 C n c_spec_l23Forest_o29 sk e h R) := nr rfl
@[simp, simp ↓] theorem c_spec_l23Forest_69_r : vc2 C (n + 1) [] (.code c_spec_l23Forest_69 :: sk) e h R = (vc2 C n [] (.code c_spec_l23Forest_68 :: .inBlock 9 :: sk) e h R) := nr rfl
@[simp, simp ↓] theorem c_spec_l23Forest_70_r : vc2 C (n + 1) [] (.code c_spec_l23Forest_70 :: sk) e h R = (vc2 C n [] (.code c_spec_l23Forest_67 :: .code c_spec_l23Forest_69 :: sk) e h R) := nr rfl
@[simp, simp ↓] theorem c_spec_l23Forest_71_r : vc2 C (n + 1) [] (.code c_spec_l23Forest_71 :: sk) e h R = (Run2 C (.code c_spec_l23Forest_70 :: .inLoop c_spec_l23Forest_70 :: sk) e h R) := nr rfl
@[simp, simp ↓] theorem c_spec_l23Forest_72_r : vc2 C (n + 1) [] (.code c_spec_l23Forest_72 :: sk) e h R = (vc2 C n [] (.code c_spec_l23Forest_71 :: .inBlock 8 :: sk) e h R) := nr rfl
@[simp, simp ↓] theorem c_spec_l23Forest_73_r : vc2 C (n + 1) [] (.code c_spec_l23Forest_73 :: sk) e h R = (vc2 C n c_spec_l23Forest_o30 sk e h R) := nr rfl
@[simp, simp ↓] theorem c_spec_l23Forest_74_r : vc2 C (n + 1) [] (.code c_spec_l23Forest_74 :: sk) e h R = (draw2 C h (vK C n c_spec_l23Forest_o32 sk R h) c_spec_l23Forest_o31 e) := nr rfl
@[simp, simp ↓] theorem c_spec_l23Forest_75_r : vc2 C (n + 1) [] (.code c_spec_l23Forest_75 :: sk) e h R = (condK (ev e (.t 144)) (vc2 C n [] (.code c_spec_l23Forest_74 :: sk) e h R) (vc2 C n [] (.code .skip :: sk) e h R)) := nr rfl
@[simp, simp ↓] theorem c_spec_l23Forest_76_r : vc2 C (n + 1) [] (.code c_spec_l23Forest_76 :: sk) e h R = (vc2 C n [] (.code c_spec_l23Forest_73 :: .code c_spec_l23Forest_75 :: sk) e h R) := nr rfl
@[simp, simp ↓] theorem c_spec_l23Forest_77_r : vc2 C (n + 1) [] (.code c_spec_l23Forest_77 :: sk) e h R = (vc2 C n [] (.code c_spec_l23Forest_72 :: .code c_spec_l23Forest_76 :: sk) e h R) := nr rfl
@[simp, simp ↓] theorem c_spec_l23Forest_78_r : vc2 C (n + 1) [] (.code c_spec_l23Forest_78 :: sk) e h R = (vc2 C n [] (.code c_spec_l23Forest_64 :: .code c_spec_l23Forest_77 :: sk) e h R) := nr rfl
@[simp, simp ↓] theorem c_spec_l23Forest_79_r : vc2 C (n + 1) [] (.code c_spec_l23Forest_79 :: sk) e h R = (vc2 C n [] (.code c_spec_l23Forest_78 :: .inBlock 7 :: sk) e h R) := nr rfl
@[simp, simp ↓] theorem c_spec_l23Forest_80_r : vc2 C (n + 1) [] (.code c_spec_l23Forest_80 :: sk) e h R = (vc2 C n c_spec_l23Forest_o33 sk e h R) := nr rfl
@[simp, simp ↓] theorem c_spec_l23Forest_81_r : vc2 C (n + 1) [] (.code c_spec_l23Forest_81 :: sk) e h R = (vc2 C n [] (.code c_spec_l23Forest_79 :: .code c_spec_l23Forest_80 :: sk) e h R) := nr rfl
@[simp, simp ↓] theorem c_spec_l23Forest_82_r : vc2 C (n + 1) [] (.code c_spec_l23Forest_82 :: sk) e h R = (vc2 C n [] (.code c_spec_l23Forest_63 :: .code c_spec_l23Forest_81 :: sk) e h R) := nr rfl
@[simp, simp ↓] theorem c_spec_l23Forest_83_r : vc2 C (n + 1) [] (.code c_spec_l23Forest_83 :: sk) e h R = (Run2 C (.code c_spec_l23Forest_82 :: .inLoop c_spec_l23Forest_82 :: sk) e h R) := nr rfl
@[simp, simp ↓] theorem c_spec_l23Forest_84_r : vc2 C (n + 1) [] (.code c_spec_l23Forest_84 :: sk) e h R = (vc2 C n [] (.code c_spec_l23Forest_83 :: .inBlock 6 :: sk) e h R) := nr rfl
@[simp, simp ↓] theorem c_spec_l23Forest_85_r : vc2 C (n + 1) [] (.code c_spec_l23Forest_85 :: sk) e h R = (vc2 C n [] (.code c_spec_l23Forest_60 :: .code c_spec_l23Forest_84 :: sk) e h R) := nr rfl
@[simp, simp ↓] theorem c_spec_l23Forest_86_r : vc2 C (n + 1) [] (.code c_spec_l23Forest_86 :: sk) e h R = (vc2 C n c_spec_l23Forest_o34 sk e h R) := nr rfl
@[simp, simp ↓] theorem c_spec_l23Forest_87_r : vc2 C (n + 1) [] (.code c_spec_l23Forest_87 :: sk) e h R = (vc2 C n c_spec_l23Forest_o35 sk e h R) := nr rfl
@[simp, simp ↓] theorem c_spec_l23Forest_88_r : vc2 C (n + 1) [] (.code c_spec_l23Forest_88 :: sk) e h R = (condK (ev e (.t 165)) (vc2 C n [] (.code .skip :: sk) e h R) (vc2 C n [] (.code (.exit 10) :: sk) e h R)) := nr rfl
@[simp, simp ↓] theorem c_spec_l23Forest_89_r : vc2 C (n + 1) [] (.code c_spec_l23Forest_89 :: sk) e h R = (vc2 C n [] (.code c_spec_l23Forest_87 :: .code c_spec_l23Forest_88 :: sk) e h R) := nr rfl
@[simp, simp ↓] theorem c_spec_l23Forest_90_r : vc2 C (n + 1) [] (.code c_spec_l23Forest_90 :: sk) e h R = (vc2 C n c_spec_l23Forest_o36 sk e h R) := nr rfl
@[simp, simp ↓] theorem c_spec_l23Forest_91_r : vc2 C (n + 1) [] (.code c_spec_l23Forest_91 :: sk) e h R = (draw2 C h (vK C n [] sk R h) c_spec_l23Forest_o37 e) := nr rfl
@[simp, simp ↓] theorem c_spec_l23Forest_92_r : vc2 C (n + 1) [] (.code c_spec_l23Forest_92 :: sk) e h R = (condK (ev e (.t 176)) (vc2 C n [] (.code .skip :: sk) e h R) (vc2 C n [] (.code (.exit 12) :: sk) e h R)) := nr rfl
@[simp, simp ↓] theorem c_spec_l23Forest_93_r : vc2 C (n + 1) [] (.code c_spec_l23Forest_93 :: sk) e h R = (vc2 C n [] (.code c_spec_l23Forest_91 :: .code c_spec_l23Forest_92 :: sk) e h R) := nr rfl
@[simp, simp ↓] theorem c_spec_l23Forest_94_r : vc2 C (n + 1) [] (.code c_spec_l23Forest_94 :: sk) e h R = (vc2 C n c_spec_l23Forest_o38 sk e h R) := nr rfl
@[simp, simp ↓] theorem c_spec_l23Forest_95_r : vc2 C (n + 1) [] (.code c_spec_l23Forest_95 :: sk) e h R = (vc2 C n [] (.code c_spec_l23Forest_94 :: .inBlock 13 :: sk) e h R) := nr rfl
@[simp, simp ↓] theorem c_spec_l23Forest_96_r : vc2 C (n + 1) [] (.code c_spec_l23Forest_96 :: sk) e h R = (vc2 C n [] (.code c_spec_l23Forest_93 :: .code c_spec_l23Forest_95 :: sk) e h R) := nr rfl
@[simp, simp ↓] theorem c_spec_l23Forest_97_r : vc2 C (n + 1) [] (.code c_spec_l23Forest_97 :: sk) e h R = (Run2 C (.code c_spec_l23Forest_96 :: .inLoop c_spec_l23Forest_96 :: sk) e h R) := nr rfl
@[simp, simp ↓] theorem c_spec_l23Forest_98_r : vc2 C (n + 1) [] (.code c_spec_l23Forest_98 :: sk) e h R = (vc2 C n [] (.code c_spec_l23Forest_97 :: .inBlock 12 :: sk) e h R) := nr rfl
@[simp, simp ↓] theorem c_spec_l23Forest_99_r : vc2 C (n + 1) [] (.code c_spec_l23Forest_99 :: sk) e h R = (vc2 C n c_spec_l23Forest_o39 sk e h R) := nr rfl
@[simp, simp ↓] theorem c_spec_l23Forest_100_r : vc2 C (n + 1) [] (.code c_spec_l23Forest_100 :: sk) e h R = (vc2 C n c_spec_l23Forest_o40 sk e h R) := nr rfl
@[simp, simp ↓] theorem c_spec_l23Forest_101_r : vc2 C (n + 1) [] (.code c_spec_l23Forest_101 :: sk) e h R = (condK (ev e (.t 181)) (vc2 C n [] (.code c_spec_l23Forest_100 :: sk) e h R) (vc2 C n [] (.code .skip :: sk) e h R)) := nr rfl
@[simp, simp ↓] theorem c_spec_l23Forest_102_r : vc2 C (n + 1) [] (.code c_spec_l23Forest_102 :: sk) e h R = (vc2 C n [] (.code c_spec_l23Forest_99 :: .code c_spec_l23Forest_101 :: sk) e h R) := nr rfl
@[simp, simp ↓] theorem c_spec_l23Forest_103_r : vc2 C (n + 1) [] (.code c_spec_l23Forest_103 :: sk) e h R = (vc2 C n [] (.code c_spec_l23Forest_98 :: .code c_spec_l23Forest_102 :: sk) e h R) := nr rfl
@[simp, simp ↓] theorem c_spec_l23Forest_104_r : vc2 C (n + 1) [] (.code c_spec_l23Forest_104 :: sk) e h R = (vc2 C n [] (.code c_spec_l23Forest_90 :: .code c_spec_l23Forest_103 :: sk) e h R) := nr rfl
@[simp, simp ↓] theorem c_spec_l23Forest_105_r : vc2 C (n + 1) [] (.code c_spec_l23Forest_105 :: sk) e h R = (vc2 C n [] (.code c_spec_l23Forest_104 :: .inBlock 11 :: sk) e h R) := nr rfl
@[simp, simp ↓] theorem c_spec_l23Forest_106_r : vc2 C (n + 1) [] (.code c_spec_l23Forest_106 :: sk) e h R = (vc2 C n c_spec_l23Forest_o41 sk e h R) := nr rfl
@[simp, simp ↓] theorem c_spec_l23Forest_107_r : vc2 C (n + 1) [] (.code c_spec_l23Forest_107 :: sk) e h R = (vc2 C n [] (.code c_spec_l23Forest_105 :: .code c_spec_l23Forest_106 :: sk) e h R) := nr rfl
@[simp, simp ↓] theorem c_spec_l23Forest_108_r : vc2 C (n + 1) [] (.code c_spec_l23Forest_108 :: sk) e h R = (vc2 C n [] (.code c_spec_l23Forest_89 :: .code c_spec_l23Forest_107 :: sk) e h R) := nr rfl
@[simp, simp ↓] theorem c_spec_l23Forest_109_r : vc2 C (n + 1) [] (.code c_spec_l23Forest_109 :: sk) e h R = (Run2 C (.code c_spec_l23Forest_108 :: .inLoop c_spec_l23Forest_108 :: sk) e h R) := nr rfl
@[simp, simp ↓] theorem c_spec_l23Forest_110_r : vc2 C (n + 1) [] (.code c_spec_l23Forest_110 :: sk) e h R = (vc2 C n [] (.code c_spec_l23Forest_109 :: .inBlock 10 :: sk) e h R) := nr rfl
@[simp, simp ↓] theorem c_spec_l23Forest_111_r : vc2 C (n + 1) [] (.code c_spec_l23Forest_111 :: sk) e h R = (vc2 C n [] (.code c_spec_l23Forest_86 :: .code c_spec_l23Forest_110 :: sk) e h R) := nr rfl
@[simp, simp ↓] theorem c_spec_l23Forest_112_r : vc2 C (n + 1) [] (.code c_spec_l23Forest_112 :: sk) e h R = (vc2 C n c_spec_l23Forest_o42 sk e h R) := nr rfl
@[simp, simp ↓] theorem c_spec_l23Forest_113_r : vc2 C (n + 1) [] (.code c_spec_l23Forest_113 :: sk) e h R = (vc2 C n [] (.code c_spec_l23Forest_112 :: .code .ret :: sk) e h R) := nr rfl
@[simp, simp ↓] theorem c_spec_l23Forest_114_r : vc2 C (n + 1) [] (.code c_spec_l23Forest_114 :: sk) e h R = (vc2 C n [] (.code c_spec_l23Forest_111 :: .code c_spec_l23Forest_113 :: sk) e h R) := nr rfl
@[simp, simp ↓] theorem c_spec_l23Forest_115_r : vc2 C (n + 1) [] (.code c_spec_l23Forest_115 :: sk) e h R = (vc2 C n [] (.code c_spec_l23Forest_85 :: .code c_spec_l23Forest_114 :: sk) e h R) := nr rfl
@[simp, simp ↓] theorem c_spec_l23Forest_116_r : vc2 C (n + 1) [] (.code c_spec_l23Forest_116 :: sk) e h R = (vc2 C n [] (.code c_spec_l23Forest_59 :: .code c_spec_l23Forest_115 :: sk) e h R) := nr rfl
@[simp, simp ↓] theorem c_spec_l23Forest_117_r : vc2 C (n + 1) [] (.code c_spec_l23Forest_117 :: sk) e h R = (vc2 C n [] (.code c_spec_l23Forest_17 :: .code c_spec_l23Forest_116 :: sk) e h R) := nr rfl
@[simp, simp ↓] theorem c_spec_l23Forest_118_r : vc2 C (n + 1) [] (.code c_spec_l23Forest_118 :: sk) e h R = (vc2 C n [] (.code c_spec_l23Forest_16 :: .code c_spec_l23Forest_117 :: sk) e h R) := nr rfl
@[simp, simp ↓] theorem c_spec_l23Forest_119_r : vc2 C (n + 1) [] (.code c_spec_l23Forest_119 :: sk) e h R = (vc2 C n [] (.code c_spec_l23Forest_2 :: .code c_spec_l23Forest_118 :: sk) e h R) := nr rfl
@[simp, simp ↓] theorem c_spec_l23Forest_120_r : vc2 C (n + 1) [] (.code c_spec_l23Forest_120 :: sk) e h R = (vc2 C n [] (.code c_spec_l23Forest_1 :: .code c_spec_l23Forest_119 :: sk) e h R) := nr rfl
@[simp, simp ↓] theorem c_spec_l23Forest_121_r : vc2 C (n + 1) [] (.code c_spec_l23Forest_121 :: sk) e h R = (vc2 C n [] (.code c_spec_l23Forest_0 :: .code c_spec_l23Forest_120 :: sk) e h R) := nr rfl
end
noncomputable def c_spec_l23Forest_C (orc : Orc) : Cx := ⟨Try.prog, [11, 20, 21, 37], 67, 187, [.tmp 4, .tmp 5], orc⟩
@[simp] theorem c_spec_l23Forest_C_P (orc : Orc) : (c_spec_l23Forest_C orc).P = Try.prog := nr rfl
@[simp] theorem c_spec_l23Forest_C_o (orc : Orc) : (c_spec_l23Forest_C orc).orc = orc := nr rfl
@[simp] theorem c_spec_l23Forest_C_r (orc : Orc) : (c_spec_l23Forest_C orc).res = [.tmp 4, .tmp 5] := nr rfl
theorem c_spec_l23Forest_of {args : List AV} {h : Heap} {R : AV → Heap → Prop} {k : Nat} (ha : args.length = k) {orc : Orc} (hp : Pure Try.prog orc) (hk : Is (c_spec_l23Forest_C orc) Try.f67 → Run2 (c_spec_l23Forest_C orc) [.code c_spec_l23Forest_121] (argEnv 0 args) h (Post R)) (hle : k ≤ 187 := by simp) : ACalls Try.prog 67 args h R :=
  contract2 [11, 20, 21, 37] c_spec_l23Forest_121 [.tmp 4, .tmp 5] Try.func67 (by decide +kernel) rfl (by kernel_rfl) (by rw [ha]; exact hle) (by kernel_rfl) hp hk
theorem c_spec_l23Forest_of0 {args : List AV} {h : Heap} {R : AV → Heap → Prop} {k : Nat} (ha : args.length = k) {orc : Orc} (hp : Pure Try.prog orc) (hk : Is (c_spec_l23Forest_C orc) Try.f67 → Run2 (c_spec_l23Forest_C orc) [.code c_spec_l23Forest_121] (argEnv 0 args) h R) (hle : k ≤ 187 := by simp) : ACalls Try.prog 67 args h R :=
  contract20 [11, 20, 21, 37] c_spec_l23Forest_121 [.tmp 4, .tmp 5] Try.func67 (by decide +kernel) rfl (by kernel_rfl) (by rw [ha]; exact hle) (by kernel_rfl) hp hk
noncomputable abbrev FoC : Cx := c_spec_l23Forest_C (lk orcT2)
/-- One part is given to another, and its phases are moved. -/
theorem for_inner (I : Is FoC Try.f67) {h : Heap} {R : AV → Heap → Prop} {sk : List AItem} {x : Ph} {P F P' F' : List Int} {a b d : Int} {i : Nat} {u : AV} {ga : Heap} {idp idf : Nat} {N : Nat} (hne : ¬ idf = idp) (hp : idp ∉ dom ga) (hf : idf ∉ dom ga)
    (l1 : P.length = N) (l2 : F.length = N) (l3 : P'.length = N) (l4 : F'.length = N) (hP : ∀ (v : Nat) (h1 : v < P.length) (h2 : v < P'.length), P'[v] = if P[v] = b then a else P[v])
    (hF : ∀ (v : Nat) (h1 : v < P.length) (h2 : v < F.length) (h3 : v < F'.length), F'[v] = if P[v] = b then (F[v] + d) % x.m else F[v]) (hb : ∀ (v : Nat) (h2 : v < F.length), 0 ≤ F[v] ∧ F[v] < x.m) (hd : 0 ≤ d ∧ d < x.m) (hm : x.m ≤ 360) (hN : N ≤ 12)
    (go : vc2 FoC 991 [] sk [(0, .ip [.int .i64 x.n, .int .i64 x.m, .snap 3 (x.ts.map T.av)]), (1, .snap 1 []), (6, .sl idp 1 0 N none), (7, .sl idf 1 0 N none), (9, u), (10, .int .i64 (i : Nat)), (12, .int .i64 a), (13, .int .i64 b), (14, .int .i64 d), (15, .int .i64 N), (98, .bool false)] (ga ++ ((idf, ⟨1, F'.map iv⟩) :: (idp, ⟨1, P'.map iv⟩) :: h)) R) :
    Run2 FoC (.code c_spec_l23Forest_43 :: .inLoop c_spec_l23Forest_43 :: .inBlock 4 :: sk) [(0, .ip [.int .i64 x.n, .int .i64 x.m, .snap 3 (x.ts.map T.av)]), (1, .snap 1 []), (6, .sl idp 1 0 N none), (7, .sl idf 1 0 N none), (9, u), (10, .int .i64 (i : Nat)), (12, .int .i64 a), (13, .int .i64 b), (14, .int .i64 d), (15, .int .i64 0)] (ga ++ ((idf, ⟨1, F.map iv⟩) :: (idp, ⟨1, P.map iv⟩) :: h)) R := by
  rw [show F.map iv = inpl (F.map iv) (F'.map iv) 0 by simp, show P.map iv = inpl (P.map iv) (P'.map iv) 0 by simp]
  refine Run2.loopE (fun v => [(0, .ip [.int .i64 x.n, .int .i64 x.m, .snap 3 (x.ts.map T.av)]), (1, .snap 1 []), (6, .sl idp 1 0 N none), (7, .sl idf 1 0 N none), (9, u), (10, .int .i64 (i : Nat)), (12, .int .i64 a), (13, .int .i64 b), (14, .int .i64 d), (15, .int .i64 (v : Nat))])
    (fun v => ga ++ ((idf, ⟨1, inpl (F.map iv) (F'.map iv) v⟩) :: (idp, ⟨1, inpl (P.map iv) (P'.map iv) v⟩) :: h)) (fun v => N - v) (fun v => v ≤ N) 0 (by simp) rfl (Nat.zero_le _) fun v hv ih => ?_
  have n1 := inpl_len (l := F.map iv) (l' := F'.map iv) (v := v) (by simp; omega)
  have n2 := inpl_len (l := P.map iv) (l' := P'.map iv) (v := v) (by simp; omega)
  by_cases hlt : v < N
  · have go1 := ih (v + 1) (by omega) (by omega)
    clear ih
    have g1 := inpl_get (l := F.map iv) (l' := F'.map iv) (v := v) (by simp; omega) (by simp; omega) (by rw [n1]; simp; omega)
    have g2 := inpl_get (l := P.map iv) (l' := P'.map iv) (v := v) (by simp; omega) (by simp; omega) (by rw [n2]; simp; omega)
    have s1 := inpl_set (l := F.map iv) (l' := F'.map iv) (v := v) (by simp; omega) (by simp; omega)
    have s2 := inpl_set (l := P.map iv) (l' := P'.map iv) (v := v) (by simp; omega) (by simp; omega)
    have k1 := inpl_keep (l := F.map iv) (l' := F'.map iv) (v := v) (by simp; omega) (by simp; omega)
    have k2 := inpl_keep (l := P.map iv) (l' := P'.map iv) (v := v) (by simp; omega) (by simp; omega)
    simp only [List.getElem_map] at g1 g2 s1 s2 k1 k2
    have hb := hb v (by omega)
    have hP := hP v (by omega) (by omega)
    have hF := hF v (by omega) (by omega) (by omega)
    rw [hP] at s2 k2
    rw [hF] at s1 k1
    generalize hX : inpl (F.map iv) (F'.map iv) = X at *
    generalize hY : inpl (P.map iv) (P'.map iv) = Y at *
    have m1 : v < (X v).length := by rw [n1]; simp; omega
    have m2 : v < (Y v).length := by rw [n2]; simp; omega
    refine Run2.of I 1000 ?_
    simp -implicitDefEqProofs [hlt, hget_app hp, hget_app hf, hset_app hp, hset_app hf, hne, m1, m2, g1, g2]
    refine ⟨fun h1 => ⟨by omega, by omega, by omega, ?_⟩, fun h1 => ⟨by omega, ?_⟩⟩
    · simp only [iv, if_pos h1] at s1 s2
      rw [Int.tmod_eq_emod_of_nonneg (by omega), s1, s2]
      simpa using go1
    · simp only [iv, if_neg h1, forall_const] at k1 k2
      rw [k1, k2]
      simpa using go1
  · obtain rfl : v = N := by omega
    have e1 : inpl (F.map iv) (F'.map iv) v = F'.map iv := by have := inpl_end (l := F.map iv) (l' := F'.map iv) (by simp; omega); simpa [l2] using this
    have e2 : inpl (P.map iv) (P'.map iv) v = P'.map iv := by have := inpl_end (l := P.map iv) (l' := P'.map iv) (by simp; omega); simpa [l1] using this
    refine Run2.of I 1000 ?_
    simp -implicitDefEqProofs
    rw [e1, e2]
    exact go

/-- The least node of the part. -/
theorem for_first1 (I : Is FoC Try.f67) {h : Heap} {R : AV → Heap → Prop} {sk : List AItem} {x : Ph} {P : List Int} {X : List AV} {u : AV} {ga : Heap} {idp idf : Nat} {N v k0 : Nat} (hne : ¬ idf = idp) (hp : idp ∉ dom ga) (hf : idf ∉ dom ga)
    (l1 : P.length = N) (hv : v < P.length) (hk : k0 ≤ v) (h1 : P[k0] = P[v]) (h2 : ∀ (j : Nat) (hj : j < k0), P[j] ≠ P[v]) (hN : N ≤ 12)
    (go : vc2 FoC 995 [] sk [(0, .ip [.int .i64 x.n, .int .i64 x.m, .snap 3 (x.ts.map T.av)]), (6, .sl idp 1 0 N none), (7, .sl idf 1 0 N none), (9, u), (16, .int .i64 (v : Nat)), (17, .int .i64 (k0 : Nat)), (139, .bool false)] (ga ++ ((idf, ⟨1, X⟩) :: (idp, ⟨1, P.map iv⟩) :: h)) R) :
    Run2 FoC (.code c_spec_l23Forest_70 :: .inLoop c_spec_l23Forest_70 :: .inBlock 8 :: sk) [(0, .ip [.int .i64 x.n, .int .i64 x.m, .snap 3 (x.ts.map T.av)]), (6, .sl idp 1 0 N none), (7, .sl idf 1 0 N none), (9, u), (16, .int .i64 (v : Nat)), (17, .int .i64 0)] (ga ++ ((idf, ⟨1, X⟩) :: (idp, ⟨1, P.map iv⟩) :: h)) R := by
  refine Run2.loopE (fun k => [(0, .ip [.int .i64 x.n, .int .i64 x.m, .snap 3 (x.ts.map T.av)]), (6, .sl idp 1 0 N none), (7, .sl idf 1 0 N none), (9, u), (16, .int .i64 (v : Nat)), (17, .int .i64 (k : Nat))]) (fun _ => ga ++ ((idf, ⟨1, X⟩) :: (idp, ⟨1, P.map iv⟩) :: h)) (fun k => k0 - k) (fun k => k ≤ k0) 0 (by simp) rfl (Nat.zero_le _) fun k hk' ih => ?_
  have hkN : k < P.length := by omega
  have hvN : v < N := by omega
  by_cases hlt : k < k0
  · have go1 := ih (k + 1) (by omega) (by omega)
    have hne1 := h2 k hlt
    clear ih
    refine Run2.of I 1000 ?_
    simp -implicitDefEqProofs [hlt, hget_app hp, hget_app hf, hne, hkN, hv, hne1, hvN, show k < N by omega]
    first | exact ⟨by omega, by simpa using go1⟩ | trace_state
  · obtain rfl : k = k0 := by omega
    refine Run2.of I 1000 ?_
    simp -implicitDefEqProofs [hget_app hp, hget_app hf, hne, hkN, hv, h1, hvN, show k < N by omega]
    exact go

/-- The least node of the part. -/
theorem for_first2 (I : Is FoC Try.f67) {h : Heap} {R : AV → Heap → Prop} {sk : List AItem} {x : Ph} {P : List Int} {X : List AV} {u : AV} {ga : Heap} {idp idf : Nat} {N v k0 : Nat} (hne : ¬ idf = idp) (hp : idp ∉ dom ga) (hf : idf ∉ dom ga)
    (l1 : P.length = N) (hv : v < P.length) (hk : k0 ≤ v) (h1 : P[k0] = P[v]) (h2 : ∀ (j : Nat) (hj : j < k0), P[j] ≠ P[v]) (hN : N ≤ 12)
    (go : vc2 FoC 995 [] sk [(6, .sl idp 1 0 N none), (7, .sl idf 1 0 N none), (9, u), (18, .int .i64 (v : Nat)), (19, .int .i64 (k0 : Nat)), (176, .bool false)] (ga ++ ((idf, ⟨1, X⟩) :: (idp, ⟨1, P.map iv⟩) :: h)) R) :
    Run2 FoC (.code c_spec_l23Forest_96 :: .inLoop c_spec_l23Forest_96 :: .inBlock 12 :: sk) [(6, .sl idp 1 0 N none), (7, .sl idf 1 0 N none), (9, u), (18, .int .i64 (v : Nat)), (19, .int .i64 0)] (ga ++ ((idf, ⟨1, X⟩) :: (idp, ⟨1, P.map iv⟩) :: h)) R := by
  refine Run2.loopE (fun k => [(6, .sl idp 1 0 N none), (7, .sl idf 1 0 N none), (9, u), (18, .int .i64 (v : Nat)), (19, .int .i64 (k : Nat))]) (fun _ => ga ++ ((idf, ⟨1, X⟩) :: (idp, ⟨1, P.map iv⟩) :: h)) (fun k => k0 - k) (fun k => k ≤ k0) 0 (by simp) rfl (Nat.zero_le _) fun k hk' ih => ?_
  have hkN : k < P.length := by omega
  have hvN : v < N := by omega
  by_cases hlt : k < k0
  · have go1 := ih (k + 1) (by omega) (by omega)
    have hne1 := h2 k hlt
    clear ih
    refine Run2.of I 1000 ?_
    simp -implicitDefEqProofs [hlt, hget_app hp, hget_app hf, hne, hkN, hv, hne1, hvN, show k < N by omega]
    first | exact ⟨by omega, by simpa using go1⟩ | trace_state
  · obtain rfl : k = k0 := by omega
    refine Run2.of I 1000 ?_
    simp -implicitDefEqProofs [hget_app hp, hget_app hf, hne, hkN, hv, h1, hvN, show k < N by omega]
    exact go

theorem for_norm1 (I : Is FoC Try.f67) {h : Heap} {R : AV → Heap → Prop} {sk : List AItem} {x : Ph} {P F F' : List Int} {u : AV} {ga : Heap} {idp idf : Nat} {N : Nat} (fst : Nat → Nat) (hne : ¬ idf = idp) (hp : idp ∉ dom ga) (hf : idf ∉ dom ga)
    (l1 : P.length = N) (l2 : F.length = N) (l3 : F'.length = N) (hfst : ∀ (v : Nat) (hv : v < P.length), ∃ (hk : fst v ≤ v), P[fst v] = P[v] ∧ ∀ (j : Nat) (hj : j < fst v), P[j] ≠ P[v]) (hff : ∀ v, v < N → fst (fst v) = fst v)
    (hF : ∀ (v : Nat) (h1 : v < F.length) (h2 : v < F'.length) (h3 : fst v < F.length), F'[v] = if fst v < v then (F[v] - F[fst v]) % x.m else F[v]) (hb : ∀ (v : Nat) (h2 : v < F.length), 0 ≤ F[v] ∧ F[v] < x.m) (hm : 2 ≤ x.m ∧ x.m ≤ 360) (hN : N ≤ 12)
    (go : vc2 FoC 991 [] sk [(0, .ip [.int .i64 x.n, .int .i64 x.m, .snap 3 (x.ts.map T.av)]), (6, .sl idp 1 0 N none), (7, .sl idf 1 0 N none), (9, u), (16, .int .i64 (N : Nat)), (128, .bool false)] (ga ++ ((idf, ⟨1, F'.map iv⟩) :: (idp, ⟨1, P.map iv⟩) :: h)) R) :
    Run2 FoC (.code c_spec_l23Forest_82 :: .inLoop c_spec_l23Forest_82 :: .inBlock 6 :: sk) [(0, .ip [.int .i64 x.n, .int .i64 x.m, .snap 3 (x.ts.map T.av)]), (6, .sl idp 1 0 N none), (7, .sl idf 1 0 N none), (9, u), (16, .int .i64 0)] (ga ++ ((idf, ⟨1, F.map iv⟩) :: (idp, ⟨1, P.map iv⟩) :: h)) R := by
  rw [show F.map iv = inpl (F.map iv) (F'.map iv) 0 by simp]
  refine Run2.loopE (fun v => [(0, .ip [.int .i64 x.n, .int .i64 x.m, .snap 3 (x.ts.map T.av)]), (6, .sl idp 1 0 N none), (7, .sl idf 1 0 N none), (9, u), (16, .int .i64 (v : Nat))]) (fun v => ga ++ ((idf, ⟨1, inpl (F.map iv) (F'.map iv) v⟩) :: (idp, ⟨1, P.map iv⟩) :: h)) (fun v => N - v) (fun v => v ≤ N) 0 (by simp) rfl (Nat.zero_le _) fun v hv ih => ?_
  have n1 := inpl_len (l := F.map iv) (l' := F'.map iv) (v := v) (by simp; omega)
  by_cases hlt : v < N
  · have go1 := ih (v + 1) (by omega) (by omega)
    clear ih
    obtain ⟨hk, q1, q2⟩ := hfst v (by omega)
    have hkF : fst v < F.length := by omega
    have g1 := inpl_get (l := F.map iv) (l' := F'.map iv) (v := v) (by simp; omega) (by simp; omega) (by rw [n1]; simp; omega)
    have s1 := inpl_set (l := F.map iv) (l' := F'.map iv) (v := v) (by simp; omega) (by simp; omega)
    have k1 := inpl_keep (l := F.map iv) (l' := F'.map iv) (v := v) (by simp; omega) (by simp; omega)
    simp only [List.getElem_map] at g1 s1 k1
    have hF0 := hF v (by omega) (by omega) hkF
    have hF1 := hF (fst v) (by omega) (by omega) (by rw [hff v hlt]; omega)
    have hb0 := hb v (by omega)
    have hb1 := hb (fst v) (by omega)
    simp only [hff v hlt] at hF1
    rw [hF0] at s1 k1
    have g2 : ∀ hj : fst v < v, (inpl (F.map iv) (F'.map iv) v)[fst v]'(by rw [n1]; simp; omega) = .int .i64 F[fst v] := fun hj =>
      (inpl_old (l := F.map iv) (l' := F'.map iv) (v := v) (by simp; omega) hj (by simp; omega) (by rw [n1]; simp; omega)).trans (by rw [List.getElem_map, hF1, if_neg (Nat.lt_irrefl _)]; rfl)
    generalize hX : inpl (F.map iv) (F'.map iv) = X at *
    have m1 : v < (X v).length := by rw [n1]; simp; omega
    have m2 : fst v < (X v).length := by omega
    have m3 : fst v < N := by omega
    refine Run2.of I 1000 ?_
    simp -implicitDefEqProofs [hlt]
    refine for_first1 I hne hp hf l1 (by omega) hk q1 q2 hN ?_
    by_cases hj : fst v < v
    · have g2 := g2 hj
      simp -implicitDefEqProofs [hget_app hp, hget_app hf, hset_app hp, hset_app hf, hne, m1, m2, m3, hlt, g1, hj, g2]
      refine ⟨by omega, by omega, by omega, ?_⟩
      simp only [iv, if_pos hj] at s1
      rw [s1]
      simpa using go1
    · simp -implicitDefEqProofs [hget_app hp, hget_app hf, hset_app hp, hset_app hf, hne, m1, m2, m3, hlt, g1, hj]
      refine ⟨by omega, ?_⟩
      simp only [if_neg hj, forall_const] at k1
      rw [k1]
      simpa using go1
  · obtain rfl : v = N := by omega
    have e1 : inpl (F.map iv) (F'.map iv) v = F'.map iv := by have := inpl_end (l := F.map iv) (l' := F'.map iv) (by simp; omega); simpa [l2] using this
    refine Run2.of I 1000 ?_
    simp -implicitDefEqProofs
    rw [e1]
    exact go

theorem for_norm2 (I : Is FoC Try.f67) {h : Heap} {R : AV → Heap → Prop} {sk : List AItem} {x : Ph} {P F F' : List Int} {u : AV} {ga : Heap} {idp idf : Nat} {N : Nat} (fst : Nat → Nat) (hne : ¬ idf = idp) (hp : idp ∉ dom ga) (hf : idf ∉ dom ga)
    (l1 : P.length = N) (l2 : F.length = N) (l3 : F'.length = N) (hfst : ∀ (v : Nat) (hv : v < P.length), ∃ (hk : fst v ≤ v), P[fst v] = P[v] ∧ ∀ (j : Nat) (hj : j < fst v), P[j] ≠ P[v]) (hff : ∀ v, v < N → fst (fst v) = fst v)
    (hF : ∀ (v : Nat) (h1 : v < F.length) (h2 : v < F'.length) (h3 : fst v < F.length), F'[v] = if fst v = v then 0 else F[v]) (hb : ∀ (v : Nat) (h2 : v < F.length), 0 ≤ F[v] ∧ F[v] < x.m) (hm : 2 ≤ x.m ∧ x.m ≤ 360) (hN : N ≤ 12)
    (go : vc2 FoC 991 [] sk [(6, .sl idp 1 0 N none), (7, .sl idf 1 0 N none), (9, u), (18, .int .i64 (N : Nat)), (165, .bool false)] (ga ++ ((idf, ⟨1, F'.map iv⟩) :: (idp, ⟨1, P.map iv⟩) :: h)) R) :
    Run2 FoC (.code c_spec_l23Forest_108 :: .inLoop c_spec_l23Forest_108 :: .inBlock 10 :: sk) [(6, .sl idp 1 0 N none), (7, .sl idf 1 0 N none), (9, u), (18, .int .i64 0)] (ga ++ ((idf, ⟨1, F.map iv⟩) :: (idp, ⟨1, P.map iv⟩) :: h)) R := by
  rw [show F.map iv = inpl (F.map iv) (F'.map iv) 0 by simp]
  refine Run2.loopE (fun v => [(6, .sl idp 1 0 N none), (7, .sl idf 1 0 N none), (9, u), (18, .int .i64 (v : Nat))]) (fun v => ga ++ ((idf, ⟨1, inpl (F.map iv) (F'.map iv) v⟩) :: (idp, ⟨1, P.map iv⟩) :: h)) (fun v => N - v) (fun v => v ≤ N) 0 (by simp) rfl (Nat.zero_le _) fun v hv ih => ?_
  have n1 := inpl_len (l := F.map iv) (l' := F'.map iv) (v := v) (by simp; omega)
  by_cases hlt : v < N
  · have go1 := ih (v + 1) (by omega) (by omega)
    clear ih
    obtain ⟨hk, q1, q2⟩ := hfst v (by omega)
    have hkF : fst v < F.length := by omega
    have g1 := inpl_get (l := F.map iv) (l' := F'.map iv) (v := v) (by simp; omega) (by simp; omega) (by rw [n1]; simp; omega)
    have s1 := inpl_set (l := F.map iv) (l' := F'.map iv) (v := v) (by simp; omega) (by simp; omega)
    have k1 := inpl_keep (l := F.map iv) (l' := F'.map iv) (v := v) (by simp; omega) (by simp; omega)
    simp only [List.getElem_map] at g1 s1 k1
    have hF0 := hF v (by omega) (by omega) hkF
    have hF1 := hF (fst v) (by omega) (by omega) (by rw [hff v hlt]; omega)
    have hb0 := hb v (by omega)
    have hb1 := hb (fst v) (by omega)
    simp only [hff v hlt] at hF1
    rw [hF0] at s1 k1
    generalize hX : inpl (F.map iv) (F'.map iv) = X at *
    have m1 : v < (X v).length := by rw [n1]; simp; omega
    have m2 : fst v < (X v).length := by omega
    have m3 : fst v < N := by omega
    refine Run2.of I 1000 ?_
    simp -implicitDefEqProofs [hlt]
    refine for_first2 (x := x) I hne hp hf l1 (by omega) hk q1 q2 hN ?_
    by_cases hj : fst v = v
    · simp -implicitDefEqProofs [hget_app hp, hget_app hf, hset_app hp, hset_app hf, hne, m1, m2, m3, hlt, g1, hj]
      refine ⟨by omega, ?_⟩
      simp only [iv, if_pos hj] at s1
      rw [s1]
      simpa using go1
    · have hj' : ¬ (fst v : Int) = v := by omega
      simp -implicitDefEqProofs [hget_app hp, hget_app hf, hset_app hp, hset_app hf, hne, m1, m2, m3, hlt, g1, hj, hj']
      refine ⟨by omega, ?_⟩
      simp only [if_neg hj, forall_const] at k1
      rw [k1]
      simpa using go1
  · obtain rfl : v = N := by omega
    have e1 : inpl (F.map iv) (F'.map iv) v = F'.map iv := by have := inpl_end (l := F.map iv) (l' := F'.map iv) (by simp; omega); simpa [l2] using this
    refine Run2.of I 1000 ?_
    simp -implicitDefEqProofs
    rw [e1]
    exact go
end Go.AG
