/- Stable order in place: the library's merge, walked. No statement is made here. -/
import Derived.Test.YtamjnegnoijjlaaSoC
namespace Go.AG
open Go.Proofs Go.Proofs.Ytamjnegnoijjlaa
set_option linter.unusedSimpArgs false
set_option linter.unusedVariables false
set_option maxRecDepth 4000
theorem half {i j : Nat} (hj : i + j ≤ 9223372036854775807) : arR true .u64 ((i : Int) + j) = .val (.int .u64 ((i : Int) + j)) ∧ ((i : Int) + j).fdiv (2 ^ min 1 IntKind.u64.bits) = (((i + j) / 2 : Nat) : Int) :=
  ⟨arR_u64 (w := true) (by omega) (by omega), by rw [show (2 : Int) ^ min 1 IntKind.u64.bits = 2 from rfl, Int.fdiv_eq_ediv_of_nonneg _ (by omega)]; omega⟩
theorem rot_up (f : Nat → Int) {a p : Nat} (h : a ≤ p) : swp (rot f a (a + 1) (p + 1)) p (p + 1) = rot f a (a + 1) (p + 2) := by
  funext q
  unfold swp rot
  repeat' split
  all_goals first | rfl | (exfalso; omega) | (congr 1; omega)
theorem rot_dn (f : Nat → Int) {m p : Nat} (h : p + 1 ≤ m) : swp (rot f (p + 1) m (m + 1)) (p + 1) p = rot f p m (m + 1) := by
  funext q
  unfold swp rot
  repeat' split
  all_goals first | rfl | (exfalso; omega) | (congr 1; omega)
abbrev k165_o0 : List AJ := [.o ⟨(some 25), none, false, .mv (.t 2), none⟩, .o ⟨(some 26), none, false, .mv (.t 1), none⟩, .o ⟨(some 27), none, true, .bin .sub (.t 25) (.t 26), none⟩, .o ⟨(some 28), none, false, .bin .eql (.t 27) (.c (.int .i64 1)), (some [0, 1, 2, 3, 4, 28])⟩]
abbrev k165_o1 : List AJ := [.o ⟨(some 29), none, false, .mv (.t 2), none⟩, .o ⟨(some 10), none, false, .mv (.t 29), (some [0, 1, 3, 4, 10])⟩]
abbrev k165_o2 : List AJ := [.o ⟨(some 30), none, false, .mv (.t 3), none⟩, .o ⟨(some 11), none, false, .mv (.t 30), (some [0, 1, 4, 10, 11])⟩]
abbrev k165_o3 : List AJ := [.o ⟨(some 31), none, false, .mv (.t 10), none⟩, .o ⟨(some 32), none, false, .mv (.t 11), none⟩, .o ⟨(some 33), none, false, .bin .lss (.t 31) (.t 32), (some [0, 1, 4, 10, 11, 33])⟩]
def k165_4 : ACode := .cond (.t 33) .skip (.exit 0)
def k165_5 : ACode := .seq (.region k165_o3) k165_4
abbrev k165_o4 : List AJ := [.o ⟨(some 34), none, false, .mv (.t 10), none⟩, .o ⟨(some 35), none, false, .mv (.t 11), none⟩, .o ⟨(some 36), none, true, .bin .add (.t 34) (.t 35), none⟩, .o ⟨(some 37), none, true, .conv .u64 (.t 36), none⟩, .o ⟨(some 38), none, false, .bin .shr (.t 37) (.c (.int .u64 1)), none⟩, .o ⟨(some 39), none, true, .conv .i64 (.t 38), none⟩, .o ⟨(some 12), none, false, .mv (.t 39), (some [0, 1, 4, 10, 11, 12])⟩]
abbrev k165_o5 : List AI := [⟨(some 40), none, false, .mv (.t 4), none⟩, ⟨(some 41), none, false, .mv (.t 0), none⟩, ⟨(some 42), none, false, .mv (.t 12), none⟩, ⟨(some 43), none, false, .idxA 1 (.t 41) (.t 42), none⟩, ⟨(some 44), none, false, .load 1 false (.t 43), none⟩, ⟨(some 45), none, false, .mv (.t 0), none⟩, ⟨(some 46), none, false, .mv (.t 1), none⟩, ⟨(some 47), none, false, .idxA 1 (.t 45) (.t 46), none⟩, ⟨(some 48), none, false, .load 1 false (.t 47), none⟩, ⟨(some 49), none, false, .callv (.t 40) [(.t 44), (.t 48)], none⟩, ⟨(some 50), none, false, .bin .lss (.t 49) (.c (.int .i64 0)), (some [0, 1, 4, 10, 11, 12, 50])⟩]
abbrev k165_o6 : List AJ := [.o ⟨(some 51), none, false, .mv (.t 12), none⟩, .o ⟨(some 52), none, true, .bin .add (.t 51) (.c (.int .i64 1)), none⟩, .o ⟨(some 10), none, false, .mv (.t 52), (some [0, 1, 4, 10, 11])⟩]
def k165_8 : ACode := .region k165_o6
abbrev k165_o7 : List AJ := [.o ⟨(some 53), none, false, .mv (.t 12), none⟩, .o ⟨(some 11), none, false, .mv (.t 53), (some [0, 1, 4, 10, 11])⟩]
def k165_9 : ACode := .region k165_o7
def k165_10 : ACode := .cond (.t 50) k165_8 k165_9
def k165_11 : ACode := .seq (.draw k165_o5 [] rfl) k165_10
def k165_12 : ACode := .seq (.region k165_o4) k165_11
def k165_13 : ACode := .block 1 k165_12
def k165_14 : ACode := .seq k165_5 k165_13
def k165_15 : ACode := .loop k165_14
abbrev k165_o8 : List AJ := [.o ⟨(some 54), none, false, .mv (.t 1), none⟩, .o ⟨(some 13), none, false, .mv (.t 54), (some [0, 10, 13])⟩]
abbrev k165_o9 : List AJ := [.o ⟨(some 55), none, false, .mv (.t 13), none⟩, .o ⟨(some 56), none, false, .mv (.t 10), none⟩, .o ⟨(some 57), none, true, .bin .sub (.t 56) (.c (.int .i64 1)), none⟩, .o ⟨(some 58), none, false, .bin .lss (.t 55) (.t 57), (some [0, 10, 13, 58])⟩]
def k165_19 : ACode := .cond (.t 58) .skip (.exit 2)
def k165_20 : ACode := .seq (.region k165_o9) k165_19
abbrev k165_o10 : List AJ := [.o ⟨(some 61), none, false, .mv (.t 0), none⟩, .o ⟨(some 62), none, false, .mv (.t 13), none⟩, .o ⟨(some 63), none, false, .mv (.t 0), none⟩, .o ⟨(some 64), none, false, .mv (.t 13), none⟩, .o ⟨(some 65), none, true, .bin .add (.t 64) (.c (.int .i64 1)), none⟩, .o ⟨(some 66), none, false, .mv (.t 0), none⟩, .o ⟨(some 67), none, false, .mv (.t 13), none⟩, .o ⟨(some 68), none, true, .bin .add (.t 67) (.c (.int .i64 1)), none⟩, .o ⟨(some 69), none, false, .idxA 1 (.t 66) (.t 68), none⟩, .o ⟨(some 70), none, false, .load 1 false (.t 69), none⟩, .o ⟨(some 71), none, false, .mv (.t 0), none⟩, .o ⟨(some 72), none, false, .mv (.t 13), none⟩, .o ⟨(some 73), none, false, .idxA 1 (.t 71) (.t 72), none⟩, .o ⟨(some 74), none, false, .load 1 false (.t 73), (some [0, 10, 13, 61, 62, 63, 65, 70, 74])⟩, .o ⟨(some 75), none, false, .idxA 1 (.t 61) (.t 62), none⟩, .o ⟨none, none, false, .store 1 (.t 75) (.t 70), none⟩, .o ⟨(some 76), none, false, .idxA 1 (.t 63) (.t 65), none⟩, .o ⟨none, none, false, .store 1 (.t 76) (.t 74), (some [0, 10, 13])⟩]
def k165_21 : ACode := .drawT 0 k165_o10 rfl
abbrev k165_o11 : List AJ := [.o ⟨(some 59), none, false, .mv (.t 13), none⟩, .o ⟨(some 60), none, true, .bin .add (.t 59) (.c (.int .i64 1)), none⟩, .o ⟨(some 13), none, false, .mv (.t 60), (some [0, 10, 13])⟩]
def k165_23 : ACode := .region k165_o11
def k165_24 : ACode := .seq (.block 3 k165_21) k165_23
def k165_25 : ACode := .seq k165_20 k165_24
def k165_26 : ACode := .loop k165_25
def k165_27 : ACode := .block 2 k165_26
def k165_28 : ACode := .seq (.region k165_o8) k165_27
def k165_29 : ACode := .seq k165_28 .ret
def k165_30 : ACode := .seq (.block 0 k165_15) k165_29
def k165_31 : ACode := .seq (.region k165_o2) k165_30
def k165_32 : ACode := .seq (.region k165_o1) k165_31
def k165_33 : ACode := .cond (.t 28) k165_32 .skip
def k165_34 : ACode := .seq (.region k165_o0) k165_33
abbrev k165_o12 : List AJ := [.o ⟨(some 77), none, false, .mv (.t 3), none⟩, .o ⟨(some 78), none, false, .mv (.t 2), none⟩, .o ⟨(some 79), none, true, .bin .sub (.t 77) (.t 78), none⟩, .o ⟨(some 80), none, false, .bin .eql (.t 79) (.c (.int .i64 1)), (some [0, 1, 2, 3, 4, 80])⟩]
abbrev k165_o13 : List AJ := [.o ⟨(some 81), none, false, .mv (.t 1), none⟩, .o ⟨(some 14), none, false, .mv (.t 81), (some [0, 2, 4, 14])⟩]
abbrev k165_o14 : List AJ := [.o ⟨(some 82), none, false, .mv (.t 2), none⟩, .o ⟨(some 15), none, false, .mv (.t 82), (some [0, 2, 4, 14, 15])⟩]
abbrev k165_o15 : List AJ := [.o ⟨(some 83), none, false, .mv (.t 14), none⟩, .o ⟨(some 84), none, false, .mv (.t 15), none⟩, .o ⟨(some 85), none, false, .bin .lss (.t 83) (.t 84), (some [0, 2, 4, 14, 15, 85])⟩]
def k165_39 : ACode := .cond (.t 85) .skip (.exit 4)
def k165_40 : ACode := .seq (.region k165_o15) k165_39
abbrev k165_o16 : List AJ := [.o ⟨(some 86), none, false, .mv (.t 14), none⟩, .o ⟨(some 87), none, false, .mv (.t 15), none⟩, .o ⟨(some 88), none, true, .bin .add (.t 86) (.t 87), none⟩, .o ⟨(some 89), none, true, .conv .u64 (.t 88), none⟩, .o ⟨(some 90), none, false, .bin .shr (.t 89) (.c (.int .u64 1)), none⟩, .o ⟨(some 91), none, true, .conv .i64 (.t 90), none⟩, .o ⟨(some 16), none, false, .mv (.t 91), (some [0, 2, 4, 14, 15, 16])⟩]
abbrev k165_o17 : List AI := [⟨(some 92), none, false, .mv (.t 4), none⟩, ⟨(some 93), none, false, .mv (.t 0), none⟩, ⟨(some 94), none, false, .mv (.t 2), none⟩, ⟨(some 95), none, false, .idxA 1 (.t 93) (.t 94), none⟩, ⟨(some 96), none, false, .load 1 false (.t 95), none⟩, ⟨(some 97), none, false, .mv (.t 0), none⟩, ⟨(some 98), none, false, .mv (.t 16), none⟩, ⟨(some 99), none, false, .idxA 1 (.t 97) (.t 98), none⟩, ⟨(some 100), none, false, .load 1 false (.t 99), none⟩, ⟨(some 101), none, false, .callv (.t 92) [(.t 96), (.t 100)], none⟩, ⟨(some 102), none, false, .bin .lss (.t 101) (.c (.int .i64 0)), none⟩, ⟨(some 103), none, false, .un .not (.t 102), (some [0, 2, 4, 14, 15, 16, 103])⟩]
abbrev k165_o18 : List AJ := [.o ⟨(some 104), none, false, .mv (.t 16), none⟩, .o ⟨(some 105), none, true, .bin .add (.t 104) (.c (.int .i64 1)), none⟩, .o ⟨(some 14), none, false, .mv (.t 105), (some [0, 2, 4, 14, 15])⟩]
def k165_43 : ACode := .region k165_o18
abbrev k165_o19 : List AJ := [.o ⟨(some 106), none, false, .mv (.t 16), none⟩, .o ⟨(some 15), none, false, .mv (.t 106), (some [0, 2, 4, 14, 15])⟩]
def k165_44 : ACode := .region k165_o19
def k165_45 : ACode := .cond (.t 103) k165_43 k165_44
def k165_46 : ACode := .seq (.draw k165_o17 [] rfl) k165_45
def k165_47 : ACode := .seq (.region k165_o16) k165_46
def k165_48 : ACode := .block 5 k165_47
def k165_49 : ACode := .seq k165_40 k165_48
def k165_50 : ACode := .loop k165_49
abbrev k165_o20 : List AJ := [.o ⟨(some 107), none, false, .mv (.t 2), none⟩, .o ⟨(some 17), none, false, .mv (.t 107), (some [0, 14, 17])⟩]
abbrev k165_o21 : List AJ := [.o ⟨(some 108), none, false, .mv (.t 17), none⟩, .o ⟨(some 109), none, false, .mv (.t 14), none⟩, .o ⟨(some 110), none, false, .bin .gtr (.t 108) (.t 109), (some [0, 14, 17, 110])⟩]
def k165_54 : ACode := .cond (.t 110) .skip (.exit 6)
def k165_55 : ACode := .seq (.region k165_o21) k165_54
abbrev k165_o22 : List AJ := [.o ⟨(some 113), none, false, .mv (.t 0), none⟩, .o ⟨(some 114), none, false, .mv (.t 17), none⟩, .o ⟨(some 115), none, false, .mv (.t 0), none⟩, .o ⟨(some 116), none, false, .mv (.t 17), none⟩, .o ⟨(some 117), none, true, .bin .sub (.t 116) (.c (.int .i64 1)), none⟩, .o ⟨(some 118), none, false, .mv (.t 0), none⟩, .o ⟨(some 119), none, false, .mv (.t 17), none⟩, .o ⟨(some 120), none, true, .bin .sub (.t 119) (.c (.int .i64 1)), none⟩, .o ⟨(some 121), none, false, .idxA 1 (.t 118) (.t 120), none⟩, .o ⟨(some 122), none, false, .load 1 false (.t 121), none⟩, .o ⟨(some 123), none, false, .mv (.t 0), none⟩, .o ⟨(some 124), none, false, .mv (.t 17), none⟩, .o ⟨(some 125), none, false, .idxA 1 (.t 123) (.t 124), none⟩, .o ⟨(some 126), none, false, .load 1 false (.t 125), (some [0, 14, 17, 113, 114, 115, 117, 122, 126])⟩, .o ⟨(some 127), none, false, .idxA 1 (.t 113) (.t 114), none⟩, .o ⟨none, none, false, .store 1 (.t 127) (.t 122), none⟩, .o ⟨(some 128), none, false, .idxA 1 (.t 115) (.t 117), none⟩, .o ⟨none, none, false, .store 1 (.t 128) (.t 126), (some [0, 14, 17])⟩]
def k165_56 : ACode := .drawT 0 k165_o22 rfl
abbrev k165_o23 : List AJ := [.o ⟨(some 111), none, false, .mv (.t 17), none⟩, .o ⟨(some 112), none, true, .bin .sub (.t 111) (.c (.int .i64 1)), none⟩, .o ⟨(some 17), none, false, .mv (.t 112), (some [0, 14, 17])⟩]
def k165_58 : ACode := .region k165_o23
def k165_59 : ACode := .seq (.block 7 k165_56) k165_58
def k165_60 : ACode := .seq k165_55 k165_59
def k165_61 : ACode := .loop k165_60
def k165_62 : ACode := .block 6 k165_61
def k165_63 : ACode := .seq (.region k165_o20) k165_62
def k165_64 : ACode := .seq k165_63 .ret
def k165_65 : ACode := .seq (.block 4 k165_50) k165_64
def k165_66 : ACode := .seq (.region k165_o14) k165_65
def k165_67 : ACode := .seq (.region k165_o13) k165_66
def k165_68 : ACode := .cond (.t 80) k165_67 .skip
def k165_69 : ACode := .seq (.region k165_o12) k165_68
abbrev k165_o24 : List AJ := [.o ⟨(some 129), none, false, .mv (.t 1), none⟩, .o ⟨(some 130), none, false, .mv (.t 3), none⟩, .o ⟨(some 131), none, true, .bin .add (.t 129) (.t 130), none⟩, .o ⟨(some 132), none, true, .conv .u64 (.t 131), none⟩, .o ⟨(some 133), none, false, .bin .shr (.t 132) (.c (.int .u64 1)), none⟩, .o ⟨(some 134), none, true, .conv .i64 (.t 133), none⟩, .o ⟨(some 18), none, false, .mv (.t 134), (some [0, 1, 2, 3, 4, 18])⟩]
abbrev k165_o25 : List AJ := [.o ⟨(some 135), none, false, .mv (.t 18), none⟩, .o ⟨(some 136), none, false, .mv (.t 2), none⟩, .o ⟨(some 137), none, true, .bin .add (.t 135) (.t 136), none⟩, .o ⟨(some 19), none, false, .mv (.t 137), (some [0, 1, 2, 3, 4, 18, 19])⟩]
abbrev k165_o26 : List AJ := [.o ⟨(some 20), none, false, .mv (.c (.int .i64 0)), none⟩, .o ⟨(some 21), none, false, .mv (.c (.int .i64 0)), (some [0, 1, 2, 3, 4, 18, 19])⟩]
abbrev k165_o27 : List AJ := [.o ⟨(some 138), none, false, .mv (.t 2), none⟩, .o ⟨(some 139), none, false, .mv (.t 18), none⟩, .o ⟨(some 140), none, false, .bin .gtr (.t 138) (.t 139), (some [0, 1, 2, 3, 4, 18, 19, 140])⟩]
abbrev k165_o28 : List AJ := [.o ⟨(some 141), none, false, .mv (.t 19), none⟩, .o ⟨(some 142), none, false, .mv (.t 3), none⟩, .o ⟨(some 143), none, true, .bin .sub (.t 141) (.t 142), none⟩, .o ⟨(some 20), none, false, .mv (.t 143), (some [0, 1, 2, 3, 4, 18, 19, 20])⟩]
abbrev k165_o29 : List AJ := [.o ⟨(some 144), none, false, .mv (.t 18), none⟩, .o ⟨(some 21), none, false, .mv (.t 144), (some [0, 1, 2, 3, 4, 18, 19, 20, 21])⟩]
def k165_75 : ACode := .region k165_o29
def k165_76 : ACode := .seq (.region k165_o28) k165_75
abbrev k165_o30 : List AJ := [.o ⟨(some 145), none, false, .mv (.t 1), none⟩, .o ⟨(some 20), none, false, .mv (.t 145), (some [0, 1, 2, 3, 4, 18, 19, 20])⟩]
abbrev k165_o31 : List AJ := [.o ⟨(some 146), none, false, .mv (.t 2), none⟩, .o ⟨(some 21), none, false, .mv (.t 146), (some [0, 1, 2, 3, 4, 18, 19, 20, 21])⟩]
def k165_78 : ACode := .region k165_o31
def k165_79 : ACode := .seq (.region k165_o30) k165_78
def k165_80 : ACode := .cond (.t 140) k165_76 k165_79
def k165_81 : ACode := .seq (.region k165_o27) k165_80
abbrev k165_o32 : List AJ := [.o ⟨(some 147), none, false, .mv (.t 19), none⟩, .o ⟨(some 148), none, true, .bin .sub (.t 147) (.c (.int .i64 1)), none⟩, .o ⟨(some 22), none, false, .mv (.t 148), (some [0, 1, 2, 3, 4, 18, 19, 20, 21, 22])⟩]
abbrev k165_o33 : List AJ := [.o ⟨(some 149), none, false, .mv (.t 20), none⟩, .o ⟨(some 150), none, false, .mv (.t 21), none⟩, .o ⟨(some 151), none, false, .bin .lss (.t 149) (.t 150), (some [0, 1, 2, 3, 4, 18, 19, 20, 21, 22, 151])⟩]
def k165_84 : ACode := .cond (.t 151) .skip (.exit 8)
def k165_85 : ACode := .seq (.region k165_o33) k165_84
abbrev k165_o34 : List AJ := [.o ⟨(some 152), none, false, .mv (.t 20), none⟩, .o ⟨(some 153), none, false, .mv (.t 21), none⟩, .o ⟨(some 154), none, true, .bin .add (.t 152) (.t 153), none⟩, .o ⟨(some 155), none, true, .conv .u64 (.t 154), none⟩, .o ⟨(some 156), none, false, .bin .shr (.t 155) (.c (.int .u64 1)), none⟩, .o ⟨(some 157), none, true, .conv .i64 (.t 156), none⟩, .o ⟨(some 23), none, false, .mv (.t 157), (some [0, 1, 2, 3, 4, 18, 19, 20, 21, 22, 23])⟩]
abbrev k165_o35 : List AI := [⟨(some 158), none, false, .mv (.t 4), none⟩, ⟨(some 159), none, false, .mv (.t 0), none⟩, ⟨(some 160), none, false, .mv (.t 22), none⟩, ⟨(some 161), none, false, .mv (.t 23), none⟩, ⟨(some 162), none, true, .bin .sub (.t 160) (.t 161), none⟩, ⟨(some 163), none, false, .idxA 1 (.t 159) (.t 162), none⟩, ⟨(some 164), none, false, .load 1 false (.t 163), none⟩, ⟨(some 165), none, false, .mv (.t 0), none⟩, ⟨(some 166), none, false, .mv (.t 23), none⟩, ⟨(some 167), none, false, .idxA 1 (.t 165) (.t 166), none⟩, ⟨(some 168), none, false, .load 1 false (.t 167), none⟩, ⟨(some 169), none, false, .callv (.t 158) [(.t 164), (.t 168)], none⟩, ⟨(some 170), none, false, .bin .lss (.t 169) (.c (.int .i64 0)), none⟩, ⟨(some 171), none, false, .un .not (.t 170), (some [0, 1, 2, 3, 4, 18, 19, 20, 21, 22, 23, 171])⟩]
abbrev k165_o36 : List AJ := [.o ⟨(some 172), none, false, .mv (.t 23), none⟩, .o ⟨(some 173), none, true, .bin .add (.t 172) (.c (.int .i64 1)), none⟩, .o ⟨(some 20), none, false, .mv (.t 173), (some [0, 1, 2, 3, 4, 18, 19, 20, 21, 22])⟩]
def k165_88 : ACode := .region k165_o36
abbrev k165_o37 : List AJ := [.o ⟨(some 174), none, false, .mv (.t 23), none⟩, .o ⟨(some 21), none, false, .mv (.t 174), (some [0, 1, 2, 3, 4, 18, 19, 20, 21, 22])⟩]
def k165_89 : ACode := .region k165_o37
def k165_90 : ACode := .cond (.t 171) k165_88 k165_89
def k165_91 : ACode := .seq (.draw k165_o35 [] rfl) k165_90
def k165_92 : ACode := .seq (.region k165_o34) k165_91
def k165_93 : ACode := .block 9 k165_92
def k165_94 : ACode := .seq k165_85 k165_93
def k165_95 : ACode := .loop k165_94
abbrev k165_o38 : List AJ := [.o ⟨(some 175), none, false, .mv (.t 19), none⟩, .o ⟨(some 176), none, false, .mv (.t 20), none⟩, .o ⟨(some 177), none, true, .bin .sub (.t 175) (.t 176), none⟩, .o ⟨(some 24), none, false, .mv (.t 177), (some [0, 1, 2, 3, 4, 18, 20, 24])⟩]
abbrev k165_o39 : List AJ := [.o ⟨(some 178), none, false, .mv (.t 20), none⟩, .o ⟨(some 179), none, false, .mv (.t 2), none⟩, .o ⟨(some 180), none, false, .bin .lss (.t 178) (.t 179), none⟩, .o ⟨(some 181), none, false, .mv (.t 180), none⟩, .o ⟨(some 182), (some (181, true)), false, .mv (.t 2), none⟩, .o ⟨(some 183), (some (181, true)), false, .mv (.t 24), none⟩, .o ⟨(some 184), (some (181, true)), false, .bin .lss (.t 182) (.t 183), none⟩, .o ⟨(some 185), none, false, .pick (.t 181) (.t 184) (.c (.bool false)), (some [0, 1, 2, 3, 4, 18, 20, 24, 185])⟩]
abbrev k165_o40 : List AJ := [.o ⟨(some 186), none, false, .mv (.t 0), none⟩, .o ⟨(some 187), none, false, .mv (.t 20), none⟩, .o ⟨(some 188), none, false, .mv (.t 2), none⟩, .o ⟨(some 189), none, false, .mv (.t 24), none⟩, .o ⟨(some 190), none, false, .mv (.t 4), none⟩, .o ⟨(some 191), none, false, .call 174 [(.t 186), (.t 187), (.t 188), (.t 189), (.t 190)], (some [0, 1, 3, 4, 18, 20, 24])⟩]
def k165_99 : ACode := .region k165_o40
def k165_100 : ACode := .cond (.t 185) k165_99 .skip
def k165_101 : ACode := .seq (.region k165_o39) k165_100
abbrev k165_o41 : List AJ := [.o ⟨(some 192), none, false, .mv (.t 1), none⟩, .o ⟨(some 193), none, false, .mv (.t 20), none⟩, .o ⟨(some 194), none, false, .bin .lss (.t 192) (.t 193), none⟩, .o ⟨(some 195), none, false, .mv (.t 194), none⟩, .o ⟨(some 196), (some (195, true)), false, .mv (.t 20), none⟩, .o ⟨(some 197), (some (195, true)), false, .mv (.t 18), none⟩, .o ⟨(some 198), (some (195, true)), false, .bin .lss (.t 196) (.t 197), none⟩, .o ⟨(some 199), none, false, .pick (.t 195) (.t 198) (.c (.bool false)), (some [0, 1, 3, 4, 18, 20, 24, 199])⟩]
abbrev k165_o42 : List AJ := [.o ⟨(some 200), none, false, .mv (.t 0), none⟩, .o ⟨(some 201), none, false, .mv (.t 1), none⟩, .o ⟨(some 202), none, false, .mv (.t 20), none⟩, .o ⟨(some 203), none, false, .mv (.t 18), none⟩, .o ⟨(some 204), none, false, .mv (.t 4), none⟩, .o ⟨(some 205), none, false, .call 165 [(.t 200), (.t 201), (.t 202), (.t 203), (.t 204)], (some [0, 3, 4, 18, 24])⟩]
def k165_103 : ACode := .region k165_o42
def k165_104 : ACode := .cond (.t 199) k165_103 .skip
def k165_105 : ACode := .seq (.region k165_o41) k165_104
abbrev k165_o43 : List AJ := [.o ⟨(some 206), none, false, .mv (.t 18), none⟩, .o ⟨(some 207), none, false, .mv (.t 24), none⟩, .o ⟨(some 208), none, false, .bin .lss (.t 206) (.t 207), none⟩, .o ⟨(some 209), none, false, .mv (.t 208), none⟩, .o ⟨(some 210), (some (209, true)), false, .mv (.t 24), none⟩, .o ⟨(some 211), (some (209, true)), false, .mv (.t 3), none⟩, .o ⟨(some 212), (some (209, true)), false, .bin .lss (.t 210) (.t 211), none⟩, .o ⟨(some 213), none, false, .pick (.t 209) (.t 212) (.c (.bool false)), (some [0, 3, 4, 18, 24, 213])⟩]
abbrev k165_o44 : List AJ := [.o ⟨(some 214), none, false, .mv (.t 0), none⟩, .o ⟨(some 215), none, false, .mv (.t 18), none⟩, .o ⟨(some 216), none, false, .mv (.t 24), none⟩, .o ⟨(some 217), none, false, .mv (.t 3), none⟩, .o ⟨(some 218), none, false, .mv (.t 4), none⟩, .o ⟨(some 219), none, false, .call 165 [(.t 214), (.t 215), (.t 216), (.t 217), (.t 218)], (some [])⟩]
def k165_107 : ACode := .region k165_o44
def k165_108 : ACode := .cond (.t 213) k165_107 .skip
def k165_109 : ACode := .seq (.region k165_o43) k165_108
def k165_110 : ACode := .seq k165_105 k165_109
def k165_111 : ACode := .seq k165_101 k165_110
def k165_112 : ACode := .seq (.region k165_o38) k165_111
def k165_113 : ACode := .seq (.block 8 k165_95) k165_112
def k165_114 : ACode := .seq (.region k165_o32) k165_113
def k165_115 : ACode := .seq k165_81 k165_114
def k165_116 : ACode := .seq (.region k165_o26) k165_115
def k165_117 : ACode := .seq (.region k165_o25) k165_116
def k165_118 : ACode := .seq (.region k165_o24) k165_117
def k165_119 : ACode := .seq k165_69 k165_118
def k165_120 : ACode := .seq k165_34 k165_119
@[simp, simp ↓] theorem k165_4r : rC k165_4 (.t 33) .skip (.exit 0) := zC rfl
@[simp, simp ↓] theorem k165_5r : sR k165_5 k165_o3 k165_4 := yR rfl
@[simp, simp ↓] theorem k165_8r : rR k165_8 k165_o6 := zR rfl
@[simp, simp ↓] theorem k165_9r : rR k165_9 k165_o7 := zR rfl
@[simp, simp ↓] theorem k165_10r : rC k165_10 (.t 50) k165_8 k165_9 := zC rfl
@[simp, simp ↓] theorem k165_11r : sD k165_11 k165_o5 [] k165_10 := yD rfl
@[simp, simp ↓] theorem k165_12r : sR k165_12 k165_o4 k165_11 := yR rfl
@[simp, simp ↓] theorem k165_13r : rB k165_13 1 k165_12 := zB rfl
@[simp, simp ↓] theorem k165_14r : rS k165_14 k165_5 k165_13 := zS rfl
@[simp, simp ↓] theorem k165_15r : rL k165_15 k165_14 := zL rfl
@[simp, simp ↓] theorem k165_19r : rC k165_19 (.t 58) .skip (.exit 2) := zC rfl
@[simp, simp ↓] theorem k165_20r : sR k165_20 k165_o9 k165_19 := yR rfl
@[simp, simp ↓] theorem k165_21r : rT k165_21 k165_o10 := zT rfl
@[simp, simp ↓] theorem k165_23r : rR k165_23 k165_o11 := zR rfl
@[simp, simp ↓] theorem k165_24r : sB k165_24 3 k165_21 k165_23 := yB rfl
@[simp, simp ↓] theorem k165_25r : rS k165_25 k165_20 k165_24 := zS rfl
@[simp, simp ↓] theorem k165_26r : rL k165_26 k165_25 := zL rfl
@[simp, simp ↓] theorem k165_27r : rB k165_27 2 k165_26 := zB rfl
@[simp, simp ↓] theorem k165_28r : sR k165_28 k165_o8 k165_27 := yR rfl
@[simp, simp ↓] theorem k165_29r : rS k165_29 k165_28 .ret := zS rfl
@[simp, simp ↓] theorem k165_30r : sB k165_30 0 k165_15 k165_29 := yB rfl
@[simp, simp ↓] theorem k165_31r : sR k165_31 k165_o2 k165_30 := yR rfl
@[simp, simp ↓] theorem k165_32r : sR k165_32 k165_o1 k165_31 := yR rfl
@[simp, simp ↓] theorem k165_33r : rC k165_33 (.t 28) k165_32 .skip := zC rfl
@[simp, simp ↓] theorem k165_34r : sR k165_34 k165_o0 k165_33 := yR rfl
@[simp, simp ↓] theorem k165_39r : rC k165_39 (.t 85) .skip (.exit 4) := zC rfl
@[simp, simp ↓] theorem k165_40r : sR k165_40 k165_o15 k165_39 := yR rfl
@[simp, simp ↓] theorem k165_43r : rR k165_43 k165_o18 := zR rfl
@[simp, simp ↓] theorem k165_44r : rR k165_44 k165_o19 := zR rfl
@[simp, simp ↓] theorem k165_45r : rC k165_45 (.t 103) k165_43 k165_44 := zC rfl
@[simp, simp ↓] theorem k165_46r : sD k165_46 k165_o17 [] k165_45 := yD rfl
@[simp, simp ↓] theorem k165_47r : sR k165_47 k165_o16 k165_46 := yR rfl
@[simp, simp ↓] theorem k165_48r : rB k165_48 5 k165_47 := zB rfl
@[simp, simp ↓] theorem k165_49r : rS k165_49 k165_40 k165_48 := zS rfl
@[simp, simp ↓] theorem k165_50r : rL k165_50 k165_49 := zL rfl
@[simp, simp ↓] theorem k165_54r : rC k165_54 (.t 110) .skip (.exit 6) := zC rfl
@[simp, simp ↓] theorem k165_55r : sR k165_55 k165_o21 k165_54 := yR rfl
@[simp, simp ↓] theorem k165_56r : rT k165_56 k165_o22 := zT rfl
@[simp, simp ↓] theorem k165_58r : rR k165_58 k165_o23 := zR rfl
@[simp, simp ↓] theorem k165_59r : sB k165_59 7 k165_56 k165_58 := yB rfl
@[simp, simp ↓] theorem k165_60r : rS k165_60 k165_55 k165_59 := zS rfl
@[simp, simp ↓] theorem k165_61r : rL k165_61 k165_60 := zL rfl
@[simp, simp ↓] theorem k165_62r : rB k165_62 6 k165_61 := zB rfl
@[simp, simp ↓] theorem k165_63r : sR k165_63 k165_o20 k165_62 := yR rfl
@[simp, simp ↓] theorem k165_64r : rS k165_64 k165_63 .ret := zS rfl
@[simp, simp ↓] theorem k165_65r : sB k165_65 4 k165_50 k165_64 := yB rfl
@[simp, simp ↓] theorem k165_66r : sR k165_66 k165_o14 k165_65 := yR rfl
@[simp, simp ↓] theorem k165_67r : sR k165_67 k165_o13 k165_66 := yR rfl
@[simp, simp ↓] theorem k165_68r : rC k165_68 (.t 80) k165_67 .skip := zC rfl
@[simp, simp ↓] theorem k165_69r : sR k165_69 k165_o12 k165_68 := yR rfl
@[simp, simp ↓] theorem k165_75r : rR k165_75 k165_o29 := zR rfl
@[simp, simp ↓] theorem k165_76r : sR k165_76 k165_o28 k165_75 := yR rfl
@[simp, simp ↓] theorem k165_78r : rR k165_78 k165_o31 := zR rfl
@[simp, simp ↓] theorem k165_79r : sR k165_79 k165_o30 k165_78 := yR rfl
@[simp, simp ↓] theorem k165_80r : rC k165_80 (.t 140) k165_76 k165_79 := zC rfl
@[simp, simp ↓] theorem k165_81r : sR k165_81 k165_o27 k165_80 := yR rfl
@[simp, simp ↓] theorem k165_84r : rC k165_84 (.t 151) .skip (.exit 8) := zC rfl
@[simp, simp ↓] theorem k165_85r : sR k165_85 k165_o33 k165_84 := yR rfl
@[simp, simp ↓] theorem k165_88r : rR k165_88 k165_o36 := zR rfl
@[simp, simp ↓] theorem k165_89r : rR k165_89 k165_o37 := zR rfl
@[simp, simp ↓] theorem k165_90r : rC k165_90 (.t 171) k165_88 k165_89 := zC rfl
@[simp, simp ↓] theorem k165_91r : sD k165_91 k165_o35 [] k165_90 := yD rfl
@[simp, simp ↓] theorem k165_92r : sR k165_92 k165_o34 k165_91 := yR rfl
@[simp, simp ↓] theorem k165_93r : rB k165_93 9 k165_92 := zB rfl
@[simp, simp ↓] theorem k165_94r : rS k165_94 k165_85 k165_93 := zS rfl
@[simp, simp ↓] theorem k165_95r : rL k165_95 k165_94 := zL rfl
@[simp, simp ↓] theorem k165_99r : rR k165_99 k165_o40 := zR rfl
@[simp, simp ↓] theorem k165_100r : rC k165_100 (.t 185) k165_99 .skip := zC rfl
@[simp, simp ↓] theorem k165_101r : sR k165_101 k165_o39 k165_100 := yR rfl
@[simp, simp ↓] theorem k165_103r : rR k165_103 k165_o42 := zR rfl
@[simp, simp ↓] theorem k165_104r : rC k165_104 (.t 199) k165_103 .skip := zC rfl
@[simp, simp ↓] theorem k165_105r : sR k165_105 k165_o41 k165_104 := yR rfl
@[simp, simp ↓] theorem k165_107r : rR k165_107 k165_o44 := zR rfl
@[simp, simp ↓] theorem k165_108r : rC k165_108 (.t 213) k165_107 .skip := zC rfl
@[simp, simp ↓] theorem k165_109r : sR k165_109 k165_o43 k165_108 := yR rfl
@[simp, simp ↓] theorem k165_110r : rS k165_110 k165_105 k165_109 := zS rfl
@[simp, simp ↓] theorem k165_111r : rS k165_111 k165_101 k165_110 := zS rfl
@[simp, simp ↓] theorem k165_112r : sR k165_112 k165_o38 k165_111 := yR rfl
@[simp, simp ↓] theorem k165_113r : sB k165_113 8 k165_95 k165_112 := yB rfl
@[simp, simp ↓] theorem k165_114r : sR k165_114 k165_o32 k165_113 := yR rfl
@[simp, simp ↓] theorem k165_115r : rS k165_115 k165_81 k165_114 := zS rfl
@[simp, simp ↓] theorem k165_116r : sR k165_116 k165_o26 k165_115 := yR rfl
@[simp, simp ↓] theorem k165_117r : sR k165_117 k165_o25 k165_116 := yR rfl
@[simp, simp ↓] theorem k165_118r : sR k165_118 k165_o24 k165_117 := yR rfl
@[simp, simp ↓] theorem k165_119r : rS k165_119 k165_69 k165_118 := zS rfl
@[simp, simp ↓] theorem k165_120r : rS k165_120 k165_34 k165_119 := zS rfl
noncomputable abbrev k165_C : Orc → Cx := mkC Try.prog [] 165 220 []
theorem k165_of0 : OfP0 Try.prog Try.f165 165 220 k165_C k165_120 := @ofP0 _ _ _ _ _ _ _ _ Try.func165 (by decide +kernel) rfl (by kernel_rfl) rfl (by kernel_rfl)
set_option maxHeartbeats 4000000 in
theorem sym_s {id n : Nat} {tl : Heap} {g : FuncId} {caps : List AV} {k : Int → Int} {dm : Int → Prop} (C : Cm Try.prog g caps k dm) (hn : n ≤ 1048576) : ∀ (N : Nat) (f : Nat → Int) (a m b : Nat), b - a ≤ N → a < m → m < b → b ≤ n → (∀ p, p < n → dm (f p)) → Srt2 k f a m → Srt2 k f m b → (∀ p q, a ≤ p → p < m → m ≤ q → q < b → f p < f q) → ACalls Try.prog 165 [.sl id 1 0 n none, .int .i64 a, .int .i64 m, .int .i64 b, .fn g caps] ((id, ⟨1, (arr n f).map iv⟩) :: tl) (OutS k id n f tl a b) := by
  intro N
  induction N with
  | zero => intro f a m b h1 h2 h3; omega
  | succ N IH =>
    intro f a m b hN ham hmb hbn hd hL hR hidx
    have hl := arr_len n f
    have get : ∀ p (h : p < n), ∃ h2 : p < (arr n f).length, (arr n f)[p] = f p := fun p h => ⟨by omega, arr_get h (by omega)⟩
    refine k165_of0 rfl noPure fun I => ?_
    by_cases h1 : m = a + 1
    · have hma : (m : Int) - a = 1 := by omega
      obtain ⟨qa, ea⟩ := get a (by omega)
      refine Run2.of I 1000 ?_
      simp -implicitDefEqProofs [hma]
      refine Run2.loopE (α := Nat × Nat) (fun p => [(0, .sl id 1 0 n none), (1, .int .i64 a), (4, .fn g caps), (10, .int .i64 p.1), (11, .int .i64 p.2)]) (fun _ => (id, ⟨1, (arr n f).map iv⟩) :: tl) (fun p => p.2 - p.1) (fun p => m ≤ p.1 ∧ p.1 ≤ p.2 ∧ p.2 ≤ b ∧ (∀ q, m ≤ q → q < p.1 → lt2 k (f q) (f a)) ∧ ∀ q, p.2 ≤ q → q < b → lt2 k (f a) (f q)) (m, b) (by simp) rfl ⟨Nat.le_refl _, by simp only; omega, Nat.le_refl _, fun q h1 h2 => by simp only at h2; omega, fun q h1 h2 => by simp only at h1; omega⟩ ?_
      rintro ⟨i, j⟩ ⟨hi, hij, hj, hA, hB⟩ ih
      simp only at hi hij hj hA hB
      by_cases hlt : i < j
      · obtain ⟨hw, hm⟩ := half (i := i) (j := j) (by omega)
        have hm1 : i ≤ (i + j) / 2 := by omega
        have hm2 : (i + j) / 2 < j := by omega
        generalize (i + j) / 2 = c at *
        obtain ⟨qc, ec⟩ := get c (by omega)
        have hcn : c < n := by omega
        have han : a < n := by omega
        obtain ⟨r, hr, hcall⟩ := C.call (f c) (f a) ((id, ⟨1, (arr n f).map iv⟩) :: tl) (hd c hcn) (hd a han)
        have hkey := lt2_key (k := k) (hidx a c (Nat.le_refl _) ham (by omega) (by omega))
        by_cases hcmp : lt2 k (f c) (f a)
        · have hr0 : r < 0 := hr.2 (hkey.1 hcmp)
          have go := ih (c + 1, j) ⟨by simp only; omega, by simp only; omega, hj, fun q h1 h2 => by simp only at h2; exact hR.low h1 (by omega : q ≤ c) (by omega) hcmp, hB⟩ (by simp only; omega)
          clear ih
          generalize arr n f = F at *
          refine Run2.of I 1000 ?_
          simp -implicitDefEqProofs [hlt, hw, hm]
          repeat' (first | refine And.intro ?_ ?_ | intro _)
          all_goals try omega
          simp -implicitDefEqProofs [qc, ec, qa, ea, hcn, han]
          refine dcallK hcall ?_
          simp -implicitDefEqProofs [hr0]
          repeat' (first | refine And.intro ?_ ?_ | intro _)
          all_goals first | (exfalso; omega) | omega | (simpa using go)
        · have hr0 : ¬ r < 0 := fun h => hcmp (hkey.2 (hr.1 h))
          have hac := lt2_tot hcmp (by have := hidx a c (Nat.le_refl _) ham (by omega) (by omega); omega)
          have go := ih (i, c) ⟨hi, by simp only; omega, by simp only; omega, hA, fun q h1 h2 => by simp only at h1; exact hR.high (by omega : m ≤ c) h1 h2 hac⟩ (by simp only; omega)
          clear ih
          generalize arr n f = F at *
          refine Run2.of I 1000 ?_
          simp -implicitDefEqProofs [hlt, hw, hm]
          repeat' (first | refine And.intro ?_ ?_ | intro _)
          all_goals try omega
          simp -implicitDefEqProofs [qc, ec, qa, ea, hcn, han]
          refine dcallK hcall ?_
          simp -implicitDefEqProofs [hr0]
          repeat' (first | refine And.intro ?_ ?_ | intro _)
          all_goals first | (exfalso; omega) | omega | (simpa using go)
      · obtain rfl : i = j := by omega
        clear ih
        have fin : OutS k id n f tl a b (.tup []) ((id, ⟨1, (arr n (rot f a (a + 1) i)).map iv⟩) :: tl) := ⟨_, (Same.rot f (by omega) (by omega : a + 1 ≤ i)).wide (Nat.le_refl _) hj, one_left (by omega) hj (by rw [← h1]; exact hR) (by rw [← h1]; exact hA) hB, rfl, rfl⟩
        refine Run2.of I 1000 ?_
        simp -implicitDefEqProofs [hlt]
        refine Run2.loopE (fun (p : Nat) => [(0, .sl id 1 0 n none), (10, .int .i64 i), (13, .int .i64 p)]) (fun p => (id, ⟨1, (arr n (rot f a (a + 1) (p + 1))).map iv⟩) :: tl) (fun p => i - p) (fun p => a ≤ p ∧ p + 1 ≤ i) a (by simp) (by rw [rot_no (by omega) (Nat.le_refl _) (by omega)]) ⟨Nat.le_refl _, by omega⟩ fun p hp ih => ?_
        by_cases hpl : p + 1 < i
        · have go := ih (p + 1) ⟨by omega, by omega⟩ (by omega)
          rw [← rot_up f hp.1, ← arr_swp] at go
          clear ih fin
          generalize rot f a (a + 1) (p + 1) = S at *
          have hl := arr_len n S
          have q1 : p < (arr n S).length := by omega
          have q2 : p + 1 < (arr n S).length := by omega
          have e1 : (arr n S)[p] = S p := arr_get (by omega) q1
          have e2 : (arr n S)[p + 1] = S (p + 1) := arr_get (by omega) q2
          have q3 : p < n := by omega
          have q4 : p + 1 < n := by omega
          have q5 : (p : Int) + 1 < n := by omega
          have q6 : (p : Int) < i - 1 := by omega
          generalize arr n S = F at *
          refine Run2.of I 1000 ?_
          simp -implicitDefEqProofs [q1, q2, e1, e2, q3, q4, q5, q6]
          repeat' (first | refine And.intro ?_ ?_ | intro _)
          all_goals first | (exfalso; omega) | omega | (simpa [List.map_set] using go)
        · have hpi : p + 1 = i := by omega
          have q6 : ¬ (p : Int) < i - 1 := by omega
          rw [hpi]
          refine Run2.of I 1000 ?_
          simp -implicitDefEqProofs [q6]
          repeat' (first | refine And.intro ?_ ?_ | intro _)
          all_goals first | (exfalso; omega) | omega | (simpa using fin)
    · by_cases h2 : b = m + 1
      · have hma : ¬ (m : Int) - a = 1 := by omega
        have hbm : (b : Int) - m = 1 := by omega
        obtain ⟨qm, em⟩ := get m (by omega)
        have hmn : m < n := by omega
        refine Run2.of I 1000 ?_
        simp -implicitDefEqProofs [hma, hbm]
        repeat' (first | refine And.intro ?_ ?_ | intro _)
        all_goals try omega
        refine Run2.loopE (α := Nat × Nat) (fun p => [(0, .sl id 1 0 n none), (2, .int .i64 m), (4, .fn g caps), (14, .int .i64 p.1), (15, .int .i64 p.2)]) (fun _ => (id, ⟨1, (arr n f).map iv⟩) :: tl) (fun p => p.2 - p.1) (fun p => a ≤ p.1 ∧ p.1 ≤ p.2 ∧ p.2 ≤ m ∧ (∀ q, a ≤ q → q < p.1 → lt2 k (f q) (f m)) ∧ ∀ q, p.2 ≤ q → q < m → lt2 k (f m) (f q)) (a, m) (by simp) rfl ⟨Nat.le_refl _, by simp only; omega, Nat.le_refl _, fun q h1 h2 => by simp only at h2; omega, fun q h1 h2 => by simp only at h1; omega⟩ ?_
        rintro ⟨i, j⟩ ⟨hi, hij, hj, hA, hB⟩ ih
        simp only at hi hij hj hA hB
        by_cases hlt : i < j
        · obtain ⟨hw, hm⟩ := half (i := i) (j := j) (by omega)
          have hm1 : i ≤ (i + j) / 2 := by omega
          have hm2 : (i + j) / 2 < j := by omega
          generalize (i + j) / 2 = c at *
          obtain ⟨qc, ec⟩ := get c (by omega)
          have hcn : c < n := by omega
          obtain ⟨r, hr, hcall⟩ := C.call (f m) (f c) ((id, ⟨1, (arr n f).map iv⟩) :: tl) (hd m hmn) (hd c hcn)
          have hix := hidx c m (by omega) (by omega) (Nat.le_refl _) hmb
          have hkey := lt2_key (k := k) hix
          by_cases hcmp : lt2 k (f m) (f c)
          · have hr0 : r < 0 := hr.2 (hkey.1 hcmp)
            have go := ih (i, c) ⟨hi, by simp only; omega, by simp only; omega, hA, fun q h1 h2 => by simp only at h1; exact hL.high (by omega : a ≤ c) h1 h2 hcmp⟩ (by simp only; omega)
            clear ih
            generalize arr n f = F at *
            refine Run2.of I 1000 ?_
            simp -implicitDefEqProofs [hlt, hw, hm]
            repeat' (first | refine And.intro ?_ ?_ | intro _)
            all_goals try omega
            simp -implicitDefEqProofs [qc, ec, qm, em, hcn, hmn]
            refine dcallK hcall ?_
            simp -implicitDefEqProofs [hr0]
            repeat' (first | refine And.intro ?_ ?_ | intro _)
            all_goals first | (exfalso; omega) | omega | (simpa using go)
          · have hr0 : ¬ r < 0 := fun h => hcmp (hkey.2 (hr.1 h))
            have hac := lt2_tot hcmp (by omega)
            have go := ih (c + 1, j) ⟨by simp only; omega, by simp only; omega, hj, fun q h1 h2 => by simp only at h2; exact hL.low h1 (by omega : q ≤ c) (by omega) hac, hB⟩ (by simp only; omega)
            clear ih
            generalize arr n f = F at *
            refine Run2.of I 1000 ?_
            simp -implicitDefEqProofs [hlt, hw, hm]
            repeat' (first | refine And.intro ?_ ?_ | intro _)
            all_goals try omega
            simp -implicitDefEqProofs [qc, ec, qm, em, hcn, hmn]
            refine dcallK hcall ?_
            simp -implicitDefEqProofs [hr0]
            repeat' (first | refine And.intro ?_ ?_ | intro _)
            all_goals first | (exfalso; omega) | omega | (simpa using go)
        · obtain rfl : i = j := by omega
          clear ih
          have fin : OutS k id n f tl a b (.tup []) ((id, ⟨1, (arr n (rot f i m (m + 1))).map iv⟩) :: tl) := ⟨_, (Same.rot f hj (by omega : m ≤ m + 1)).wide hi (by omega), by rw [h2]; exact one_right hi hj hL hA hB, rfl, rfl⟩
          refine Run2.of I 1000 ?_
          simp -implicitDefEqProofs [hlt]
          refine Run2.loopE (fun (p : Nat) => [(0, .sl id 1 0 n none), (14, .int .i64 i), (17, .int .i64 p)]) (fun p => (id, ⟨1, (arr n (rot f p m (m + 1))).map iv⟩) :: tl) (fun p => p) (fun p => i ≤ p ∧ p ≤ m) m (by simp) (by rw [rot_no (Nat.le_refl _) (by omega) (by omega)]) ⟨hj, Nat.le_refl _⟩ fun p hp ih => ?_
          by_cases hpl : i < p
          · obtain ⟨p, rfl⟩ : ∃ q, p = q + 1 := ⟨p - 1, by omega⟩
            have go := ih p ⟨by omega, by omega⟩ (by omega)
            rw [← rot_dn f (by omega : p + 1 ≤ m), ← arr_swp] at go
            clear ih fin
            generalize rot f (p + 1) m (m + 1) = S at *
            have hl := arr_len n S
            have q1 : p < (arr n S).length := by omega
            have q2 : p + 1 < (arr n S).length := by omega
            have e1 : (arr n S)[p] = S p := arr_get (by omega) q1
            have e2 : (arr n S)[p + 1] = S (p + 1) := arr_get (by omega) q2
            have q3 : p < n := by omega
            have q4 : p + 1 < n := by omega
            have q5 : (p : Int) + 1 < n := by omega
            have q6 : (i : Int) < p + 1 := by omega
            generalize arr n S = F at *
            refine Run2.of I 1000 ?_
            simp -implicitDefEqProofs [q1, q2, e1, e2, q3, q4, q5, q6]
            repeat' (first | refine And.intro ?_ ?_ | intro _)
            all_goals first | (exfalso; omega) | omega | (simpa [List.map_set] using go)
          · have hpi : p = i := by omega
            rw [hpi]
            refine Run2.of I 1000 ?_
            simp -implicitDefEqProofs
            repeat' (first | refine And.intro ?_ ?_ | intro _)
            all_goals first | (exfalso; omega) | omega | (simpa using fin)
      · have hma : ¬ (m : Int) - a = 1 := by omega
        have hbm : ¬ (b : Int) - m = 1 := by omega
        obtain ⟨hw0, hm0⟩ := half (i := a) (j := b) (by omega)
        have hmid1 : a < (a + b) / 2 := by omega
        have hmid2 : (a + b) / 2 < b := by omega
        have hmid3 : 2 * ((a + b) / 2) ≤ a + b ∧ a + b ≤ 2 * ((a + b) / 2) + 1 := by omega
        generalize (a + b) / 2 = mid at *
        have start : ∀ (lo hi : Nat), (lo = mid + m - b ∧ hi = mid ∧ mid < m ∨ lo = a ∧ hi = m ∧ m ≤ mid) → Run2 (k165_C noOrc) [.code k165_94, .inLoop k165_94, .inBlock 8, .code k165_112]
            [(0, .sl id 1 0 n none), (1, .int .i64 a), (2, .int .i64 m), (3, .int .i64 b), (4, .fn g caps), (18, .int .i64 mid), (19, .int .i64 ((mid : Int) + m)), (20, .int .i64 lo), (21, .int .i64 hi), (22, .int .i64 ((mid : Int) + m - 1))] ((id, ⟨1, (arr n f).map iv⟩) :: tl) (OutS k id n f tl a b) := by
          intro lo hi hlh
          have hlo : a ≤ lo ∧ lo ≤ hi ∧ hi ≤ m := by omega
          have hin : ∀ c, lo ≤ c → c < hi → m ≤ mid + m - 1 - c ∧ mid + m - 1 - c < b := by intro c h1 h2; omega
          refine Run2.loopE (α := Nat × Nat) (fun p => [(0, .sl id 1 0 n none), (1, .int .i64 a), (2, .int .i64 m), (3, .int .i64 b), (4, .fn g caps), (18, .int .i64 mid), (19, .int .i64 ((mid : Int) + m)), (20, .int .i64 p.1), (21, .int .i64 p.2), (22, .int .i64 ((mid : Int) + m - 1))]) (fun _ => (id, ⟨1, (arr n f).map iv⟩) :: tl) (fun p => p.2 - p.1) (fun p => lo ≤ p.1 ∧ p.1 ≤ p.2 ∧ p.2 ≤ hi ∧ (∀ c, lo ≤ c → c < p.1 → ¬ lt2 k (f (mid + m - 1 - c)) (f c)) ∧ ∀ c, p.2 ≤ c → c < hi → lt2 k (f (mid + m - 1 - c)) (f c)) (lo, hi) (by simp) rfl ⟨Nat.le_refl _, hlo.2.1, Nat.le_refl _, fun q h1 h2 => by simp only at h2; omega, fun q h1 h2 => by simp only at h1; omega⟩ ?_
          rintro ⟨s, r⟩ ⟨hs, hsr, hr, hA, hB⟩ ih
          simp only at hs hsr hr hA hB
          by_cases hlt : s < r
          · obtain ⟨hw, hm⟩ := half (i := s) (j := r) (by omega)
            have hm1 : s ≤ (s + r) / 2 := by omega
            have hm2 : (s + r) / 2 < r := by omega
            generalize (s + r) / 2 = c at *
            obtain ⟨hd1, hd2⟩ := hin c (by omega) (by omega)
            have t1 : (mid : Int) + m - 1 - c = (mid + m - 1 - c : Nat) := by omega
            have t2 : ((mid : Int) + m).toNat - 1 - c = mid + m - 1 - c := by omega
            obtain ⟨qc, ec⟩ := get c (by omega)
            obtain ⟨qd, ed⟩ := get (mid + m - 1 - c) (by omega)
            have hcn : c < n := by omega
            have hdn : mid + m - 1 - c < n := by omega
            obtain ⟨z, hz, hcall⟩ := C.call (f (mid + m - 1 - c)) (f c) ((id, ⟨1, (arr n f).map iv⟩) :: tl) (hd _ hdn) (hd c hcn)
            have hix := hidx c (mid + m - 1 - c) (by omega) (by omega) hd1 hd2
            have hkey := lt2_key (k := k) hix
            by_cases hcmp : lt2 k (f (mid + m - 1 - c)) (f c)
            · have hz0 : z < 0 := hz.2 (hkey.1 hcmp)
              have go := ih (s, c) ⟨hs, hm1, by simp only; omega, hA, fun q h1 h2 => by
                simp only at h1
                exact hR.low (by omega) (by omega : mid + m - 1 - q ≤ mid + m - 1 - c) hd2 (hL.high (by omega : a ≤ c) h1 (by omega) hcmp)⟩ (by simp only; omega)
              clear ih
              generalize mid + m - 1 - c = d at *
              generalize arr n f = F at *
              refine Run2.of I 1000 ?_
              simp -implicitDefEqProofs [hlt, hw, hm]
              repeat' (first | refine And.intro ?_ ?_ | intro _)
              all_goals try omega
              simp -implicitDefEqProofs [qc, ec, qd, ed, hcn, hdn, t1, t2]
              repeat' (first | refine And.intro ?_ ?_ | intro _)
              all_goals try omega
              refine dcallK hcall ?_
              simp -implicitDefEqProofs [hz0]
              repeat' (first | refine And.intro ?_ ?_ | intro _)
              all_goals first | (exfalso; omega) | omega | (simpa using go)
            · have hz0 : ¬ z < 0 := fun h => hcmp (hkey.2 (hz.1 h))
              have go := ih (c + 1, r) ⟨by simp only; omega, by simp only; omega, hr, fun q h1 h2 hq => by
                simp only at h2
                obtain ⟨hq1, hq2⟩ := hin q h1 (by omega)
                exact hcmp (hR.low (by omega) (by omega : mid + m - 1 - c ≤ mid + m - 1 - q) hq2 (hL.high (by omega : a ≤ q) (by omega : q ≤ c) (by omega) hq)), hB⟩ (by simp only; omega)
              clear ih
              generalize mid + m - 1 - c = d at *
              generalize arr n f = F at *
              refine Run2.of I 1000 ?_
              simp -implicitDefEqProofs [hlt, hw, hm]
              repeat' (first | refine And.intro ?_ ?_ | intro _)
              all_goals try omega
              simp -implicitDefEqProofs [qc, ec, qd, ed, hcn, hdn, t1, t2]
              repeat' (first | refine And.intro ?_ ?_ | intro _)
              all_goals try omega
              refine dcallK hcall ?_
              simp -implicitDefEqProofs [hz0]
              repeat' (first | refine And.intro ?_ ?_ | intro _)
              all_goals first | (exfalso; omega) | omega | (simpa using go)
          · obtain rfl : s = r := by omega
            clear ih
            obtain ⟨e, he⟩ : ∃ e, e = mid + m - s := ⟨_, rfl⟩
            have he1 : m ≤ e := by omega
            have he2 : e ≤ b := by omega
            have hs1 : a ≤ s := by omega
            have hs2 : s ≤ m := by omega
            have hmid : s + (e - m) = mid := by omega
            obtain ⟨G1, G2, G3, G4, G5⟩ := halves hs1 hs2 he1 he2 hL hR (fun h1 h2 => by
                have := hA (s - 1) (by omega) (by omega)
                rw [show mid + m - 1 - (s - 1) = e by omega] at this
                exact lt2_tot this (by have := hidx (s - 1) e (by omega) (by omega) he1 h2; omega)) (fun h1 h2 => by
                have := hB s (by omega) (by omega)
                rwa [show mid + m - 1 - s = e - 1 by omega] at this)
            rw [hmid] at G2 G3 G5
            have Gs := Same.rot f hs2 he1
            have hdg := Gs.dm (by omega : e ≤ n) hd
            have hcr := fun h1 h2 => rot_s (id := id) (n := n) (f := f) (tl := tl) (c := .fn g caps) hn s m e h1 h2 (by omega)
            have hrn := fun h => rot_no (f := f) hs2 he1 h
            have gA : ∀ p, a ≤ p → p < s → rot f s m e p = f p := fun p h1 h2 => rotC hs2 he1 (.inl h2)
            have gB : ∀ p, s ≤ p → p < mid → rot f s m e p = f (p - s + m) := fun p h1 h2 => rotA h1 (by omega)
            have gC : ∀ p, mid ≤ p → p < e → rot f s m e p = f (p - (e - m)) := fun p h1 h2 => rotB (by omega) h2
            have gD : ∀ p, e ≤ p → rot f s m e p = f p := fun p h1 => rotC hs2 he1 (.inr h1)
            generalize hG : rot f s m e = G at *
            have hc1 : a < s → s < mid → ACalls Try.prog 165 [.sl id 1 0 n none, .int .i64 a, .int .i64 s, .int .i64 mid, .fn g caps] ((id, ⟨1, (arr n G).map iv⟩) :: tl) (OutS k id n G tl a mid) := fun h1 h2 => IH G a s mid (by omega) h1 h2 (by omega) hdg G1 G2 fun p q x1 x2 x3 x4 => by
              rw [gA p x1 x2, gB q x3 x4]; exact hidx _ _ x1 (by omega) (by omega) (by omega)
            have hc2 : ∀ g1, Same G g1 a mid → mid < e → e < b → ACalls Try.prog 165 [.sl id 1 0 n none, .int .i64 mid, .int .i64 e, .int .i64 b, .fn g caps] ((id, ⟨1, (arr n g1).map iv⟩) :: tl) (OutS k id n g1 tl mid b) := fun g1 hg h1 h2 => IH g1 mid e b (by omega) h1 h2 hbn (hg.dm (by omega) hdg) (G3.cong fun p x1 x2 => hg.1 p (by omega)) (G4.cong fun p x1 x2 => hg.1 p (by omega)) fun p q x1 x2 x3 x4 => by
              rw [hg.1 p (by omega), hg.1 q (by omega), gC p x1 x2, gD q x3]; exact hidx _ _ (by omega) (by omega) (by omega) x4
            have fin : ∀ g1 g2, Same G g1 a mid → Srt2 k g1 a mid → Same g1 g2 mid b → Srt2 k g2 mid b → OutS k id n f tl a b (.tup []) ((id, ⟨1, (arr n g2).map iv⟩) :: tl) := fun g1 g2 s1 o1 s2 o2 => ⟨g2, ((Gs.wide hs1 he2).trans (s1.wide (Nat.le_refl _) (by omega))).trans (s2.wide (by omega) (Nat.le_refl _)), (o1.cong fun p x1 x2 => s2.1 p (by omega)).join o2 fun p q x1 x2 x3 x4 => by
              obtain ⟨p', y1, y2, ep⟩ := s1.2.1 p x1 x2
              obtain ⟨q', z1, z2, eq⟩ := s2.2.1 q x3 x4
              rw [s2.1 p (by omega), ep, eq, s1.1 q' (by omega)]
              exact G5 p' q' y1 y2 z1 z2, rfl, rfl⟩
            have no1 : ¬ (a < s ∧ s < mid) → Srt2 k G a mid := fun h => by
              by_cases h0 : s = a
              · rw [← h0]; exact G2
              · rw [show mid = s by omega]; exact G1
            have no2 : ∀ g1, Same G g1 a mid → ¬ (mid < e ∧ e < b) → Srt2 k g1 mid b := fun g1 hg h => by
              by_cases h0 : e = b
              · rw [← h0]; exact G3.cong fun p x1 x2 => hg.1 p (by omega)
              · rw [show mid = e by omega]; exact G4.cong fun p x1 x2 => hg.1 p (by omega)
            clear hA hB hlo hin IH G1 G2 G3 G4 G5 gA gB gC gD Gs hdg hidx hL hR get
            have te : (mid : Int) + m - s = e := by omega
            have hhi : hi ≤ 1048576 := by omega
            clear hlh
            have cR : (s < m ∧ m < e) ∨ (¬ s < m) ∨ (s < m ∧ ¬ m < e) := by omega
            have cA : (a < s ∧ s < mid) ∨ (¬ a < s) ∨ (a < s ∧ ¬ s < mid) := by omega
            have cB : (mid < e ∧ e < b) ∨ (¬ mid < e) ∨ (mid < e ∧ ¬ e < b) := by omega
            rcases cR with ⟨x1, x2⟩ | x1 | ⟨x1, x2⟩
            · have hcr := hcr x1 x2
              rcases cA with ⟨y1, y2⟩ | y1 | ⟨y1, y2⟩
              · rcases cB with ⟨z1, z2⟩ | z1 | ⟨z1, z2⟩
                · refine Run2.of I 1000 ?_
                  simp -implicitDefEqProofs [te, x1, x2]
                  refine ⟨by omega, hcr.mono ?_⟩
                  rintro v h' ⟨rfl, rfl⟩
                  refine gK.go ?_
                  simp -implicitDefEqProofs [y1, y2, z1, z2]
                  refine (hc1 y1 y2).mono ?_
                  rintro v h' ⟨g1, s1, o1, rfl, rfl⟩
                  refine gK.go ?_
                  simp -implicitDefEqProofs [z1, z2]
                  refine (hc2 g1 s1 z1 z2).mono ?_
                  rintro v h' ⟨g2, s2, o2, rfl, rfl⟩
                  refine gK.go ?_
                  simp -implicitDefEqProofs
                  exact fin g1 g2 s1 o1 s2 o2
                · refine Run2.of I 1000 ?_
                  simp -implicitDefEqProofs [te, x1, x2]
                  refine ⟨by omega, hcr.mono ?_⟩
                  rintro v h' ⟨rfl, rfl⟩
                  refine gK.go ?_
                  simp -implicitDefEqProofs [y1, y2, z1]
                  refine (hc1 y1 y2).mono ?_
                  rintro v h' ⟨g1, s1, o1, rfl, rfl⟩
                  refine gK.go ?_
                  simp -implicitDefEqProofs [z1]
                  exact fin g1 g1 s1 o1 (Same.refl ..) (no2 g1 s1 (by omega))
                · refine Run2.of I 1000 ?_
                  simp -implicitDefEqProofs [te, x1, x2]
                  refine ⟨by omega, hcr.mono ?_⟩
                  rintro v h' ⟨rfl, rfl⟩
                  refine gK.go ?_
                  simp -implicitDefEqProofs [y1, y2, z1, z2]
                  refine (hc1 y1 y2).mono ?_
                  rintro v h' ⟨g1, s1, o1, rfl, rfl⟩
                  refine gK.go ?_
                  simp -implicitDefEqProofs [z1, z2]
                  exact fin g1 g1 s1 o1 (Same.refl ..) (no2 g1 s1 (by omega))
              · rcases cB with ⟨z1, z2⟩ | z1 | ⟨z1, z2⟩
                · refine Run2.of I 1000 ?_
                  simp -implicitDefEqProofs [te, x1, x2]
                  refine ⟨by omega, hcr.mono ?_⟩
                  rintro v h' ⟨rfl, rfl⟩
                  refine gK.go ?_
                  simp -implicitDefEqProofs [y1, z1, z2]
                  refine (hc2 G (Same.refl ..) z1 z2).mono ?_
                  rintro v h' ⟨g2, s2, o2, rfl, rfl⟩
                  refine gK.go ?_
                  simp -implicitDefEqProofs
                  exact fin G g2 (Same.refl ..) (no1 (by omega)) s2 o2
                · refine Run2.of I 1000 ?_
                  simp -implicitDefEqProofs [te, x1, x2]
                  refine ⟨by omega, hcr.mono ?_⟩
                  rintro v h' ⟨rfl, rfl⟩
                  refine gK.go ?_
                  simp -implicitDefEqProofs [y1, z1]
                  exact fin G G (Same.refl ..) (no1 (by omega)) (Same.refl ..) (no2 G (Same.refl ..) (by omega))
                · refine Run2.of I 1000 ?_
                  simp -implicitDefEqProofs [te, x1, x2]
                  refine ⟨by omega, hcr.mono ?_⟩
                  rintro v h' ⟨rfl, rfl⟩
                  refine gK.go ?_
                  simp -implicitDefEqProofs [y1, z1, z2]
                  exact fin G G (Same.refl ..) (no1 (by omega)) (Same.refl ..) (no2 G (Same.refl ..) (by omega))
              · rcases cB with ⟨z1, z2⟩ | z1 | ⟨z1, z2⟩
                · refine Run2.of I 1000 ?_
                  simp -implicitDefEqProofs [te, x1, x2]
                  refine ⟨by omega, hcr.mono ?_⟩
                  rintro v h' ⟨rfl, rfl⟩
                  refine gK.go ?_
                  simp -implicitDefEqProofs [y1, y2, z1, z2]
                  refine (hc2 G (Same.refl ..) z1 z2).mono ?_
                  rintro v h' ⟨g2, s2, o2, rfl, rfl⟩
                  refine gK.go ?_
                  simp -implicitDefEqProofs
                  exact fin G g2 (Same.refl ..) (no1 (by omega)) s2 o2
                · refine Run2.of I 1000 ?_
                  simp -implicitDefEqProofs [te, x1, x2]
                  refine ⟨by omega, hcr.mono ?_⟩
                  rintro v h' ⟨rfl, rfl⟩
                  refine gK.go ?_
                  simp -implicitDefEqProofs [y1, y2, z1]
                  exact fin G G (Same.refl ..) (no1 (by omega)) (Same.refl ..) (no2 G (Same.refl ..) (by omega))
                · refine Run2.of I 1000 ?_
                  simp -implicitDefEqProofs [te, x1, x2]
                  refine ⟨by omega, hcr.mono ?_⟩
                  rintro v h' ⟨rfl, rfl⟩
                  refine gK.go ?_
                  simp -implicitDefEqProofs [y1, y2, z1, z2]
                  exact fin G G (Same.refl ..) (no1 (by omega)) (Same.refl ..) (no2 G (Same.refl ..) (by omega))
            · obtain rfl := hrn (by omega)
              rcases cA with ⟨y1, y2⟩ | y1 | ⟨y1, y2⟩
              · rcases cB with ⟨z1, z2⟩ | z1 | ⟨z1, z2⟩
                · refine Run2.of I 1000 ?_
                  simp -implicitDefEqProofs [te, x1, y1, y2, z1, z2]
                  refine ⟨by omega, ?_⟩
                  refine (hc1 y1 y2).mono ?_
                  rintro v h' ⟨g1, s1, o1, rfl, rfl⟩
                  refine gK.go ?_
                  simp -implicitDefEqProofs [z1, z2]
                  refine (hc2 g1 s1 z1 z2).mono ?_
                  rintro v h' ⟨g2, s2, o2, rfl, rfl⟩
                  refine gK.go ?_
                  simp -implicitDefEqProofs
                  exact fin g1 g2 s1 o1 s2 o2
                · refine Run2.of I 1000 ?_
                  simp -implicitDefEqProofs [te, x1, y1, y2, z1]
                  refine ⟨by omega, ?_⟩
                  refine (hc1 y1 y2).mono ?_
                  rintro v h' ⟨g1, s1, o1, rfl, rfl⟩
                  refine gK.go ?_
                  simp -implicitDefEqProofs [z1]
                  exact fin g1 g1 s1 o1 (Same.refl ..) (no2 g1 s1 (by omega))
                · refine Run2.of I 1000 ?_
                  simp -implicitDefEqProofs [te, x1, y1, y2, z1, z2]
                  refine ⟨by omega, ?_⟩
                  refine (hc1 y1 y2).mono ?_
                  rintro v h' ⟨g1, s1, o1, rfl, rfl⟩
                  refine gK.go ?_
                  simp -implicitDefEqProofs [z1, z2]
                  exact fin g1 g1 s1 o1 (Same.refl ..) (no2 g1 s1 (by omega))
              · rcases cB with ⟨z1, z2⟩ | z1 | ⟨z1, z2⟩
                · refine Run2.of I 1000 ?_
                  simp -implicitDefEqProofs [te, x1, y1, z1, z2]
                  refine ⟨by omega, ?_⟩
                  refine (hc2 _ (Same.refl ..) z1 z2).mono ?_
                  rintro v h' ⟨g2, s2, o2, rfl, rfl⟩
                  refine gK.go ?_
                  simp -implicitDefEqProofs
                  exact fin _ g2 (Same.refl ..) (no1 (by omega)) s2 o2
                · refine Run2.of I 1000 ?_
                  simp -implicitDefEqProofs [te, x1, y1, z1]
                  refine ⟨by omega, ?_⟩
                  exact fin _ _ (Same.refl ..) (no1 (by omega)) (Same.refl ..) (no2 _ (Same.refl ..) (by omega))
                · refine Run2.of I 1000 ?_
                  simp -implicitDefEqProofs [te, x1, y1, z1, z2]
                  refine ⟨by omega, ?_⟩
                  exact fin _ _ (Same.refl ..) (no1 (by omega)) (Same.refl ..) (no2 _ (Same.refl ..) (by omega))
              · rcases cB with ⟨z1, z2⟩ | z1 | ⟨z1, z2⟩
                · refine Run2.of I 1000 ?_
                  simp -implicitDefEqProofs [te, x1, y1, y2, z1, z2]
                  refine ⟨by omega, ?_⟩
                  refine (hc2 _ (Same.refl ..) z1 z2).mono ?_
                  rintro v h' ⟨g2, s2, o2, rfl, rfl⟩
                  refine gK.go ?_
                  simp -implicitDefEqProofs
                  exact fin _ g2 (Same.refl ..) (no1 (by omega)) s2 o2
                · refine Run2.of I 1000 ?_
                  simp -implicitDefEqProofs [te, x1, y1, y2, z1]
                  refine ⟨by omega, ?_⟩
                  exact fin _ _ (Same.refl ..) (no1 (by omega)) (Same.refl ..) (no2 _ (Same.refl ..) (by omega))
                · refine Run2.of I 1000 ?_
                  simp -implicitDefEqProofs [te, x1, y1, y2, z1, z2]
                  refine ⟨by omega, ?_⟩
                  exact fin _ _ (Same.refl ..) (no1 (by omega)) (Same.refl ..) (no2 _ (Same.refl ..) (by omega))
            · obtain rfl := hrn (by omega)
              rcases cA with ⟨y1, y2⟩ | y1 | ⟨y1, y2⟩
              · rcases cB with ⟨z1, z2⟩ | z1 | ⟨z1, z2⟩
                · refine Run2.of I 1000 ?_
                  simp -implicitDefEqProofs [te, x1, x2, y1, y2, z1, z2]
                  refine ⟨by omega, ?_⟩
                  refine (hc1 y1 y2).mono ?_
                  rintro v h' ⟨g1, s1, o1, rfl, rfl⟩
                  refine gK.go ?_
                  simp -implicitDefEqProofs [z1, z2]
                  refine (hc2 g1 s1 z1 z2).mono ?_
                  rintro v h' ⟨g2, s2, o2, rfl, rfl⟩
                  refine gK.go ?_
                  simp -implicitDefEqProofs
                  exact fin g1 g2 s1 o1 s2 o2
                · refine Run2.of I 1000 ?_
                  simp -implicitDefEqProofs [te, x1, x2, y1, y2, z1]
                  refine ⟨by omega, ?_⟩
                  refine (hc1 y1 y2).mono ?_
                  rintro v h' ⟨g1, s1, o1, rfl, rfl⟩
                  refine gK.go ?_
                  simp -implicitDefEqProofs [z1]
                  exact fin g1 g1 s1 o1 (Same.refl ..) (no2 g1 s1 (by omega))
                · refine Run2.of I 1000 ?_
                  simp -implicitDefEqProofs [te, x1, x2, y1, y2, z1, z2]
                  refine ⟨by omega, ?_⟩
                  refine (hc1 y1 y2).mono ?_
                  rintro v h' ⟨g1, s1, o1, rfl, rfl⟩
                  refine gK.go ?_
                  simp -implicitDefEqProofs [z1, z2]
                  exact fin g1 g1 s1 o1 (Same.refl ..) (no2 g1 s1 (by omega))
              · rcases cB with ⟨z1, z2⟩ | z1 | ⟨z1, z2⟩
                · refine Run2.of I 1000 ?_
                  simp -implicitDefEqProofs [te, x1, x2, y1, z1, z2]
                  refine ⟨by omega, ?_⟩
                  refine (hc2 _ (Same.refl ..) z1 z2).mono ?_
                  rintro v h' ⟨g2, s2, o2, rfl, rfl⟩
                  refine gK.go ?_
                  simp -implicitDefEqProofs
                  exact fin _ g2 (Same.refl ..) (no1 (by omega)) s2 o2
                · refine Run2.of I 1000 ?_
                  simp -implicitDefEqProofs [te, x1, x2, y1, z1]
                  refine ⟨by omega, ?_⟩
                  exact fin _ _ (Same.refl ..) (no1 (by omega)) (Same.refl ..) (no2 _ (Same.refl ..) (by omega))
                · refine Run2.of I 1000 ?_
                  simp -implicitDefEqProofs [te, x1, x2, y1, z1, z2]
                  refine ⟨by omega, ?_⟩
                  exact fin _ _ (Same.refl ..) (no1 (by omega)) (Same.refl ..) (no2 _ (Same.refl ..) (by omega))
              · rcases cB with ⟨z1, z2⟩ | z1 | ⟨z1, z2⟩
                · refine Run2.of I 1000 ?_
                  simp -implicitDefEqProofs [te, x1, x2, y1, y2, z1, z2]
                  refine ⟨by omega, ?_⟩
                  refine (hc2 _ (Same.refl ..) z1 z2).mono ?_
                  rintro v h' ⟨g2, s2, o2, rfl, rfl⟩
                  refine gK.go ?_
                  simp -implicitDefEqProofs
                  exact fin _ g2 (Same.refl ..) (no1 (by omega)) s2 o2
                · refine Run2.of I 1000 ?_
                  simp -implicitDefEqProofs [te, x1, x2, y1, y2, z1]
                  refine ⟨by omega, ?_⟩
                  exact fin _ _ (Same.refl ..) (no1 (by omega)) (Same.refl ..) (no2 _ (Same.refl ..) (by omega))
                · refine Run2.of I 1000 ?_
                  simp -implicitDefEqProofs [te, x1, x2, y1, y2, z1, z2]
                  refine ⟨by omega, ?_⟩
                  exact fin _ _ (Same.refl ..) (no1 (by omega)) (Same.refl ..) (no2 _ (Same.refl ..) (by omega))
        by_cases hmm : mid < m
        · have := start (mid + m - b) mid (.inl ⟨rfl, rfl, hmm⟩)
          have t1 : (mid : Int) + m - b = (mid + m - b : Nat) := by omega
          refine Run2.of I 1000 ?_
          simp -implicitDefEqProofs [hma, hbm, hw0, hm0, hmm]
          repeat' (first | refine And.intro ?_ ?_ | intro _)
          all_goals try omega
          rw [t1]
          exact this
        · have := start a m (.inr ⟨rfl, rfl, by omega⟩)
          refine Run2.of I 1000 ?_
          simp -implicitDefEqProofs [hma, hbm, hw0, hm0, hmm]
          repeat' (first | refine And.intro ?_ ?_ | intro _)
          all_goals try omega
          all_goals exact this
end Go.AG
