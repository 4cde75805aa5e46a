/- Rounds of a graph: what the reference asks of them, and what ValidRounds gives. No statement is made here. -/
import Derived.Test.YtlncpnefkpfojaaCtR
namespace Go.AG
open Go.Proofs Go.Proofs.Ytlncpnefkpfojaa
set_option linter.unusedSimpArgs false
set_option linter.unusedVariables false
set_option maxRecDepth 4000
theorem flatten_pre (rs : List (List Int)) {i : Nat} (hi : i < rs.length) (j : Nat) : ∃ z, rs.flatten = ((rs.take i).flatten ++ rs[i].take j) ++ z := by
  refine ⟨rs[i].drop j ++ (rs.drop (i + 1)).flatten, ?_⟩
  conv => lhs; rw [← List.take_append_drop i rs, List.drop_eq_getElem_cons hi]
  rw [List.flatten_append, List.flatten_cons]
  conv => lhs; rw [← List.take_append_drop j rs[i]]
  simp [List.append_assoc]
  rw [← List.append_assoc, List.take_append_drop]
abbrev c_spec_l24Ok_o0 : List AJ := [.o ⟨(some 4), none, false, .mv (.c (.bool false)), (some [0, 1])⟩]
def c_spec_l24Ok_0 : ACode := .region c_spec_l24Ok_o0
abbrev c_spec_l24Ok_o1 : List AJ := [.e 8 1 none, .o ⟨(some 5), none, false, .mv (.t 8), (some [0, 1, 5])⟩]
def c_spec_l24Ok_1 : ACode := .region c_spec_l24Ok_o1
abbrev c_spec_l24Ok_o2 : List AJ := [.o ⟨(some 6), none, false, .mv (.c (.int .i64 0)), (some [0, 1, 5, 6])⟩]
def c_spec_l24Ok_2 : ACode := .region c_spec_l24Ok_o2
abbrev c_spec_l24Ok_o3 : List AJ := [.o ⟨(some 9), none, false, .mv (.t 6), none⟩, .o ⟨(some 10), none, false, .mv (.t 1), none⟩, .o ⟨(some 11), none, false, .len (.t 10), none⟩, .o ⟨(some 12), none, false, .bin .lss (.t 9) (.t 11), (some [0, 1, 5, 6, 12])⟩]
def c_spec_l24Ok_3 : ACode := .region c_spec_l24Ok_o3
def c_spec_l24Ok_4 : ACode := .cond (.t 12) .skip (.exit 0)
def c_spec_l24Ok_5 : ACode := .seq c_spec_l24Ok_3 c_spec_l24Ok_4
abbrev c_spec_l24Ok_o4 : List AI := [⟨(some 15), none, false, .mv (.t 1), none⟩, ⟨(some 16), none, false, .mv (.t 6), none⟩, ⟨(some 17), none, false, .idxA 1 (.t 15) (.t 16), none⟩, ⟨(some 18), none, false, .load 1 false (.t 17), none⟩, ⟨(some 19), none, false, .len (.t 18), none⟩, ⟨(some 20), none, false, .bin .eql (.t 19) (.c (.int .i64 0)), none⟩, ⟨(some 21), none, false, .mv (.t 20), none⟩, ⟨(some 22), (some (21, false)), false, .mv (.t 1), none⟩, ⟨(some 23), (some (21, false)), false, .mv (.t 6), none⟩, ⟨(some 24), (some (21, false)), false, .idxA 1 (.t 22) (.t 23), none⟩, ⟨(some 25), (some (21, false)), false, .load 1 false (.t 24), (some [0, 1, 5, 6, 21, 25])⟩, ⟨(some 26), (some (21, false)), false, .mv (.t 0), none⟩, ⟨(some 27), (some (21, false)), false, .nilchk (.t 26), none⟩, ⟨(some 28), (some (21, false)), false, .fieldA 1 (.t 27), none⟩, ⟨(some 29), (some (21, false)), false, .load 1 false (.t 28), none⟩, ⟨(some 30), (some (21, false)), false, .len (.t 29), none⟩, ⟨(some 31), (some (21, false)), true, .bin .sub (.t 30) (.c (.int .i64 1)), none⟩, ⟨(some 32), (some (21, false)), false, .call 112 [(.t 25), (.c (.int .i64 0)), (.t 31)], (some [0, 1, 5, 6, 21, 32])⟩, ⟨(some 33), (some (21, false)), false, .un .not (.t 32), none⟩, ⟨(some 34), none, false, .pick (.t 21) (.c (.bool true)) (.t 33), (some [0, 1, 5, 6, 34])⟩]
def c_spec_l24Ok_6 : ACode := .draw c_spec_l24Ok_o4 [] rfl
abbrev c_spec_l24Ok_o5 : List AJ := [.o ⟨(some 4), none, false, .mv (.c (.bool false)), (some [4])⟩]
def c_spec_l24Ok_7 : ACode := .region c_spec_l24Ok_o5
def c_spec_l24Ok_8 : ACode := .seq c_spec_l24Ok_7 .ret
def c_spec_l24Ok_9 : ACode := .cond (.t 34) c_spec_l24Ok_8 .skip
def c_spec_l24Ok_10 : ACode := .seq c_spec_l24Ok_6 c_spec_l24Ok_9
abbrev c_spec_l24Ok_o6 : List AJ := [.o ⟨(some 7), none, false, .mv (.c (.int .i64 0)), (some [0, 1, 5, 6, 7])⟩]
def c_spec_l24Ok_11 : ACode := .region c_spec_l24Ok_o6
abbrev c_spec_l24Ok_o7 : List AJ := [.o ⟨(some 35), none, false, .mv (.t 7), none⟩, .o ⟨(some 36), none, false, .mv (.t 1), none⟩, .o ⟨(some 37), none, false, .mv (.t 6), none⟩, .o ⟨(some 38), none, false, .idxA 1 (.t 36) (.t 37), none⟩, .o ⟨(some 39), none, false, .load 1 false (.t 38), none⟩, .o ⟨(some 40), none, false, .len (.t 39), none⟩, .o ⟨(some 41), none, false, .bin .lss (.t 35) (.t 40), (some [0, 1, 5, 6, 7, 41])⟩]
def c_spec_l24Ok_12 : ACode := .region c_spec_l24Ok_o7
def c_spec_l24Ok_13 : ACode := .cond (.t 41) .skip (.exit 2)
def c_spec_l24Ok_14 : ACode := .seq c_spec_l24Ok_12 c_spec_l24Ok_13
abbrev c_spec_l24Ok_o8 : List AI := [⟨(some 44), none, false, .mv (.t 5), none⟩, ⟨(some 45), none, false, .mv (.t 1), none⟩, ⟨(some 46), none, false, .mv (.t 6), none⟩, ⟨(some 47), none, false, .idxA 1 (.t 45) (.t 46), none⟩, ⟨(some 48), none, false, .load 1 false (.t 47), none⟩, ⟨(some 49), none, false, .mv (.t 7), none⟩, ⟨(some 50), none, false, .idxA 1 (.t 48) (.t 49), none⟩, ⟨(some 51), none, false, .load 1 false (.t 50), none⟩, ⟨(some 52), none, false, .call 83 [(.t 44), (.t 51)], none⟩, ⟨(some 53), none, false, .mv (.t 52), none⟩, ⟨(some 54), (some (53, false)), false, .mv (.t 0), none⟩, ⟨(some 55), (some (53, false)), false, .mv (.t 1), (some [0, 1, 5, 6, 7, 53, 54, 55])⟩, ⟨(some 56), (some (53, false)), false, .mv (.t 6), none⟩, ⟨(some 57), (some (53, false)), false, .idxA 1 (.t 55) (.t 56), none⟩, ⟨(some 58), (some (53, false)), false, .load 1 false (.t 57), none⟩, ⟨(some 59), (some (53, false)), false, .mv (.t 7), none⟩, ⟨(some 60), (some (53, false)), false, .slice 1 (.t 58) none (some (.t 59)) none, none⟩, ⟨(some 61), (some (53, false)), false, .mv (.t 1), none⟩, ⟨(some 62), (some (53, false)), false, .mv (.t 6), (some [0, 1, 5, 6, 7, 53, 54, 60, 61, 62])⟩, ⟨(some 63), (some (53, false)), false, .idxA 1 (.t 61) (.t 62), none⟩, ⟨(some 64), (some (53, false)), false, .load 1 false (.t 63), none⟩, ⟨(some 65), (some (53, false)), false, .mv (.t 7), none⟩, ⟨(some 66), (some (53, false)), false, .idxA 1 (.t 64) (.t 65), none⟩, ⟨(some 67), (some (53, false)), false, .load 1 false (.t 66), none⟩, ⟨(some 68), (some (53, false)), false, .call 107 [(.t 54), (.t 60), (.t 67)], none⟩, ⟨(some 69), (some (53, false)), false, .un .not (.t 68), (some [0, 1, 5, 6, 7, 53, 69])⟩, ⟨(some 70), none, false, .pick (.t 53) (.c (.bool true)) (.t 69), (some [0, 1, 5, 6, 7, 70])⟩]
def c_spec_l24Ok_15 : ACode := .draw c_spec_l24Ok_o8 [] rfl
abbrev c_spec_l24Ok_o9 : List AJ := [.o ⟨(some 4), none, false, .mv (.c (.bool false)), (some [4])⟩]
def c_spec_l24Ok_16 : ACode := .region c_spec_l24Ok_o9
def c_spec_l24Ok_17 : ACode := .seq c_spec_l24Ok_16 .ret
def c_spec_l24Ok_18 : ACode := .cond (.t 70) c_spec_l24Ok_17 .skip
def c_spec_l24Ok_19 : ACode := .seq c_spec_l24Ok_15 c_spec_l24Ok_18
abbrev c_spec_l24Ok_o10 : List AJ := [.o ⟨(some 71), none, false, .mv (.t 5), none⟩, .o ⟨(some 72), none, false, .mv (.t 1), none⟩, .o ⟨(some 73), none, false, .mv (.t 6), none⟩, .o ⟨(some 74), none, false, .idxA 1 (.t 72) (.t 73), none⟩, .o ⟨(some 75), none, false, .load 1 false (.t 74), none⟩, .o ⟨(some 76), none, false, .mv (.t 7), none⟩, .o ⟨(some 77), none, false, .idxA 1 (.t 75) (.t 76), none⟩, .o ⟨(some 78), none, false, .load 1 false (.t 77), none⟩, .o ⟨(some 79), none, false, .bsl false 1 [(.t 78)], none⟩, .o ⟨(some 80), none, false, .append 1 8 (.t 71) (.t 79), none⟩, .o ⟨(some 5), none, false, .mv (.t 80), (some [0, 1, 5, 6, 7])⟩]
def c_spec_l24Ok_20 : ACode := .region c_spec_l24Ok_o10
def c_spec_l24Ok_21 : ACode := .seq c_spec_l24Ok_19 c_spec_l24Ok_20
def c_spec_l24Ok_22 : ACode := .block 3 c_spec_l24Ok_21
abbrev c_spec_l24Ok_o11 : List AJ := [.o ⟨(some 42), none, false, .mv (.t 7), none⟩, .o ⟨(some 43), none, true, .bin .add (.t 42) (.c (.int .i64 1)), none⟩, .o ⟨(some 7), none, false, .mv (.t 43), (some [0, 1, 5, 6, 7])⟩]
def c_spec_l24Ok_23 : ACode := .region c_spec_l24Ok_o11
def c_spec_l24Ok_24 : ACode := .seq c_spec_l24Ok_22 c_spec_l24Ok_23
def c_spec_l24Ok_25 : ACode := .seq c_spec_l24Ok_14 c_spec_l24Ok_24
def c_spec_l24Ok_26 : ACode := .loop c_spec_l24Ok_25
def c_spec_l24Ok_27 : ACode := .block 2 c_spec_l24Ok_26
def c_spec_l24Ok_28 : ACode := .seq c_spec_l24Ok_11 c_spec_l24Ok_27
def c_spec_l24Ok_29 : ACode := .seq c_spec_l24Ok_10 c_spec_l24Ok_28
def c_spec_l24Ok_30 : ACode := .block 1 c_spec_l24Ok_29
abbrev c_spec_l24Ok_o12 : List AJ := [.o ⟨(some 13), none, false, .mv (.t 6), none⟩, .o ⟨(some 14), none, true, .bin .add (.t 13) (.c (.int .i64 1)), none⟩, .o ⟨(some 6), none, false, .mv (.t 14), (some [0, 1, 5, 6])⟩]
def c_spec_l24Ok_31 : ACode := .region c_spec_l24Ok_o12
def c_spec_l24Ok_32 : ACode := .seq c_spec_l24Ok_30 c_spec_l24Ok_31
def c_spec_l24Ok_33 : ACode := .seq c_spec_l24Ok_5 c_spec_l24Ok_32
def c_spec_l24Ok_34 : ACode := .loop c_spec_l24Ok_33
def c_spec_l24Ok_35 : ACode := .block 0 c_spec_l24Ok_34
def c_spec_l24Ok_36 : ACode := .seq c_spec_l24Ok_2 c_spec_l24Ok_35
abbrev c_spec_l24Ok_o13 : List AJ := [.o ⟨(some 81), none, false, .mv (.t 5), none⟩, .o ⟨(some 82), none, false, .len (.t 81), none⟩, .o ⟨(some 83), none, false, .mv (.t 0), none⟩, .o ⟨(some 84), none, false, .nilchk (.t 83), none⟩, .o ⟨(some 85), none, false, .fieldA 1 (.t 84), none⟩, .o ⟨(some 86), none, false, .load 1 false (.t 85), none⟩, .o ⟨(some 87), none, false, .len (.t 86), none⟩, .o ⟨(some 88), none, false, .bin .eql (.t 82) (.t 87), none⟩, .o ⟨(some 4), none, false, .mv (.t 88), (some [4])⟩]
def c_spec_l24Ok_37 : ACode := .region c_spec_l24Ok_o13
def c_spec_l24Ok_38 : ACode := .seq c_spec_l24Ok_37 .ret
def c_spec_l24Ok_39 : ACode := .seq c_spec_l24Ok_36 c_spec_l24Ok_38
def c_spec_l24Ok_40 : ACode := .seq c_spec_l24Ok_1 c_spec_l24Ok_39
def c_spec_l24Ok_41 : ACode := .seq c_spec_l24Ok_0 c_spec_l24Ok_40
section
variable (C : Cx) (n : Nat) (sk : List AItem) (e : Env) (h : Heap) (R : AV → Heap → Prop)
@[simp, simp ↓] theorem c_spec_l24Ok_0_r : vc2 C (n + 1) [] (.code c_spec_l24Ok_0 :: sk) e h R = (vc2 C n c_spec_l24Ok_o0 sk e h R) := nr rfl
@[simp, simp ↓] theorem c_spec_l24Ok_1_r : vc2 C (n + 1) [] (.code c_spec_l24Ok_1 :: sk) e h R = (vc2 C n c_spec_l24Ok_o1 sk e h R) := nr rfl
@[simp, simp ↓] theorem c_spec_l24Ok_2_r : vc2 C (n + 1) [] (.code c_spec_l24Ok_2 :: sk) e h R = (vc2 C n c_spec_l24Ok_o2 sk e h R) := nr rfl
@[simp, simp ↓] theorem c_spec_l24Ok_3_r : vc2 C (n + 1) [] (.code c_spec_l24Ok_3 :: sk) e h R = (vc2 C n c_spec_l24Ok_o3 sk e h R) := nr rfl
@[simp, simp ↓] theorem c_spec_l24Ok_4_r : vc2 C (n + 1) [] (.code c_spec_l24Ok_4 :: sk) e h R = (condK (ev e (.t 12)) (vc2 C n [] (.code .skip :: sk) e h R) (vc2 C n [] (.code (.exit 0) :: sk) e h R)) := nr rfl
@[simp, simp ↓] theorem c_spec_l24Ok_5_r : vc2 C (n + 1) [] (.code c_spec_l24Ok_5 :: sk) e h R = (vc2 C n [] (.code c_spec_l24Ok_3 :: .code c_spec_l24Ok_4 :: sk) e h R) := nr rfl
@[simp, simp ↓] theorem c_spec_l24Ok_6_r : vc2 C (n + 1) [] (.code c_spec_l24Ok_6 :: sk) e h R = (draw2 C h (vK C n [] sk R h) c_spec_l24Ok_o4 e) := nr rfl
@[simp, simp ↓] theorem c_spec_l24Ok_7_r : vc2 C (n + 1) [] (.code c_spec_l24Ok_7 :: sk) e h R = (vc2 C n c_spec_l24Ok_o5 sk e h R) := nr rfl
@[simp, simp ↓] theorem c_spec_l24Ok_8_r : vc2 C (n + 1) [] (.code c_spec_l24Ok_8 :: sk) e h R = (vc2 C n [] (.code c_spec_l24Ok_7 :: .code .ret :: sk) e h R) := nr rfl
@[simp, simp ↓] theorem c_spec_l24Ok_9_r : vc2 C (n + 1) [] (.code c_spec_l24Ok_9 :: sk) e h R = (condK (ev e (.t 34)) (vc2 C n [] (.code c_spec_l24Ok_8 :: sk) e h R) (vc2 C n [] (.code .skip :: sk) e h R)) := nr rfl
@[simp, simp ↓] theorem c_spec_l24Ok_10_r : vc2 C (n + 1) [] (.code c_spec_l24Ok_10 :: sk) e h R = (vc2 C n [] (.code c_spec_l24Ok_6 :: .code c_spec_l24Ok_9 :: sk) e h R) := nr rfl
@[simp, simp ↓] theorem c_spec_l24Ok_11_r : vc2 C (n + 1) [] (.code c_spec_l24Ok_11 :: sk) e h R = (vc2 C n c_spec_l24Ok_o6 sk e h R) := nr rfl
@[simp, simp ↓] theorem c_spec_l24Ok_12_r : vc2 C (n + 1) [] (.code c_spec_l24Ok_12 :: sk) e h R = (vc2 C n c_spec_l24Ok_o7 sk e h R) := nr rfl
@[simp, simp ↓] theorem c_spec_l24Ok_13_r : vc2 C (n + 1) [] (.code c_spec_l24Ok_13 :: sk) e h R = (condK (ev e (.t 41)) (vc2 C n [] (.code .skip :: sk) e h R) (vc2 C n [] (.code (.exit 2) :: sk) e h R)) := nr rfl
@[simp, simp ↓] theorem c_spec_l24Ok_14_r : vc2 C (n + 1) [] (.code c_spec_l24Ok_14 :: sk) e h R = (vc2 C n [] (.code c_spec_l24Ok_12 :: .code c_spec_l24Ok_13 :: sk) e h R) := nr rfl
@[simp, simp ↓] theorem c_spec_l24Ok_15_r : vc2 C (n + 1) [] (.code c_spec_l24Ok_15 :: sk) e h R = (draw2 C h (vK C n [] sk R h) c_spec_l24Ok_o8 e) := nr rfl
@[simp, simp ↓] theorem c_spec_l24Ok_16_r : vc2 C (n + 1) [] (.code c_spec_l24Ok_16 :: sk) e h R = (vc2 C n c_spec_l24Ok_o9 sk e h R) := nr rfl
@[simp, simp ↓] theorem c_spec_l24Ok_17_r : vc2 C (n + 1) [] (.code c_spec_l24Ok_17 :: sk) e h R = (vc2 C n [] (.code c_spec_l24Ok_16 :: .code .ret :: sk) e h R) := nr rfl
@[simp, simp ↓] theorem c_spec_l24Ok_18_r : vc2 C (n + 1) [] (.code c_spec_l24Ok_18 :: sk) e h R = (condK (ev e (.t 70)) (vc2 C n [] (.code c_spec_l24Ok_17 :: sk) e h R) (vc2 C n [] (.code .skip :: sk) e h R)) := nr rfl
@[simp, simp ↓] theorem c_spec_l24Ok_19_r : vc2 C (n + 1) [] (.code c_spec_l24Ok_19 :: sk) e h R = (vc2 C n [] (.code c_spec_l24Ok_15 :: .code c_spec_l24Ok_18 :: sk) e h R) := nr rfl
@[simp, simp ↓] theorem c_spec_l24Ok_20_r : vc2 C (n + 1) [] (.code c_spec_l24Ok_20 :: sk) e h R = (vc2 C n c_spec_l24Ok_o10 sk e h R) := nr rfl
@[simp, simp ↓] theorem c_spec_l24Ok_21_r : vc2 C (n + 1) [] (.code c_spec_l24Ok_21 :: sk) e h R = (vc2 C n [] (.code c_spec_l24Ok_19 :: .code c_spec_l24Ok_20 :: sk) e h R) := nr rfl
@[simp, simp ↓] theorem c_spec_l24Ok_22_r : vc2 C (n + 1) [] (.code c_spec_l24Ok_22 :: sk) e h R = (vc2 C n [] (.code c_spec_l24Ok_21 :: .inBlock 3 :: sk) e h R) := nr rfl
@[simp, simp ↓] theorem c_spec_l24Ok_23_r : vc2 C (n + 1) [] (.code c_spec_l24Ok_23 :: sk) e h R = (vc2 C n c_spec_l24Ok_o11 sk e h R) := nr rfl
@[simp, simp ↓] theorem c_spec_l24Ok_24_r : vc2 C (n + 1) [] (.code c_spec_l24Ok_24 :: sk) e h R = (vc2 C n [] (.code c_spec_l24Ok_22 :: .code c_spec_l24Ok_23 :: sk) e h R) := nr rfl
@[simp, simp ↓] theorem c_spec_l24Ok_25_r : vc2 C (n + 1) [] (.code c_spec_l24Ok_25 :: sk) e h R = (vc2 C n [] (.code c_spec_l24Ok_14 :: .code c_spec_l24Ok_24 :: sk) e h R) := nr rfl
@[simp, simp ↓] theorem c_spec_l24Ok_26_r : vc2 C (n + 1) [] (.code c_spec_l24Ok_26 :: sk) e h R = (Run2 C (.code c_spec_l24Ok_25 :: .inLoop c_spec_l24Ok_25 :: sk) e h R) := nr rfl
@[simp, simp ↓] theorem c_spec_l24Ok_27_r : vc2 C (n + 1) [] (.code c_spec_l24Ok_27 :: sk) e h R = (vc2 C n [] (.code c_spec_l24Ok_26 :: .inBlock 2 :: sk) e h R) := nr rfl
@[simp, simp ↓] theorem c_spec_l24Ok_28_r : vc2 C (n + 1) [] (.code c_spec_l24Ok_28 :: sk) e h R = (vc2 C n [] (.code c_spec_l24Ok_11 :: .code c_spec_l24Ok_27 :: sk) e h R) := nr rfl
@[simp, simp ↓] theorem c_spec_l24Ok_29_r : vc2 C (n + 1) [] (.code c_spec_l24Ok_29 :: sk) e h R = (vc2 C n [] (.code c_spec_l24Ok_10 :: .code c_spec_l24Ok_28 :: sk) e h R) := nr rfl
@[simp, simp ↓] theorem c_spec_l24Ok_30_r : vc2 C (n + 1) [] (.code c_spec_l24Ok_30 :: sk) e h R = (vc2 C n [] (.code c_spec_l24Ok_29 :: .inBlock 1 :: sk) e h R) := nr rfl
@[simp, simp ↓] theorem c_spec_l24Ok_31_r : vc2 C (n + 1) [] (.code c_spec_l24Ok_31 :: sk) e h R = (vc2 C n c_spec_l24Ok_o12 sk e h R) := nr rfl
@[simp, simp ↓] theorem c_spec_l24Ok_32_r : vc2 C (n + 1) [] (.code c_spec_l24Ok_32 :: sk) e h R = (vc2 C n [] (.code c_spec_l24Ok_30 :: .code c_spec_l24Ok_31 :: sk) e h R) := nr rfl
@[simp, simp ↓] theorem c_spec_l24Ok_33_r : vc2 C (n + 1) [] (.code c_spec_l24Ok_33 :: sk) e h R = (vc2 C n [] (.code c_spec_l24Ok_5 :: .code c_spec_l24Ok_32 :: sk) e h R) := nr rfl
@[simp, simp ↓] theorem c_spec_l24Ok_34_r : vc2 C (n + 1) [] (.code c_spec_l24Ok_34 :: sk) e h R = (Run2 C (.code c_spec_l24Ok_33 :: .inLoop c_spec_l24Ok_33 :: sk) e h R) := nr rfl
@[simp, simp ↓] theorem c_spec_l24Ok_35_r : vc2 C (n + 1) [] (.code c_spec_l24Ok_35 :: sk) e h R = (vc2 C n [] (.code c_spec_l24Ok_34 :: .inBlock 0 :: sk) e h R) := nr rfl
@[simp, simp ↓] theorem c_spec_l24Ok_36_r : vc2 C (n + 1) [] (.code c_spec_l24Ok_36 :: sk) e h R = (vc2 C n [] (.code c_spec_l24Ok_2 :: .code c_spec_l24Ok_35 :: sk) e h R) := nr rfl
@[simp, simp ↓] theorem c_spec_l24Ok_37_r : vc2 C (n + 1) [] (.code c_spec_l24Ok_37 :: sk) e h R = (vc2 C n c_spec_l24Ok_o13 sk e h R) := nr rfl
@[simp, simp ↓] theorem c_spec_l24Ok_38_r : vc2 C (n + 1) [] (.code c_spec_l24Ok_38 :: sk) e h R = (vc2 C n [] (.code c_spec_l24Ok_37 :: .code .ret :: sk) e h R) := nr rfl
@[simp, simp ↓] theorem c_spec_l24Ok_39_r : vc2 C (n + 1) [] (.code c_spec_l24Ok_39 :: sk) e h R = (vc2 C n [] (.code c_spec_l24Ok_36 :: .code c_spec_l24Ok_38 :: sk) e h R) := nr rfl
@[simp, simp ↓] theorem c_spec_l24Ok_40_r : vc2 C (n + 1) [] (.code c_spec_l24Ok_40 :: sk) e h R = (vc2 C n [] (.code c_spec_l24Ok_1 :: .code c_spec_l24Ok_39 :: sk) e h R) := nr rfl
@[simp, simp ↓] theorem c_spec_l24Ok_41_r : vc2 C (n + 1) [] (.code c_spec_l24Ok_41 :: sk) e h R = (vc2 C n [] (.code c_spec_l24Ok_0 :: .code c_spec_l24Ok_40 :: sk) e h R) := nr rfl
end
noncomputable def c_spec_l24Ok_C (orc : Orc) : Cx := ⟨Try.prog, [8], 75, 89, [.tmp 4], orc⟩
@[simp] theorem c_spec_l24Ok_C_P (orc : Orc) : (c_spec_l24Ok_C orc).P = Try.prog := nr rfl
@[simp] theorem c_spec_l24Ok_C_o (orc : Orc) : (c_spec_l24Ok_C orc).orc = orc := nr rfl
@[simp] theorem c_spec_l24Ok_C_r (orc : Orc) : (c_spec_l24Ok_C orc).res = [.tmp 4] := nr rfl
theorem c_spec_l24Ok_of {args : List AV} {h : Heap} {R : AV → Heap → Prop} {k : Nat} (ha : args.length = k) {orc : Orc} (hp : Pure Try.prog orc) (hk : Is (c_spec_l24Ok_C orc) Try.f75 → Run2 (c_spec_l24Ok_C orc) [.code c_spec_l24Ok_41] (argEnv 0 args) h (Post R)) (hle : k ≤ 89 := by simp) : ACalls Try.prog 75 args h R :=
  contract2 [8] c_spec_l24Ok_41 [.tmp 4] Try.func75 (by decide +kernel) rfl (by kernel_rfl) (by rw [ha]; exact hle) (by kernel_rfl) hp hk
theorem c_spec_l24Ok_of0 {args : List AV} {h : Heap} {R : AV → Heap → Prop} {k : Nat} (ha : args.length = k) {orc : Orc} (hp : Pure Try.prog orc) (hk : Is (c_spec_l24Ok_C orc) Try.f75 → Run2 (c_spec_l24Ok_C orc) [.code c_spec_l24Ok_41] (argEnv 0 args) h R) (hle : k ≤ 89 := by simp) : ACalls Try.prog 75 args h R :=
  contract20 [8] c_spec_l24Ok_41 [.tmp 4] Try.func75 (by decide +kernel) rfl (by kernel_rfl) (by rw [ha]; exact hle) (by kernel_rfl) hp hk
theorem l24Ok_c (x : Gr) (rs : List (List Int)) (h : Heap) (hl : x.ts.length ≤ 24) (hr : ssTot rs ≤ 1048576) : ACalls Try.prog 75 [.ip [.int .i64 x.n, .snap 3 (x.ts.map T.av)], .snap 1 (rs.map il)] h (fun v h' => v = .bool (decide (x.rsOk rs)) ∧ h' = h) := by
  have hn := (fit_of_tot hr).1
  have htot : sumL rs ≤ 1048576 := by unfold ssTot at hr; omega
  have hE : x.ts.length ≤ 1048576 := by omega
  refine c_spec_l24Ok_of rfl orcR_p fun I => ?_
  refine Run2.of I 1000 ?_
  simp -implicitDefEqProofs
  refine Run2.loopE (α := Nat × AV × Heap) (fun s => [(0, .ip [.int .i64 x.n, .snap 3 (x.ts.map T.av)]), (1, .snap 1 (rs.map il)), (5, s.2.1), (6, .int .i64 (s.1 : Nat))]) (fun s => s.2.2 ++ h) (fun s => rs.length - s.1) (fun s => s.1 ≤ rs.length ∧ Grow 1 s.2.1 ((rs.take s.1).flatten.map iv) s.2.2 ∧ (∀ r ∈ rs.take s.1, x.rOk r) ∧ (rs.take s.1).flatten.Nodup) (0, .emp, []) (by simp) rfl ⟨Nat.zero_le _, by simpa using Grow.emp, by simp, by simp⟩ ?_
  rintro ⟨i, w, hp⟩ ⟨hi, hg, hok, hnd⟩ ih
  simp only at hi hg hok hnd
  have hcell := hg.cell
  by_cases hlt : i < rs.length
  · have hrl := (fit_of_tot hr).2 _ (List.getElem_mem hlt)
    have hsum := sumL_take rs hlt
    have hle := sumL_le rs (i + 1)
    have hfl : (rs.take i).flatten.length = sumL (rs.take i) := sumL_flatten _
    have hbad : ¬ x.rOk rs[i] → ¬ x.rsOk rs := fun h1 h2 => h1 (h2.1 _ (List.getElem_mem hlt))
    have hpre := flatten_pre rs hlt
    have go := fun (h1 : x.rOk rs[i]) (hnd' : ((rs.take i).flatten ++ rs[i]).Nodup) w' hp' (g : Grow 1 w' (((rs.take i).flatten ++ rs[i]).map iv) hp') => ih (i + 1, w', hp') ⟨hlt, by simp only; rw [flatten_succ rs hlt]; exact g, fun r hr => by
      simp only at hr
      rw [List.take_succ_eq_append_getElem hlt, List.mem_append, List.mem_singleton] at hr
      rcases hr with hr | rfl
      · exact hok r hr
      · exact h1, by simp only; rw [flatten_succ rs hlt]; exact hnd'⟩ (by simp; omega)
    clear ih
    generalize hr0 : rs[i] = r at *
    generalize hF : (rs.take i).flatten = F at *
    by_cases hA : r ≠ [] ∧ rising r ∧ allIn r x.ts.length
    · obtain ⟨a1, a2, a3⟩ := hA
      have hall : ∀ a ∈ r, x.inR a := a3
      have a4 : btw r 0 (x.ts.length - 1) := fun a ha => by have := a3 a ha; omega
      have hpos : 0 < x.ts.length := by
        cases r with
        | nil => exact absurd rfl a1
        | cons a r => have := a3 a (List.mem_cons_self ..); omega
      refine Run2.of I 1000 ?_
      simp -implicitDefEqProofs [hlt, hcell, hr0, a1, a2, a4, hrl, hE]
      refine ⟨by omega, ?_⟩
      refine Run2.loopE (α := Nat × AV × Heap) (fun s => [(0, .ip [.int .i64 x.n, .snap 3 (x.ts.map T.av)]), (1, .snap 1 (rs.map il)), (5, s.2.1), (6, .int .i64 i), (7, .int .i64 (s.1 : Nat))]) (fun s => s.2.2 ++ h) (fun s => r.length - s.1) (fun s => s.1 ≤ r.length ∧ Grow 1 s.2.1 ((F ++ r.take s.1).map iv) s.2.2 ∧ (∀ i' (hi' : i' < r.length), i' < s.1 → x.free (r.take i') r[i']) ∧ (F ++ r.take s.1).Nodup) (0, w, hp) (by simp) rfl ⟨Nat.zero_le _, by simpa using hg, fun _ _ h => by simp at h, by simpa using hnd⟩ ?_
      rintro ⟨j, w2, hp2⟩ ⟨hj, hg2, hfr, hnd2⟩ ihj
      simp only at hj hg2 hfr hnd2
      have hcell2 := hg2.cell
      by_cases hlt2 : j < r.length
      · have hR : x.inR r[j] := hall _ (List.getElem_mem hlt2)
        have hT : x.allR (r.take j) := fun a ha => hall a (List.mem_of_mem_take ha)
        have hTl : min j r.length ≤ 1048576 := by omega
        have hmt : (r.map iv).take j = (r.take j).map iv := (List.map_take).symm
        have hts : r.take (j + 1) = r.take j ++ [r[j]] := List.take_succ_eq_append_getElem hlt2
        have o2 := hg2.own
        have hlen2 : (F ++ r.take j).length ≤ 1048576 := by simp; omega
        have has := ACalls.reads (h := hp2 ++ h) hp2 (fun p hp => List.mem_append_left _ hp) (v0 := .bool (decide (r[j] ∈ F ++ r.take j))) (P := Try.prog) (g := 83) (args := [w2, .int .i64 r[j]]) (by
          rw [lend_cons, lend_cons, lend_nil', lend1_cold hp2 (x := .int .i64 r[j]) rfl]
          exact ACalls.wk (.cons o2.lent.wk (.refl _)) (l00Has_s _ _ [] hlen2)) rfl
        have hdrop : ∀ b : Bool, b = decide (x.rsOk rs) → Post (fun v h' => v = .bool (decide (x.rsOk rs)) ∧ h' = h) (.bool b) (hp2 ++ h) := fun b hb => hg2.dropped (.base ⟨by rw [hb], rfl⟩)
        by_cases hm : r[j] ∈ F ++ r.take j
        · have hb : ¬ x.rsOk rs := fun h2 => by
            obtain ⟨z, hz⟩ := hpre (j + 1)
            have h3 := h2.2.1
            rw [hz, hts, ← List.append_assoc] at h3
            have h4 := (List.nodup_append.1 (List.nodup_append.1 h3).1).2.2 _ hm r[j] (by simp)
            exact h4 rfl
          have hm' := hm
          rw [List.mem_append] at hm'
          refine Run2.of I 1000 ?_
          simp -implicitDefEqProofs [-List.map_take, hlt, hr0, hlt2, hcell2, hR, hT, hTl, hmt]
          refine dcallK has ?_
          simp -implicitDefEqProofs [-List.map_take, hm', hlt, hr0, hlt2, hcell2, hR, hT, hTl, hmt]
          exact hdrop false (by simp [hb])
        · by_cases hf : x.free (r.take j) r[j]
          · refine Run2.of I 1000 ?_
            simp -implicitDefEqProofs [-List.map_take, hlt, hr0, hlt2, hcell2, hR, hT, hTl, hmt, hf]
            refine dcallK has ?_
            have hm' : ¬ (r[j] ∈ F ∨ r[j] ∈ r.take j) := fun h => hm (List.mem_append.2 h)
            have goj := fun w' hp' (g : Grow 1 w' ((F ++ r.take j).map iv ++ [.int .i64 r[j]]) hp') => ihj (j + 1, w', hp') ⟨hlt2, by simp only; rw [hts, ← List.append_assoc, List.map_append]; exact g, fun i' hi' hij => by
              simp only at hij
              rcases Nat.lt_or_ge i' j with h | h
              · exact hfr i' hi' h
              · obtain rfl : i' = j := by omega
                exact hf, by
              simp only
              rw [hts, ← List.append_assoc]
              exact List.nodup_append.2 ⟨hnd2, by simp, fun a ha b hb hab => hm (by simp only [List.mem_singleton] at hb; rw [← hb, ← hab]; exact ha)⟩⟩ (by simp; omega)
            simp -implicitDefEqProofs [-List.map_take, hm', hlt, hr0, hlt2, hcell2, hR, hT, hTl, hmt, hf]
            refine ⟨by omega, hg2.app (by simp; omega) (by simp) fun w' hp' hg' => ?_⟩
            have hcell' := hg'.cell
            simp -implicitDefEqProofs [hcell']
            refine ⟨by omega, ?_⟩
            simpa using goj w' hp' hg'
          · have hb : ¬ x.rsOk rs := hbad fun h => hf (h.2.2.2 j hlt2)
            refine Run2.of I 1000 ?_
            simp -implicitDefEqProofs [-List.map_take, hlt, hr0, hlt2, hcell2, hR, hT, hTl, hmt, hf]
            refine dcallK has ?_
            have hm' : ¬ (r[j] ∈ F ∨ r[j] ∈ r.take j) := fun h => hm (List.mem_append.2 h)
            simp -implicitDefEqProofs [-List.map_take, hm', hlt, hr0, hlt2, hcell2, hR, hT, hTl, hmt, hf]
            exact ⟨by omega, hdrop false (by simp [hb])⟩
      · obtain rfl : j = r.length := by omega
        have hrok : x.rOk r := ⟨a1, a2, a3, fun i' hi' => hfr i' hi' hi'⟩
        rw [List.take_length] at hg2 hnd2
        have go1 := go hrok hnd2 _ _ hg2
        refine Run2.of I 1000 ?_
        simp -implicitDefEqProofs [hlt, hr0, hcell2]
        refine ⟨by omega, ?_⟩
        simpa using go1
    · have hb : ¬ x.rsOk rs := hbad fun h => hA ⟨h.1, h.2.1, h.2.2.1⟩
      have hdrop : ∀ b : Bool, b = decide (x.rsOk rs) → Post (fun v h' => v = .bool (decide (x.rsOk rs)) ∧ h' = h) (.bool b) (hp ++ h) := fun b hb => hg.dropped (.base ⟨by rw [hb], rfl⟩)
      refine Run2.of I 1000 ?_
      simp -implicitDefEqProofs [hlt, hcell, hr0, hrl, hE]
      repeat' (first | refine And.intro ?_ ?_ | intro _)
      all_goals first | omega | (unfold in64; omega) | exact hdrop false (by simp [hb]) | (exfalso; exact hA ⟨by assumption, by assumption, fun a ha => by have := ‹btw r 0 _› a ha; omega⟩)
  · have hie : i = rs.length := by omega
    subst hie
    rw [List.take_length] at hg hok hnd
    have hglen := hg.len
    refine Run2.of I 1000 ?_
    simp -implicitDefEqProofs [hcell, hglen]
    refine hg.dropped (.base ⟨?_, rfl⟩)
    have hs : (rs.map (List.length ∘ List.map iv)).sum = rs.flatten.length := by
      rw [List.length_flatten]
      congr 1
      apply List.map_congr_left
      intro r _
      simp
    congr 1
    rw [decide_eq_decide, hs]
    exact ⟨fun h => ⟨hok, hnd, by omega⟩, fun h => by have := h.2.2; omega⟩
noncomputable def o_l24Ok : List AV → Option (Prop × AV) := tab (fun (x : Int × List T × LS) => match x with | (n, ts, rs) => [.ip [.int .i64 n, .snap 3 (ts.map T.av)], .snap 1 (rs.map il)]) (fun x => match x with | (n, ts, rs) => (ts.length ≤ 24 ∧ ssTot rs ≤ 1048576)) (fun x => match x with | (n, ts, rs) => .bool (decide (Gr.rsOk ⟨n, ts⟩ rs)))
@[simp] theorem o_l24Ok_e (n : Int) (ts : List T) (rs : LS) : o_l24Ok [.ip [.int .i64 n, .snap 3 (ts.map T.av)], .snap 1 (rs.map il)] = some ((ts.length ≤ 24 ∧ ssTot rs ≤ 1048576), .bool (decide (Gr.rsOk ⟨n, ts⟩ rs))) := tab_at (enc := fun (x : Int × List T × LS) => match x with | (n, ts, rs) => [.ip [.int .i64 n, .snap 3 (ts.map T.av)], .snap 1 (rs.map il)]) (fun x y h => by
  obtain ⟨n1, ts1, rs1⟩ := x; obtain ⟨n2, ts2, rs2⟩ := y; simp at h; simp [h]) _ _ (n, ts, rs)
theorem o_l24Ok_k : Knows Try.prog 75 o_l24Ok := tab_knows fun x hx h => by
  obtain ⟨n, ts, rs⟩ := x; exact l24Ok_c ⟨n, ts⟩ rs h hx.1 hx.2
noncomputable def o_areRounds : List AV → Option (Prop × AV) := tab (fun (x : Int × List T × LS) => match x with | (n, ts, rs) => [.agg [.int .i64 n, .snap 3 (ts.map T.av)], .snap 1 (rs.map il)]) (fun x => match x with | (n, ts, rs) => (ts.length ≤ 24 ∧ ssTot rs ≤ 1048576)) (fun x => match x with | (n, ts, rs) => .bool (decide (Gr.rsOk ⟨n, ts⟩ rs)))
@[simp] theorem o_areRounds_e (n : Int) (ts : List T) (rs : LS) : o_areRounds [.agg [.int .i64 n, .snap 3 (ts.map T.av)], .snap 1 (rs.map il)] = some ((ts.length ≤ 24 ∧ ssTot rs ≤ 1048576), .bool (decide (Gr.rsOk ⟨n, ts⟩ rs))) := tab_at (enc := fun (x : Int × List T × LS) => match x with | (n, ts, rs) => [.agg [.int .i64 n, .snap 3 (ts.map T.av)], .snap 1 (rs.map il)]) (fun x y h => by
  obtain ⟨n1, ts1, rs1⟩ := x; obtain ⟨n2, ts2, rs2⟩ := y; simp at h; simp [h]) _ _ (n, ts, rs)
theorem o_areRounds_k : Knows Try.prog 76 o_areRounds := tab_knows fun x hx h => by
  obtain ⟨n, ts, rs⟩ := x; exact areRounds_c ⟨n, ts⟩ rs h hx.1 hx.2
noncomputable def orcS : List (Nat × (List AV → Option (Prop × AV))) := (75, o_l24Ok) :: (76, o_areRounds) :: orcV
theorem orcS_p : Pure Try.prog (lk orcS) := (lk_pure o_l24Ok_k (lk_pure o_areRounds_k orcV_p))
@[simp] theorem orcS_l (g : FuncId) (l : List AV) : lk orcS g l = if g = 75 then o_l24Ok l else if g = 76 then o_areRounds l else lk orcV g l := nr rfl
theorem Gr.valid.le {x : Gr} (h : x.valid) : x.ts.length ≤ 24 := h.2.2.2
abbrev c_impl_ValidRounds_o0 : List AJ := [.o ⟨(some 2), none, false, .box false 2 (.t 0), none⟩, .o ⟨(some 4), none, false, .mv (.c (.bool false)), (some [1, 2])⟩]
def c_impl_ValidRounds_0 : ACode := .region c_impl_ValidRounds_o0
abbrev c_impl_ValidRounds_o1 : List AJ := [.o ⟨(some 5), none, false, .load 2 true (.t 2), none⟩, .o ⟨(some 6), none, false, .call 59 [(.t 5)], none⟩, .o ⟨(some 7), none, false, .mv (.t 6), none⟩, .o ⟨(some 8), (some (7, true)), false, .load 2 true (.t 2), none⟩, .o ⟨(some 9), (some (7, true)), false, .mv (.t 1), none⟩, .o ⟨(some 10), (some (7, true)), false, .call 76 [(.t 8), (.t 9)], none⟩, .o ⟨(some 11), none, false, .pick (.t 7) (.t 10) (.c (.bool false)), none⟩, .o ⟨(some 4), none, false, .mv (.t 11), (some [4])⟩]
def c_impl_ValidRounds_1 : ACode := .region c_impl_ValidRounds_o1
def c_impl_ValidRounds_2 : ACode := .seq c_impl_ValidRounds_1 .ret
def c_impl_ValidRounds_3 : ACode := .seq c_impl_ValidRounds_0 c_impl_ValidRounds_2
section
variable (C : Cx) (n : Nat) (sk : List AItem) (e : Env) (h : Heap) (R : AV → Heap → Prop)
@[simp, simp ↓] theorem c_impl_ValidRounds_0_r : vc2 C (n + 1) [] (.code c_impl_ValidRounds_0 :: sk) e h R = (vc2 C n c_impl_ValidRounds_o0 sk e h R) := nr rfl
@[simp, simp ↓] theorem c_impl_ValidRounds_1_r : vc2 C (n + 1) [] (.code c_impl_ValidRounds_1 :: sk) e h R = (vc2 C n c_impl_ValidRounds_o1 sk e h R) := nr rfl
@[simp, simp ↓] theorem c_impl_ValidRounds_2_r : vc2 C (n + 1) [] (.code c_impl_ValidRounds_2 :: sk) e h R = (vc2 C n [] (.code c_impl_ValidRounds_1 :: .code .ret :: sk) e h R) := nr rfl
@[simp, simp ↓] theorem c_impl_ValidRounds_3_r : vc2 C (n + 1) [] (.code c_impl_ValidRounds_3 :: sk) e h R = (vc2 C n [] (.code c_impl_ValidRounds_0 :: .code c_impl_ValidRounds_2 :: sk) e h R) := nr rfl
end
noncomputable def c_impl_ValidRounds_C (orc : Orc) : Cx := ⟨Try.prog, [], 31, 12, [.tmp 4], orc⟩
@[simp] theorem c_impl_ValidRounds_C_P (orc : Orc) : (c_impl_ValidRounds_C orc).P = Try.prog := nr rfl
@[simp] theorem c_impl_ValidRounds_C_o (orc : Orc) : (c_impl_ValidRounds_C orc).orc = orc := nr rfl
@[simp] theorem c_impl_ValidRounds_C_r (orc : Orc) : (c_impl_ValidRounds_C orc).res = [.tmp 4] := nr rfl
theorem c_impl_ValidRounds_of {args : List AV} {h : Heap} {R : AV → Heap → Prop} {k : Nat} (ha : args.length = k) {orc : Orc} (hp : Pure Try.prog orc) (hk : Is (c_impl_ValidRounds_C orc) Try.f31 → Run2 (c_impl_ValidRounds_C orc) [.code c_impl_ValidRounds_3] (argEnv 0 args) h (Post R)) (hle : k ≤ 12 := by simp) : ACalls Try.prog 31 args h R :=
  contract2 [] c_impl_ValidRounds_3 [.tmp 4] Try.func31 (by decide +kernel) rfl (by kernel_rfl) (by rw [ha]; exact hle) (by kernel_rfl) hp hk
theorem c_impl_ValidRounds_of0 {args : List AV} {h : Heap} {R : AV → Heap → Prop} {k : Nat} (ha : args.length = k) {orc : Orc} (hp : Pure Try.prog orc) (hk : Is (c_impl_ValidRounds_C orc) Try.f31 → Run2 (c_impl_ValidRounds_C orc) [.code c_impl_ValidRounds_3] (argEnv 0 args) h R) (hle : k ≤ 12 := by simp) : ACalls Try.prog 31 args h R :=
  contract20 [] c_impl_ValidRounds_3 [.tmp 4] Try.func31 (by decide +kernel) rfl (by kernel_rfl) (by rw [ha]; exact hle) (by kernel_rfl) hp hk
theorem implVR_c (x : Gr) (rs : List (List Int)) (h : Heap) (hl : x.ts.length ≤ 1048576) (ok : x.ok) (hr : ssTot rs ≤ 1048576) : ACalls Try.prog 31 [x.av, .snap 1 (rs.map il)] h (fun v h' => v = .bool (decide (x.valid ∧ x.rsOk rs)) ∧ h' = h) := by
  refine c_impl_ValidRounds_of0 rfl orcS_p fun I => ?_
  by_cases hv : x.valid
  · have h24 := hv.le
    refine Run2.of I 1000 ?_
    simp -implicitDefEqProofs [hl, ok, hv, h24, hr]
  · refine Run2.of I 1000 ?_
    simp -implicitDefEqProofs [hl, ok, hv]
abbrev c_spec_ValidRounds_o0 : List AJ := [.o ⟨(some 2), none, false, .box false 2 (.t 0), none⟩, .o ⟨(some 4), none, false, .mv (.c (.bool false)), (some [1, 2])⟩]
def c_spec_ValidRounds_0 : ACode := .region c_spec_ValidRounds_o0
abbrev c_spec_ValidRounds_o1 : List AJ := [.o ⟨(some 5), none, false, .call 57 [(.t 2)], none⟩, .o ⟨(some 6), none, false, .mv (.t 5), none⟩, .o ⟨(some 7), (some (6, true)), false, .mv (.t 1), none⟩, .o ⟨(some 8), (some (6, true)), false, .call 75 [(.t 2), (.t 7)], none⟩, .o ⟨(some 9), none, false, .pick (.t 6) (.t 8) (.c (.bool false)), none⟩, .o ⟨(some 4), none, false, .mv (.t 9), (some [4])⟩]
def c_spec_ValidRounds_1 : ACode := .region c_spec_ValidRounds_o1
def c_spec_ValidRounds_2 : ACode := .seq c_spec_ValidRounds_1 .ret
def c_spec_ValidRounds_3 : ACode := .seq c_spec_ValidRounds_0 c_spec_ValidRounds_2
section
variable (C : Cx) (n : Nat) (sk : List AItem) (e : Env) (h : Heap) (R : AV → Heap → Prop)
@[simp, simp ↓] theorem c_spec_ValidRounds_0_r : vc2 C (n + 1) [] (.code c_spec_ValidRounds_0 :: sk) e h R = (vc2 C n c_spec_ValidRounds_o0 sk e h R) := nr rfl
@[simp, simp ↓] theorem c_spec_ValidRounds_1_r : vc2 C (n + 1) [] (.code c_spec_ValidRounds_1 :: sk) e h R = (vc2 C n c_spec_ValidRounds_o1 sk e h R) := nr rfl
@[simp, simp ↓] theorem c_spec_ValidRounds_2_r : vc2 C (n + 1) [] (.code c_spec_ValidRounds_2 :: sk) e h R = (vc2 C n [] (.code c_spec_ValidRounds_1 :: .code .ret :: sk) e h R) := nr rfl
@[simp, simp ↓] theorem c_spec_ValidRounds_3_r : vc2 C (n + 1) [] (.code c_spec_ValidRounds_3 :: sk) e h R = (vc2 C n [] (.code c_spec_ValidRounds_0 :: .code c_spec_ValidRounds_2 :: sk) e h R) := nr rfl
end
noncomputable def c_spec_ValidRounds_C (orc : Orc) : Cx := ⟨Try.prog, [], 29, 10, [.tmp 4], orc⟩
@[simp] theorem c_spec_ValidRounds_C_P (orc : Orc) : (c_spec_ValidRounds_C orc).P = Try.prog := nr rfl
@[simp] theorem c_spec_ValidRounds_C_o (orc : Orc) : (c_spec_ValidRounds_C orc).orc = orc := nr rfl
@[simp] theorem c_spec_ValidRounds_C_r (orc : Orc) : (c_spec_ValidRounds_C orc).res = [.tmp 4] := nr rfl
theorem c_spec_ValidRounds_of {args : List AV} {h : Heap} {R : AV → Heap → Prop} {k : Nat} (ha : args.length = k) {orc : Orc} (hp : Pure Try.prog orc) (hk : Is (c_spec_ValidRounds_C orc) Try.f29 → Run2 (c_spec_ValidRounds_C orc) [.code c_spec_ValidRounds_3] (argEnv 0 args) h (Post R)) (hle : k ≤ 10 := by simp) : ACalls Try.prog 29 args h R :=
  contract2 [] c_spec_ValidRounds_3 [.tmp 4] Try.func29 (by decide +kernel) rfl (by kernel_rfl) (by rw [ha]; exact hle) (by kernel_rfl) hp hk
theorem c_spec_ValidRounds_of0 {args : List AV} {h : Heap} {R : AV → Heap → Prop} {k : Nat} (ha : args.length = k) {orc : Orc} (hp : Pure Try.prog orc) (hk : Is (c_spec_ValidRounds_C orc) Try.f29 → Run2 (c_spec_ValidRounds_C orc) [.code c_spec_ValidRounds_3] (argEnv 0 args) h R) (hle : k ≤ 10 := by simp) : ACalls Try.prog 29 args h R :=
  contract20 [] c_spec_ValidRounds_3 [.tmp 4] Try.func29 (by decide +kernel) rfl (by kernel_rfl) (by rw [ha]; exact hle) (by kernel_rfl) hp hk
theorem specVR_c (x : Gr) (rs : List (List Int)) (h : Heap) (hl : x.ts.length ≤ 1048576) (ok : x.ok) (hr : ssTot rs ≤ 1048576) : ACalls Try.prog 29 [x.av, .snap 1 (rs.map il)] h (fun v h' => v = .bool (decide (x.valid ∧ x.rsOk rs)) ∧ h' = h) := by
  refine c_spec_ValidRounds_of0 rfl orcS_p fun I => ?_
  by_cases hv : x.valid
  · have h24 := hv.le
    refine Run2.of I 1000 ?_
    simp -implicitDefEqProofs [hl, ok, hv, h24, hr]
  · refine Run2.of I 1000 ?_
    simp -implicitDefEqProofs [hl, ok, hv]
noncomputable def Gr.sCode (x : Gr) (rs : List (List Int)) : Int := if x.valid then if x.rsOk rs then 0 else 2 else 1
abbrev c_impl_scheduled_o0 : List AJ := [.o ⟨(some 2), none, false, .box false 2 (.t 0), none⟩, .o ⟨(some 4), none, false, .mv (.c (.int .i64 0)), (some [1, 2])⟩]
def c_impl_scheduled_0 : ACode := .region c_impl_scheduled_o0
abbrev c_impl_scheduled_o1 : List AJ := [.o ⟨(some 6), none, false, .load 2 true (.t 2), none⟩, .o ⟨(some 7), none, false, .call 59 [(.t 6)], none⟩, .o ⟨(some 8), none, false, .un .not (.t 7), none⟩, .o ⟨(some 5), none, false, .mv (.t 8), (some [1, 2, 5])⟩]
def c_impl_scheduled_1 : ACode := .region c_impl_scheduled_o1
abbrev c_impl_scheduled_o2 : List AJ := [.o ⟨(some 4), none, false, .mv (.c (.int .i64 1)), (some [4])⟩]
def c_impl_scheduled_2 : ACode := .region c_impl_scheduled_o2
def c_impl_scheduled_3 : ACode := .seq c_impl_scheduled_2 .ret
abbrev c_impl_scheduled_o3 : List AJ := [.o ⟨(some 10), none, false, .load 2 true (.t 2), none⟩, .o ⟨(some 11), none, false, .mv (.t 1), none⟩, .o ⟨(some 12), none, false, .call 76 [(.t 10), (.t 11)], none⟩, .o ⟨(some 13), none, false, .un .not (.t 12), none⟩, .o ⟨(some 9), none, false, .mv (.t 13), (some [9])⟩]
def c_impl_scheduled_4 : ACode := .region c_impl_scheduled_o3
abbrev c_impl_scheduled_o4 : List AJ := [.o ⟨(some 4), none, false, .mv (.c (.int .i64 2)), (some [4])⟩]
def c_impl_scheduled_5 : ACode := .region c_impl_scheduled_o4
def c_impl_scheduled_6 : ACode := .seq c_impl_scheduled_5 .ret
def c_impl_scheduled_7 : ACode := .cond (.t 9) c_impl_scheduled_6 .skip
def c_impl_scheduled_8 : ACode := .seq c_impl_scheduled_4 c_impl_scheduled_7
def c_impl_scheduled_9 : ACode := .cond (.t 5) c_impl_scheduled_3 c_impl_scheduled_8
def c_impl_scheduled_10 : ACode := .seq c_impl_scheduled_1 c_impl_scheduled_9
def c_impl_scheduled_11 : ACode := .block 0 c_impl_scheduled_10
abbrev c_impl_scheduled_o5 : List AJ := [.o ⟨(some 4), none, false, .mv (.c (.int .i64 0)), (some [4])⟩]
def c_impl_scheduled_12 : ACode := .region c_impl_scheduled_o5
def c_impl_scheduled_13 : ACode := .seq c_impl_scheduled_12 .ret
def c_impl_scheduled_14 : ACode := .seq c_impl_scheduled_11 c_impl_scheduled_13
def c_impl_scheduled_15 : ACode := .seq c_impl_scheduled_0 c_impl_scheduled_14
section
variable (C : Cx) (n : Nat) (sk : List AItem) (e : Env) (h : Heap) (R : AV → Heap → Prop)
@[simp, simp ↓] theorem c_impl_scheduled_0_r : vc2 C (n + 1) [] (.code c_impl_scheduled_0 :: sk) e h R = (vc2 C n c_impl_scheduled_o0 sk e h R) := nr rfl
@[simp, simp ↓] theorem c_impl_scheduled_1_r : vc2 C (n + 1) [] (.code c_impl_scheduled_1 :: sk) e h R = (vc2 C n c_impl_scheduled_o1 sk e h R) := nr rfl
@[simp, simp ↓] theorem c_impl_scheduled_2_r : vc2 C (n + 1) [] (.code c_impl_scheduled_2 :: sk) e h R = (vc2 C n c_impl_scheduled_o2 sk e h R) := nr rfl
@[simp, simp ↓] theorem c_impl_scheduled_3_r : vc2 C (n + 1) [] (.code c_impl_scheduled_3 :: sk) e h R = (vc2 C n [] (.code c_impl_scheduled_2 :: .code .ret :: sk) e h R) := nr rfl
@[simp, simp ↓] theorem c_impl_scheduled_4_r : vc2 C (n + 1) [] (.code c_impl_scheduled_4 :: sk) e h R = (vc2 C n c_impl_scheduled_o3 sk e h R) := nr rfl
@[simp, simp ↓] theorem c_impl_scheduled_5_r : vc2 C (n + 1) [] (.code c_impl_scheduled_5 :: sk) e h R = (vc2 C n c_impl_scheduled_o4 sk e h R) := nr rfl
@[simp, simp ↓] theorem c_impl_scheduled_6_r : vc2 C (n + 1) [] (.code c_impl_scheduled_6 :: sk) e h R = (vc2 C n [] (.code c_impl_scheduled_5 :: .code .ret :: sk) e h R) := nr rfl
@[simp, simp ↓] theorem c_impl_scheduled_7_r : vc2 C (n + 1) [] (.code c_impl_scheduled_7 :: sk) e h R = (condK (ev e (.t 9)) (vc2 C n [] (.code c_impl_scheduled_6 :: sk) e h R) (vc2 C n [] (.code .skip :: sk) e h R)) := nr rfl
@[simp, simp ↓] theorem c_impl_scheduled_8_r : vc2 C (n + 1) [] (.code c_impl_scheduled_8 :: sk) e h R = (vc2 C n [] (.code c_impl_scheduled_4 :: .code c_impl_scheduled_7 :: sk) e h R) := nr rfl
@[simp, simp ↓] theorem c_impl_scheduled_9_r : vc2 C (n + 1) [] (.code c_impl_scheduled_9 :: sk) e h R = (condK (ev e (.t 5)) (vc2 C n [] (.code c_impl_scheduled_3 :: sk) e h R) (vc2 C n [] (.code c_impl_scheduled_8 :: sk) e h R)) := nr rfl
@[simp, simp ↓] theorem c_impl_scheduled_10_r : vc2 C (n + 1) [] (.code c_impl_scheduled_10 :: sk) e h R = (vc2 C n [] (.code c_impl_scheduled_1 :: .code c_impl_scheduled_9 :: sk) e h R) := nr rfl
@[simp, simp ↓] theorem c_impl_scheduled_11_r : vc2 C (n + 1) [] (.code c_impl_scheduled_11 :: sk) e h R = (vc2 C n [] (.code c_impl_scheduled_10 :: .inBlock 0 :: sk) e h R) := nr rfl
@[simp, simp ↓] theorem c_impl_scheduled_12_r : vc2 C (n + 1) [] (.code c_impl_scheduled_12 :: sk) e h R = (vc2 C n c_impl_scheduled_o5 sk e h R) := nr rfl
@[simp, simp ↓] theorem c_impl_scheduled_13_r : vc2 C (n + 1) [] (.code c_impl_scheduled_13 :: sk) e h R = (vc2 C n [] (.code c_impl_scheduled_12 :: .code .ret :: sk) e h R) := nr rfl
@[simp, simp ↓] theorem c_impl_scheduled_14_r : vc2 C (n + 1) [] (.code c_impl_scheduled_14 :: sk) e h R = (vc2 C n [] (.code c_impl_scheduled_11 :: .code c_impl_scheduled_13 :: sk) e h R) := nr rfl
@[simp, simp ↓] theorem c_impl_scheduled_15_r : vc2 C (n + 1) [] (.code c_impl_scheduled_15 :: sk) e h R = (vc2 C n [] (.code c_impl_scheduled_0 :: .code c_impl_scheduled_14 :: sk) e h R) := nr rfl
end
noncomputable def c_impl_scheduled_C (orc : Orc) : Cx := ⟨Try.prog, [], 78, 14, [.tmp 4], orc⟩
@[simp] theorem c_impl_scheduled_C_P (orc : Orc) : (c_impl_scheduled_C orc).P = Try.prog := nr rfl
@[simp] theorem c_impl_scheduled_C_o (orc : Orc) : (c_impl_scheduled_C orc).orc = orc := nr rfl
@[simp] theorem c_impl_scheduled_C_r (orc : Orc) : (c_impl_scheduled_C orc).res = [.tmp 4] := nr rfl
theorem c_impl_scheduled_of {args : List AV} {h : Heap} {R : AV → Heap → Prop} {k : Nat} (ha : args.length = k) {orc : Orc} (hp : Pure Try.prog orc) (hk : Is (c_impl_scheduled_C orc) Try.f78 → Run2 (c_impl_scheduled_C orc) [.code c_impl_scheduled_15] (argEnv 0 args) h (Post R)) (hle : k ≤ 14 := by simp) : ACalls Try.prog 78 args h R :=
  contract2 [] c_impl_scheduled_15 [.tmp 4] Try.func78 (by decide +kernel) rfl (by kernel_rfl) (by rw [ha]; exact hle) (by kernel_rfl) hp hk
theorem c_impl_scheduled_of0 {args : List AV} {h : Heap} {R : AV → Heap → Prop} {k : Nat} (ha : args.length = k) {orc : Orc} (hp : Pure Try.prog orc) (hk : Is (c_impl_scheduled_C orc) Try.f78 → Run2 (c_impl_scheduled_C orc) [.code c_impl_scheduled_15] (argEnv 0 args) h R) (hle : k ≤ 14 := by simp) : ACalls Try.prog 78 args h R :=
  contract20 [] c_impl_scheduled_15 [.tmp 4] Try.func78 (by decide +kernel) rfl (by kernel_rfl) (by rw [ha]; exact hle) (by kernel_rfl) hp hk
theorem scheduled_c (x : Gr) (rs : List (List Int)) (h : Heap) (hl : x.ts.length ≤ 1048576) (ok : x.ok) (hr : ssTot rs ≤ 1048576) : ACalls Try.prog 78 [x.av, .snap 1 (rs.map il)] h (fun v h' => v = .int .i64 (x.sCode rs) ∧ h' = h) := by
  refine c_impl_scheduled_of0 rfl orcS_p fun I => ?_
  unfold Gr.sCode
  by_cases hv : x.valid
  · have h24 := hv.le
    by_cases hk : x.rsOk rs
    · refine Run2.of I 1000 ?_
      simp -implicitDefEqProofs [hl, ok, hv, h24, hr, hk]
    · refine Run2.of I 1000 ?_
      simp -implicitDefEqProofs [hl, ok, hv, h24, hr, hk]
  · refine Run2.of I 1000 ?_
    simp -implicitDefEqProofs [hl, ok, hv]
abbrev c_spec_l24Ask_o0 : List AJ := [.o ⟨(some 4), none, false, .mv (.c (.int .i64 0)), (some [0, 1])⟩]
def c_spec_l24Ask_0 : ACode := .region c_spec_l24Ask_o0
abbrev c_spec_l24Ask_o1 : List AJ := [.o ⟨(some 5), none, false, .mv (.t 0), none⟩, .o ⟨(some 6), none, false, .call 57 [(.t 5)], none⟩, .o ⟨(some 7), none, false, .un .not (.t 6), (some [0, 1, 7])⟩]
def c_spec_l24Ask_1 : ACode := .region c_spec_l24Ask_o1
abbrev c_spec_l24Ask_o2 : List AJ := [.o ⟨(some 4), none, false, .mv (.c (.int .i64 1)), (some [4])⟩]
def c_spec_l24Ask_2 : ACode := .region c_spec_l24Ask_o2
def c_spec_l24Ask_3 : ACode := .seq c_spec_l24Ask_2 .ret
def c_spec_l24Ask_4 : ACode := .cond (.t 7) c_spec_l24Ask_3 .skip
def c_spec_l24Ask_5 : ACode := .seq c_spec_l24Ask_1 c_spec_l24Ask_4
abbrev c_spec_l24Ask_o3 : List AJ := [.o ⟨(some 8), none, false, .mv (.t 0), none⟩, .o ⟨(some 9), none, false, .mv (.t 1), none⟩, .o ⟨(some 10), none, false, .call 75 [(.t 8), (.t 9)], none⟩, .o ⟨(some 11), none, false, .un .not (.t 10), (some [11])⟩]
def c_spec_l24Ask_6 : ACode := .region c_spec_l24Ask_o3
abbrev c_spec_l24Ask_o4 : List AJ := [.o ⟨(some 4), none, false, .mv (.c (.int .i64 2)), (some [4])⟩]
def c_spec_l24Ask_7 : ACode := .region c_spec_l24Ask_o4
def c_spec_l24Ask_8 : ACode := .seq c_spec_l24Ask_7 .ret
def c_spec_l24Ask_9 : ACode := .cond (.t 11) c_spec_l24Ask_8 .skip
def c_spec_l24Ask_10 : ACode := .seq c_spec_l24Ask_6 c_spec_l24Ask_9
abbrev c_spec_l24Ask_o5 : List AJ := [.o ⟨(some 4), none, false, .mv (.c (.int .i64 0)), (some [4])⟩]
def c_spec_l24Ask_11 : ACode := .region c_spec_l24Ask_o5
def c_spec_l24Ask_12 : ACode := .seq c_spec_l24Ask_11 .ret
def c_spec_l24Ask_13 : ACode := .seq c_spec_l24Ask_10 c_spec_l24Ask_12
def c_spec_l24Ask_14 : ACode := .seq c_spec_l24Ask_5 c_spec_l24Ask_13
def c_spec_l24Ask_15 : ACode := .seq c_spec_l24Ask_0 c_spec_l24Ask_14
section
variable (C : Cx) (n : Nat) (sk : List AItem) (e : Env) (h : Heap) (R : AV → Heap → Prop)
@[simp, simp ↓] theorem c_spec_l24Ask_0_r : vc2 C (n + 1) [] (.code c_spec_l24Ask_0 :: sk) e h R = (vc2 C n c_spec_l24Ask_o0 sk e h R) := nr rfl
@[simp, simp ↓] theorem c_spec_l24Ask_1_r : vc2 C (n + 1) [] (.code c_spec_l24Ask_1 :: sk) e h R = (vc2 C n c_spec_l24Ask_o1 sk e h R) := nr rfl
@[simp, simp ↓] theorem c_spec_l24Ask_2_r : vc2 C (n + 1) [] (.code c_spec_l24Ask_2 :: sk) e h R = (vc2 C n c_spec_l24Ask_o2 sk e h R) := nr rfl
@[simp, simp ↓] theorem c_spec_l24Ask_3_r : vc2 C (n + 1) [] (.code c_spec_l24Ask_3 :: sk) e h R = (vc2 C n [] (.code c_spec_l24Ask_2 :: .code .ret :: sk) e h R) := nr rfl
@[simp, simp ↓] theorem c_spec_l24Ask_4_r : vc2 C (n + 1) [] (.code c_spec_l24Ask_4 :: sk) e h R = (condK (ev e (.t 7)) (vc2 C n [] (.code c_spec_l24Ask_3 :: sk) e h R) (vc2 C n [] (.code .skip :: sk) e h R)) := nr rfl
@[simp, simp ↓] theorem c_spec_l24Ask_5_r : vc2 C (n + 1) [] (.code c_spec_l24Ask_5 :: sk) e h R = (vc2 C n [] (.code c_spec_l24Ask_1 :: .code c_spec_l24Ask_4 :: sk) e h R) := nr rfl
@[simp, simp ↓] theorem c_spec_l24Ask_6_r : vc2 C (n + 1) [] (.code c_spec_l24Ask_6 :: sk) e h R = (vc2 C n c_spec_l24Ask_o3 sk e h R) := nr rfl
@[simp, simp ↓] theorem c_spec_l24Ask_7_r : vc2 C (n + 1) [] (.code c_spec_l24Ask_7 :: sk) e h R = (vc2 C n c_spec_l24Ask_o4 sk e h R) := nr rfl
@[simp, simp ↓] theorem c_spec_l24Ask_8_r : vc2 C (n + 1) [] (.code c_spec_l24Ask_8 :: sk) e h R = (vc2 C n [] (.code c_spec_l24Ask_7 :: .code .ret :: sk) e h R) := nr rfl
@[simp, simp ↓] theorem c_spec_l24Ask_9_r : vc2 C (n + 1) [] (.code c_spec_l24Ask_9 :: sk) e h R = (condK (ev e (.t 11)) (vc2 C n [] (.code c_spec_l24Ask_8 :: sk) e h R) (vc2 C n [] (.code .skip :: sk) e h R)) := nr rfl
@[simp, simp ↓] theorem c_spec_l24Ask_10_r : vc2 C (n + 1) [] (.code c_spec_l24Ask_10 :: sk) e h R = (vc2 C n [] (.code c_spec_l24Ask_6 :: .code c_spec_l24Ask_9 :: sk) e h R) := nr rfl
@[simp, simp ↓] theorem c_spec_l24Ask_11_r : vc2 C (n + 1) [] (.code c_spec_l24Ask_11 :: sk) e h R = (vc2 C n c_spec_l24Ask_o5 sk e h R) := nr rfl
@[simp, simp ↓] theorem c_spec_l24Ask_12_r : vc2 C (n + 1) [] (.code c_spec_l24Ask_12 :: sk) e h R = (vc2 C n [] (.code c_spec_l24Ask_11 :: .code .ret :: sk) e h R) := nr rfl
@[simp, simp ↓] theorem c_spec_l24Ask_13_r : vc2 C (n + 1) [] (.code c_spec_l24Ask_13 :: sk) e h R = (vc2 C n [] (.code c_spec_l24Ask_10 :: .code c_spec_l24Ask_12 :: sk) e h R) := nr rfl
@[simp, simp ↓] theorem c_spec_l24Ask_14_r : vc2 C (n + 1) [] (.code c_spec_l24Ask_14 :: sk) e h R = (vc2 C n [] (.code c_spec_l24Ask_5 :: .code c_spec_l24Ask_13 :: sk) e h R) := nr rfl
@[simp, simp ↓] theorem c_spec_l24Ask_15_r : vc2 C (n + 1) [] (.code c_spec_l24Ask_15 :: sk) e h R = (vc2 C n [] (.code c_spec_l24Ask_0 :: .code c_spec_l24Ask_14 :: sk) e h R) := nr rfl
end
noncomputable def c_spec_l24Ask_C (orc : Orc) : Cx := ⟨Try.prog, [], 82, 12, [.tmp 4], orc⟩
@[simp] theorem c_spec_l24Ask_C_P (orc : Orc) : (c_spec_l24Ask_C orc).P = Try.prog := nr rfl
@[simp] theorem c_spec_l24Ask_C_o (orc : Orc) : (c_spec_l24Ask_C orc).orc = orc := nr rfl
@[simp] theorem c_spec_l24Ask_C_r (orc : Orc) : (c_spec_l24Ask_C orc).res = [.tmp 4] := nr rfl
theorem c_spec_l24Ask_of {args : List AV} {h : Heap} {R : AV → Heap → Prop} {k : Nat} (ha : args.length = k) {orc : Orc} (hp : Pure Try.prog orc) (hk : Is (c_spec_l24Ask_C orc) Try.f82 → Run2 (c_spec_l24Ask_C orc) [.code c_spec_l24Ask_15] (argEnv 0 args) h (Post R)) (hle : k ≤ 12 := by simp) : ACalls Try.prog 82 args h R :=
  contract2 [] c_spec_l24Ask_15 [.tmp 4] Try.func82 (by decide +kernel) rfl (by kernel_rfl) (by rw [ha]; exact hle) (by kernel_rfl) hp hk
theorem c_spec_l24Ask_of0 {args : List AV} {h : Heap} {R : AV → Heap → Prop} {k : Nat} (ha : args.length = k) {orc : Orc} (hp : Pure Try.prog orc) (hk : Is (c_spec_l24Ask_C orc) Try.f82 → Run2 (c_spec_l24Ask_C orc) [.code c_spec_l24Ask_15] (argEnv 0 args) h R) (hle : k ≤ 12 := by simp) : ACalls Try.prog 82 args h R :=
  contract20 [] c_spec_l24Ask_15 [.tmp 4] Try.func82 (by decide +kernel) rfl (by kernel_rfl) (by rw [ha]; exact hle) (by kernel_rfl) hp hk
theorem l24Ask_c (x : Gr) (rs : List (List Int)) (h : Heap) (hl : x.ts.length ≤ 1048576) (ok : x.ok) (hr : ssTot rs ≤ 1048576) : ACalls Try.prog 82 [.ip [.int .i64 x.n, .snap 3 (x.ts.map T.av)], .snap 1 (rs.map il)] h (fun v h' => v = .int .i64 (x.sCode rs) ∧ h' = h) := by
  refine c_spec_l24Ask_of0 rfl orcS_p fun I => ?_
  unfold Gr.sCode
  by_cases hv : x.valid
  · have h24 := hv.le
    by_cases hk : x.rsOk rs
    · refine Run2.of I 1000 ?_
      simp -implicitDefEqProofs [hl, ok, hv, h24, hr, hk]
    · refine Run2.of I 1000 ?_
      simp -implicitDefEqProofs [hl, ok, hv, h24, hr, hk]
  · refine Run2.of I 1000 ?_
    simp -implicitDefEqProofs [hl, ok, hv]
noncomputable def o_scheduled : List AV → Option (Prop × AV) := tab (fun (x : Int × List T × LS) => match x with | (n, ts, rs) => [.agg [.int .i64 n, .snap 3 (ts.map T.av)], .snap 1 (rs.map il)]) (fun x => match x with | (n, ts, rs) => (ts.length ≤ 1048576 ∧ Gr.ok ⟨n, ts⟩ ∧ ssTot rs ≤ 1048576)) (fun x => match x with | (n, ts, rs) => .int .i64 (Gr.sCode ⟨n, ts⟩ rs))
@[simp] theorem o_scheduled_e (n : Int) (ts : List T) (rs : LS) : o_scheduled [.agg [.int .i64 n, .snap 3 (ts.map T.av)], .snap 1 (rs.map il)] = some ((ts.length ≤ 1048576 ∧ Gr.ok ⟨n, ts⟩ ∧ ssTot rs ≤ 1048576), .int .i64 (Gr.sCode ⟨n, ts⟩ rs)) := tab_at (enc := fun (x : Int × List T × LS) => match x with | (n, ts, rs) => [.agg [.int .i64 n, .snap 3 (ts.map T.av)], .snap 1 (rs.map il)]) (fun x y h => by
  obtain ⟨n1, ts1, rs1⟩ := x; obtain ⟨n2, ts2, rs2⟩ := y; simp at h; simp [h]) _ _ (n, ts, rs)
theorem o_scheduled_k : Knows Try.prog 78 o_scheduled := tab_knows fun x hx h => by
  obtain ⟨n, ts, rs⟩ := x; exact scheduled_c ⟨n, ts⟩ rs h hx.1 hx.2.1 hx.2.2
noncomputable def o_l24Ask : List AV → Option (Prop × AV) := tab (fun (x : Int × List T × LS) => match x with | (n, ts, rs) => [.ip [.int .i64 n, .snap 3 (ts.map T.av)], .snap 1 (rs.map il)]) (fun x => match x with | (n, ts, rs) => (ts.length ≤ 1048576 ∧ Gr.ok ⟨n, ts⟩ ∧ ssTot rs ≤ 1048576)) (fun x => match x with | (n, ts, rs) => .int .i64 (Gr.sCode ⟨n, ts⟩ rs))
@[simp] theorem o_l24Ask_e (n : Int) (ts : List T) (rs : LS) : o_l24Ask [.ip [.int .i64 n, .snap 3 (ts.map T.av)], .snap 1 (rs.map il)] = some ((ts.length ≤ 1048576 ∧ Gr.ok ⟨n, ts⟩ ∧ ssTot rs ≤ 1048576), .int .i64 (Gr.sCode ⟨n, ts⟩ rs)) := tab_at (enc := fun (x : Int × List T × LS) => match x with | (n, ts, rs) => [.ip [.int .i64 n, .snap 3 (ts.map T.av)], .snap 1 (rs.map il)]) (fun x y h => by
  obtain ⟨n1, ts1, rs1⟩ := x; obtain ⟨n2, ts2, rs2⟩ := y; simp at h; simp [h]) _ _ (n, ts, rs)
theorem o_l24Ask_k : Knows Try.prog 82 o_l24Ask := tab_knows fun x hx h => by
  obtain ⟨n, ts, rs⟩ := x; exact l24Ask_c ⟨n, ts⟩ rs h hx.1 hx.2.1 hx.2.2
end Go.AG
