/- The law FnExactBestTurn is true for every input: the program's BestTurn returns what the reference's returns. -/
import Derived.Test.YtlncpnefkpfojaaCtBT
import Derived.Test.YtlncpnefkpfojaaGrM
namespace Go.AG
open Go.Proofs Go.Proofs.Ytlncpnefkpfojaa
set_option linter.unusedSimpArgs false
set_option linter.unusedVariables false
set_option maxRecDepth 4000
noncomputable def orcM : List (Nat × (List AV → Option (Prop × AV))) := (15, o_szGraph) :: (28, o_szInt64SS) :: []
theorem orcM_p : Pure Try.prog (lk orcM) := (lk_pure o_szGraph_k (lk_pure o_szInt64SS_k lk_pure0))
@[simp] theorem orcM_l (g : FuncId) (l : List AV) : lk orcM g l = if g = 15 then o_szGraph l else if g = 28 then o_szInt64SS l else none := nr rfl
abbrev c_laws_FnExactBestTurn_o0 : List AJ := [.o ⟨(some 2), none, false, .box false 2 (.t 0), none⟩, .o ⟨(some 4), none, false, .mv (.c (.bool false)), (some [1, 2])⟩]
def c_laws_FnExactBestTurn_0 : ACode := .region c_laws_FnExactBestTurn_o0
abbrev c_laws_FnExactBestTurn_o1 : List AJ := [.o ⟨(some 5), none, false, .mv (.c (.int .i64 1048576)), (some [1, 2, 5])⟩]
def c_laws_FnExactBestTurn_1 : ACode := .region c_laws_FnExactBestTurn_o1
abbrev c_laws_FnExactBestTurn_o2 : List AJ := [.o ⟨(some 14), none, false, .load 2 true (.t 2), none⟩, .o ⟨(some 15), none, false, .mv (.t 5), none⟩, .o ⟨(some 16), none, false, .call 15 [(.t 14), (.t 15)], none⟩, .o ⟨(some 5), none, false, .mv (.t 16), (some [1, 2, 5])⟩]
def c_laws_FnExactBestTurn_2 : ACode := .region c_laws_FnExactBestTurn_o2
abbrev c_laws_FnExactBestTurn_o3 : List AJ := [.o ⟨(some 17), none, false, .mv (.t 5), none⟩, .o ⟨(some 18), none, false, .bin .lss (.t 17) (.c (.int .i64 0)), (some [1, 2, 5, 18])⟩]
def c_laws_FnExactBestTurn_3 : ACode := .region c_laws_FnExactBestTurn_o3
abbrev c_laws_FnExactBestTurn_o4 : List AJ := [.o ⟨(some 4), none, false, .mv (.c (.bool true)), (some [4])⟩]
def c_laws_FnExactBestTurn_4 : ACode := .region c_laws_FnExactBestTurn_o4
def c_laws_FnExactBestTurn_5 : ACode := .seq c_laws_FnExactBestTurn_4 .ret
def c_laws_FnExactBestTurn_6 : ACode := .cond (.t 18) c_laws_FnExactBestTurn_5 .skip
def c_laws_FnExactBestTurn_7 : ACode := .seq c_laws_FnExactBestTurn_3 c_laws_FnExactBestTurn_6
abbrev c_laws_FnExactBestTurn_o5 : List AJ := [.o ⟨(some 19), none, false, .mv (.t 1), none⟩, .o ⟨(some 20), none, false, .mv (.t 5), none⟩, .o ⟨(some 21), none, false, .call 28 [(.t 19), (.t 20)], none⟩, .o ⟨(some 5), none, false, .mv (.t 21), (some [1, 2, 5])⟩]
def c_laws_FnExactBestTurn_8 : ACode := .region c_laws_FnExactBestTurn_o5
abbrev c_laws_FnExactBestTurn_o6 : List AJ := [.o ⟨(some 22), none, false, .mv (.t 5), none⟩, .o ⟨(some 23), none, false, .bin .lss (.t 22) (.c (.int .i64 0)), (some [1, 2, 23])⟩]
def c_laws_FnExactBestTurn_9 : ACode := .region c_laws_FnExactBestTurn_o6
abbrev c_laws_FnExactBestTurn_o7 : List AJ := [.o ⟨(some 4), none, false, .mv (.c (.bool true)), (some [4])⟩]
def c_laws_FnExactBestTurn_10 : ACode := .region c_laws_FnExactBestTurn_o7
def c_laws_FnExactBestTurn_11 : ACode := .seq c_laws_FnExactBestTurn_10 .ret
def c_laws_FnExactBestTurn_12 : ACode := .cond (.t 23) c_laws_FnExactBestTurn_11 .skip
def c_laws_FnExactBestTurn_13 : ACode := .seq c_laws_FnExactBestTurn_9 c_laws_FnExactBestTurn_12
abbrev c_laws_FnExactBestTurn_o8 : List AJ := [.o ⟨(some 25), none, false, .load 2 true (.t 2), none⟩, .o ⟨(some 26), none, false, .call 17 [(.t 25)], none⟩, .o ⟨(some 27), none, false, .mv (.t 1), none⟩, .o ⟨(some 28), none, false, .call 30 [(.t 27)], none⟩, .o ⟨(some 29), none, false, .call 48 [(.t 26), (.t 28)], none⟩, .o ⟨(some 24), none, false, .mv (.t 29), none⟩, .o ⟨(some 30), none, false, .extract (.t 24) 0, none⟩, .o ⟨(some 31), none, false, .extract (.t 24) 1, none⟩, .o ⟨(some 32), none, false, .extract (.t 24) 2, none⟩, .o ⟨(some 6), none, false, .mv (.t 30), none⟩, .o ⟨(some 7), none, false, .mv (.t 31), none⟩, .o ⟨(some 8), none, false, .mv (.t 32), (some [1, 2, 6, 7, 8])⟩]
def c_laws_FnExactBestTurn_14 : ACode := .region c_laws_FnExactBestTurn_o8
abbrev c_laws_FnExactBestTurn_o9 : List AJ := [.o ⟨(some 33), none, false, .load 2 true (.t 2), none⟩, .o ⟨(some 34), none, false, .call 17 [(.t 33)], none⟩, .v 9 2 (.agg [(.int .i64 0), .nilsl]) [] (.t 34) (some [1, 2, 6, 7, 8, 9])]
def c_laws_FnExactBestTurn_15 : ACode := .region c_laws_FnExactBestTurn_o9
abbrev c_laws_FnExactBestTurn_o10 : List AJ := [.o ⟨(some 35), none, false, .mv (.t 1), none⟩, .o ⟨(some 36), none, false, .call 30 [(.t 35)], none⟩, .o ⟨(some 10), none, false, .mv (.t 36), (some [1, 2, 6, 7, 8, 9, 10])⟩]
def c_laws_FnExactBestTurn_16 : ACode := .region c_laws_FnExactBestTurn_o10
abbrev c_laws_FnExactBestTurn_o11 : List AJ := [.o ⟨(some 38), none, false, .load 2 true (.t 9), none⟩, .o ⟨(some 39), none, false, .mv (.t 10), none⟩, .o ⟨(some 40), none, false, .call 49 [(.t 38), (.t 39)], none⟩, .o ⟨(some 37), none, false, .mv (.t 40), none⟩, .o ⟨(some 41), none, false, .extract (.t 37) 0, none⟩, .o ⟨(some 42), none, false, .extract (.t 37) 1, none⟩, .o ⟨(some 43), none, false, .extract (.t 37) 2, none⟩, .o ⟨(some 11), none, false, .mv (.t 41), none⟩, .o ⟨(some 12), none, false, .mv (.t 42), none⟩, .o ⟨(some 13), none, false, .mv (.t 43), (some [1, 2, 6, 7, 8, 9, 10, 11, 12, 13])⟩]
def c_laws_FnExactBestTurn_17 : ACode := .region c_laws_FnExactBestTurn_o11
abbrev c_laws_FnExactBestTurn_o12 : List AJ := [.o ⟨(some 44), none, false, .mv (.t 11), none⟩, .o ⟨(some 45), none, false, .mv (.t 6), none⟩, .o ⟨(some 46), none, false, .bin .neq (.t 44) (.t 45), none⟩, .o ⟨(some 47), none, false, .mv (.t 46), none⟩, .o ⟨(some 48), (some (47, false)), false, .mv (.t 12), none⟩, .o ⟨(some 49), (some (47, false)), false, .mv (.t 7), none⟩, .o ⟨(some 50), (some (47, false)), false, .bin .neq (.t 48) (.t 49), none⟩, .o ⟨(some 51), none, false, .pick (.t 47) (.c (.bool true)) (.t 50), none⟩, .o ⟨(some 52), none, false, .mv (.t 51), none⟩, .o ⟨(some 53), (some (52, false)), false, .mv (.t 13), (some [1, 2, 8, 9, 10, 52, 53])⟩, .o ⟨(some 54), (some (52, false)), false, .mv (.t 8), none⟩, .o ⟨(some 55), (some (52, false)), false, .bin .neq (.t 53) (.t 54), none⟩, .o ⟨(some 56), none, false, .pick (.t 52) (.c (.bool true)) (.t 55), (some [1, 2, 9, 10, 56])⟩]
def c_laws_FnExactBestTurn_18 : ACode := .region c_laws_FnExactBestTurn_o12
abbrev c_laws_FnExactBestTurn_o13 : List AJ := [.o ⟨(some 4), none, false, .mv (.c (.bool false)), (some [4])⟩]
def c_laws_FnExactBestTurn_19 : ACode := .region c_laws_FnExactBestTurn_o13
def c_laws_FnExactBestTurn_20 : ACode := .seq c_laws_FnExactBestTurn_19 .ret
def c_laws_FnExactBestTurn_21 : ACode := .cond (.t 56) c_laws_FnExactBestTurn_20 .skip
def c_laws_FnExactBestTurn_22 : ACode := .seq c_laws_FnExactBestTurn_18 c_laws_FnExactBestTurn_21
abbrev c_laws_FnExactBestTurn_o14 : List AI := [⟨(some 57), none, false, .load 2 true (.t 9), none⟩, ⟨(some 58), none, false, .load 2 true (.t 2), none⟩, ⟨(some 59), none, false, .call 17 [(.t 58)], none⟩, ⟨(some 60), none, false, .call 19 [(.t 57), (.t 59)], none⟩, ⟨(some 61), none, false, .un .not (.t 60), (some [1, 10, 61])⟩]
def c_laws_FnExactBestTurn_23 : ACode := .draw c_laws_FnExactBestTurn_o14 [] rfl
abbrev c_laws_FnExactBestTurn_o15 : List AJ := [.o ⟨(some 4), none, false, .mv (.c (.bool false)), (some [4])⟩]
def c_laws_FnExactBestTurn_24 : ACode := .region c_laws_FnExactBestTurn_o15
def c_laws_FnExactBestTurn_25 : ACode := .seq c_laws_FnExactBestTurn_24 .ret
def c_laws_FnExactBestTurn_26 : ACode := .cond (.t 61) c_laws_FnExactBestTurn_25 .skip
def c_laws_FnExactBestTurn_27 : ACode := .seq c_laws_FnExactBestTurn_23 c_laws_FnExactBestTurn_26
abbrev c_laws_FnExactBestTurn_o16 : List AJ := [.o ⟨(some 62), none, false, .mv (.t 10), none⟩, .o ⟨(some 63), none, false, .mv (.t 1), none⟩, .o ⟨(some 64), none, false, .call 30 [(.t 63)], none⟩, .o ⟨(some 65), none, false, .call 22 [(.t 62), (.t 64)], none⟩, .o ⟨(some 66), none, false, .un .not (.t 65), (some [66])⟩]
def c_laws_FnExactBestTurn_28 : ACode := .region c_laws_FnExactBestTurn_o16
abbrev c_laws_FnExactBestTurn_o17 : List AJ := [.o ⟨(some 4), none, false, .mv (.c (.bool false)), (some [4])⟩]
def c_laws_FnExactBestTurn_29 : ACode := .region c_laws_FnExactBestTurn_o17
def c_laws_FnExactBestTurn_30 : ACode := .seq c_laws_FnExactBestTurn_29 .ret
def c_laws_FnExactBestTurn_31 : ACode := .cond (.t 66) c_laws_FnExactBestTurn_30 .skip
def c_laws_FnExactBestTurn_32 : ACode := .seq c_laws_FnExactBestTurn_28 c_laws_FnExactBestTurn_31
abbrev c_laws_FnExactBestTurn_o18 : List AJ := [.o ⟨(some 4), none, false, .mv (.c (.bool true)), (some [4])⟩]
def c_laws_FnExactBestTurn_33 : ACode := .region c_laws_FnExactBestTurn_o18
def c_laws_FnExactBestTurn_34 : ACode := .seq c_laws_FnExactBestTurn_33 .ret
def c_laws_FnExactBestTurn_35 : ACode := .seq c_laws_FnExactBestTurn_32 c_laws_FnExactBestTurn_34
def c_laws_FnExactBestTurn_36 : ACode := .seq c_laws_FnExactBestTurn_27 c_laws_FnExactBestTurn_35
def c_laws_FnExactBestTurn_37 : ACode := .seq c_laws_FnExactBestTurn_22 c_laws_FnExactBestTurn_36
def c_laws_FnExactBestTurn_38 : ACode := .seq c_laws_FnExactBestTurn_17 c_laws_FnExactBestTurn_37
def c_laws_FnExactBestTurn_39 : ACode := .seq c_laws_FnExactBestTurn_16 c_laws_FnExactBestTurn_38
def c_laws_FnExactBestTurn_40 : ACode := .seq c_laws_FnExactBestTurn_15 c_laws_FnExactBestTurn_39
def c_laws_FnExactBestTurn_41 : ACode := .seq c_laws_FnExactBestTurn_14 c_laws_FnExactBestTurn_40
def c_laws_FnExactBestTurn_42 : ACode := .seq c_laws_FnExactBestTurn_13 c_laws_FnExactBestTurn_41
def c_laws_FnExactBestTurn_43 : ACode := .seq c_laws_FnExactBestTurn_8 c_laws_FnExactBestTurn_42
def c_laws_FnExactBestTurn_44 : ACode := .seq c_laws_FnExactBestTurn_7 c_laws_FnExactBestTurn_43
def c_laws_FnExactBestTurn_45 : ACode := .seq c_laws_FnExactBestTurn_2 c_laws_FnExactBestTurn_44
def c_laws_FnExactBestTurn_46 : ACode := .seq c_laws_FnExactBestTurn_1 c_laws_FnExactBestTurn_45
def c_laws_FnExactBestTurn_47 : ACode := .seq c_laws_FnExactBestTurn_0 c_laws_FnExactBestTurn_46
section
variable (C : Cx) (n : Nat) (sk : List AItem) (e : Env) (h : Heap) (R : AV → Heap → Prop)
@[simp, simp ↓] theorem c_laws_FnExactBestTurn_0_r : vc2 C (n + 1) [] (.code c_laws_FnExactBestTurn_0 :: sk) e h R = (vc2 C n c_laws_FnExactBestTurn_o0 sk e h R) := nr rfl
@[simp, simp ↓] theorem c_laws_FnExactBestTurn_1_r : vc2 C (n + 1) [] (.code c_laws_FnExactBestTurn_1 :: sk) e h R = (vc2 C n c_laws_FnExactBestTurn_o1 sk e h R) := nr rfl
@[simp, simp ↓] theorem c_laws_FnExactBestTurn_2_r : vc2 C (n + 1) [] (.code c_laws_FnExactBestTurn_2 :: sk) e h R = (vc2 C n c_laws_FnExactBestTurn_o2 sk e h R) := nr rfl
@[simp, simp ↓] theorem c_laws_FnExactBestTurn_3_r : vc2 C (n + 1) [] (.code c_laws_FnExactBestTurn_3 :: sk) e h R = (vc2 C n c_laws_FnExactBestTurn_o3 sk e h R) := nr rfl
@[simp, simp ↓] theorem c_laws_FnExactBestTurn_4_r : vc2 C (n + 1) [] (.code c_laws_FnExactBestTurn_4 :: sk) e h R = (vc2 C n c_laws_FnExactBestTurn_o4 sk e h R) := nr rfl
@[simp, simp ↓] theorem c_laws_FnExactBestTurn_5_r : vc2 C (n + 1) [] (.code c_laws_FnExactBestTurn_5 :: sk) e h R = (vc2 C n [] (.code c_laws_FnExactBestTurn_4 :: .code .ret :: sk) e h R) := nr rfl
@[simp, simp ↓] theorem c_laws_FnExactBestTurn_6_r : vc2 C (n + 1) [] (.code c_laws_FnExactBestTurn_6 :: sk) e h R = (condK (ev e (.t 18)) (vc2 C n [] (.code c_laws_FnExactBestTurn_5 :: sk) e h R) (vc2 C n [] (.code .skip :: sk) e h R)) := nr rfl
@[simp, simp ↓] theorem c_laws_FnExactBestTurn_7_r : vc2 C (n + 1) [] (.code c_laws_FnExactBestTurn_7 :: sk) e h R = (vc2 C n [] (.code c_laws_FnExactBestTurn_3 :: .code c_laws_FnExactBestTurn_6 :: sk) e h R) := nr rfl
@[simp, simp ↓] theorem c_laws_FnExactBestTurn_8_r : vc2 C (n + 1) [] (.code c_laws_FnExactBestTurn_8 :: sk) e h R = (vc2 C n c_laws_FnExactBestTurn_o5 sk e h R) := nr rfl
@[simp, simp ↓] theorem c_laws_FnExactBestTurn_9_r : vc2 C (n + 1) [] (.code c_laws_FnExactBestTurn_9 :: sk) e h R = (vc2 C n c_laws_FnExactBestTurn_o6 sk e h R) := nr rfl
@[simp, simp ↓] theorem c_laws_FnExactBestTurn_10_r : vc2 C (n + 1) [] (.code c_laws_FnExactBestTurn_10 :: sk) e h R = (vc2 C n c_laws_FnExactBestTurn_o7 sk e h R) := nr rfl
@[simp, simp ↓] theorem c_laws_FnExactBestTurn_11_r : vc2 C (n + 1) [] (.code c_laws_FnExactBestTurn_11 :: sk) e h R = (vc2 C n [] (.code c_laws_FnExactBestTurn_10 :: .code .ret :: sk) e h R) := nr rfl
@[simp, simp ↓] theorem c_laws_FnExactBestTurn_12_r : vc2 C (n + 1) [] (.code c_laws_FnExactBestTurn_12 :: sk) e h R = (condK (ev e (.t 23)) (vc2 C n [] (.code c_laws_FnExactBestTurn_11 :: sk) e h R) (vc2 C n [] (.code .skip :: sk) e h R)) := nr rfl
@[simp, simp ↓] theorem c_laws_FnExactBestTurn_13_r : vc2 C (n + 1) [] (.code c_laws_FnExactBestTurn_13 :: sk) e h R = (vc2 C n [] (.code c_laws_FnExactBestTurn_9 :: .code c_laws_FnExactBestTurn_12 :: sk) e h R) := nr rfl
@[simp, simp ↓] theorem c_laws_FnExactBestTurn_14_r : vc2 C (n + 1) [] (.code c_laws_FnExactBestTurn_14 :: sk) e h R = (vc2 C n c_laws_FnExactBestTurn_o8 sk e h R) := nr rfl
@[simp, simp ↓] theorem c_laws_FnExactBestTurn_15_r : vc2 C (n + 1) [] (.code c_laws_FnExactBestTurn_15 :: sk) e h R = (vc2 C n c_laws_FnExactBestTurn_o9 sk e h R) := nr rfl
@[simp, simp ↓] theorem c_laws_FnExactBestTurn_16_r : vc2 C (n + 1) [] (.code c_laws_FnExactBestTurn_16 :: sk) e h R = (vc2 C n c_laws_FnExactBestTurn_o10 sk e h R) := nr rfl
@[simp, simp ↓] theorem c_laws_FnExactBestTurn_17_r : vc2 C (n + 1) [] (.code c_laws_FnExactBestTurn_17 :: sk) e h R = (vc2 C n c_laws_FnExactBestTurn_o11 sk e h R) := nr rfl
@[simp, simp ↓] theorem c_laws_FnExactBestTurn_18_r : vc2 C (n + 1) [] (.code c_laws_FnExactBestTurn_18 :: sk) e h R = (vc2 C n c_laws_FnExactBestTurn_o12 sk e h R) := nr rfl
@[simp, simp ↓] theorem c_laws_FnExactBestTurn_19_r : vc2 C (n + 1) [] (.code c_laws_FnExactBestTurn_19 :: sk) e h R = (vc2 C n c_laws_FnExactBestTurn_o13 sk e h R) := nr rfl
@[simp, simp ↓] theorem c_laws_FnExactBestTurn_20_r : vc2 C (n + 1) [] (.code c_laws_FnExactBestTurn_20 :: sk) e h R = (vc2 C n [] (.code c_laws_FnExactBestTurn_19 :: .code .ret :: sk) e h R) := nr rfl
@[simp, simp ↓] theorem c_laws_FnExactBestTurn_21_r : vc2 C (n + 1) [] (.code c_laws_FnExactBestTurn_21 :: sk) e h R = (condK (ev e (.t 56)) (vc2 C n [] (.code c_laws_FnExactBestTurn_20 :: sk) e h R) (vc2 C n [] (.code .skip :: sk) e h R)) := nr rfl
@[simp, simp ↓] theorem c_laws_FnExactBestTurn_22_r : vc2 C (n + 1) [] (.code c_laws_FnExactBestTurn_22 :: sk) e h R = (vc2 C n [] (.code c_laws_FnExactBestTurn_18 :: .code c_laws_FnExactBestTurn_21 :: sk) e h R) := nr rfl
@[simp, simp ↓] theorem c_laws_FnExactBestTurn_23_r : vc2 C (n + 1) [] (.code c_laws_FnExactBestTurn_23 :: sk) e h R = (draw2 C h (vK C n [] sk R h) c_laws_FnExactBestTurn_o14 e) := nr rfl
@[simp, simp ↓] theorem c_laws_FnExactBestTurn_24_r : vc2 C (n + 1) [] (.code c_laws_FnExactBestTurn_24 :: sk) e h R = (vc2 C n c_laws_FnExactBestTurn_o15 sk e h R) := nr rfl
@[simp, simp ↓] theorem c_laws_FnExactBestTurn_25_r : vc2 C (n + 1) [] (.code c_laws_FnExactBestTurn_25 :: sk) e h R = (vc2 C n [] (.code c_laws_FnExactBestTurn_24 :: .code .ret :: sk) e h R) := nr rfl
@[simp, simp ↓] theorem c_laws_FnExactBestTurn_26_r : vc2 C (n + 1) [] (.code c_laws_FnExactBestTurn_26 :: sk) e h R = (condK (ev e (.t 61)) (vc2 C n [] (.code c_laws_FnExactBestTurn_25 :: sk) e h R) (vc2 C n [] (.code .skip :: sk) e h R)) := nr rfl
@[simp, simp ↓] theorem c_laws_FnExactBestTurn_27_r : vc2 C (n + 1) [] (.code c_laws_FnExactBestTurn_27 :: sk) e h R = (vc2 C n [] (.code c_laws_FnExactBestTurn_23 :: .code c_laws_FnExactBestTurn_26 :: sk) e h R) := nr rfl
@[simp, simp ↓] theorem c_laws_FnExactBestTurn_28_r : vc2 C (n + 1) [] (.code c_laws_FnExactBestTurn_28 :: sk) e h R = (vc2 C n c_laws_FnExactBestTurn_o16 sk e h R) := nr rfl
@[simp, simp ↓] theorem c_laws_FnExactBestTurn_29_r : vc2 C (n + 1) [] (.code c_laws_FnExactBestTurn_29 :: sk) e h R = (vc2 C n c_laws_FnExactBestTurn_o17 sk e h R) := nr rfl
@[simp, simp ↓] theorem c_laws_FnExactBestTurn_30_r : vc2 C (n + 1) [] (.code c_laws_FnExactBestTurn_30 :: sk) e h R = (vc2 C n [] (.code c_laws_FnExactBestTurn_29 :: .code .ret :: sk) e h R) := nr rfl
@[simp, simp ↓] theorem c_laws_FnExactBestTurn_31_r : vc2 C (n + 1) [] (.code c_laws_FnExactBestTurn_31 :: sk) e h R = (condK (ev e (.t 66)) (vc2 C n [] (.code c_laws_FnExactBestTurn_30 :: sk) e h R) (vc2 C n [] (.code .skip :: sk) e h R)) := nr rfl
@[simp, simp ↓] theorem c_laws_FnExactBestTurn_32_r : vc2 C (n + 1) [] (.code c_laws_FnExactBestTurn_32 :: sk) e h R = (vc2 C n [] (.code c_laws_FnExactBestTurn_28 :: .code c_laws_FnExactBestTurn_31 :: sk) e h R) := nr rfl
@[simp, simp ↓] theorem c_laws_FnExactBestTurn_33_r : vc2 C (n + 1) [] (.code c_laws_FnExactBestTurn_33 :: sk) e h R = (vc2 C n c_laws_FnExactBestTurn_o18 sk e h R) := nr rfl
@[simp, simp ↓] theorem c_laws_FnExactBestTurn_34_r : vc2 C (n + 1) [] (.code c_laws_FnExactBestTurn_34 :: sk) e h R = (vc2 C n [] (.code c_laws_FnExactBestTurn_33 :: .code .ret :: sk) e h R) := nr rfl
@[simp, simp ↓] theorem c_laws_FnExactBestTurn_35_r : vc2 C (n + 1) [] (.code c_laws_FnExactBestTurn_35 :: sk) e h R = (vc2 C n [] (.code c_laws_FnExactBestTurn_32 :: .code c_laws_FnExactBestTurn_34 :: sk) e h R) := nr rfl
@[simp, simp ↓] theorem c_laws_FnExactBestTurn_36_r : vc2 C (n + 1) [] (.code c_laws_FnExactBestTurn_36 :: sk) e h R = (vc2 C n [] (.code c_laws_FnExactBestTurn_27 :: .code c_laws_FnExactBestTurn_35 :: sk) e h R) := nr rfl
@[simp, simp ↓] theorem c_laws_FnExactBestTurn_37_r : vc2 C (n + 1) [] (.code c_laws_FnExactBestTurn_37 :: sk) e h R = (vc2 C n [] (.code c_laws_FnExactBestTurn_22 :: .code c_laws_FnExactBestTurn_36 :: sk) e h R) := nr rfl
@[simp, simp ↓] theorem c_laws_FnExactBestTurn_38_r : vc2 C (n + 1) [] (.code c_laws_FnExactBestTurn_38 :: sk) e h R = (vc2 C n [] (.code c_laws_FnExactBestTurn_17 :: .code c_laws_FnExactBestTurn_37 :: sk) e h R) := nr rfl
@[simp, simp ↓] theorem c_laws_FnExactBestTurn_39_r : vc2 C (n + 1) [] (.code c_laws_FnExactBestTurn_39 :: sk) e h R = (vc2 C n [] (.code c_laws_FnExactBestTurn_16 :: .code c_laws_FnExactBestTurn_38 :: sk) e h R) := nr rfl
@[simp, simp ↓] theorem c_laws_FnExactBestTurn_40_r : vc2 C (n + 1) [] (.code c_laws_FnExactBestTurn_40 :: sk) e h R = (vc2 C n [] (.code c_laws_FnExactBestTurn_15 :: .code c_laws_FnExactBestTurn_39 :: sk) e h R) := nr rfl
@[simp, simp ↓] theorem c_laws_FnExactBestTurn_41_r : vc2 C (n + 1) [] (.code c_laws_FnExactBestTurn_41 :: sk) e h R = (vc2 C n [] (.code c_laws_FnExactBestTurn_14 :: .code c_laws_FnExactBestTurn_40 :: sk) e h R) := nr rfl
@[simp, simp ↓] theorem c_laws_FnExactBestTurn_42_r : vc2 C (n + 1) [] (.code c_laws_FnExactBestTurn_42 :: sk) e h R = (vc2 C n [] (.code c_laws_FnExactBestTurn_13 :: .code c_laws_FnExactBestTurn_41 :: sk) e h R) := nr rfl
@[simp, simp ↓] theorem c_laws_FnExactBestTurn_43_r : vc2 C (n + 1) [] (.code c_laws_FnExactBestTurn_43 :: sk) e h R = (vc2 C n [] (.code c_laws_FnExactBestTurn_8 :: .code c_laws_FnExactBestTurn_42 :: sk) e h R) := nr rfl
@[simp, simp ↓] theorem c_laws_FnExactBestTurn_44_r : vc2 C (n + 1) [] (.code c_laws_FnExactBestTurn_44 :: sk) e h R = (vc2 C n [] (.code c_laws_FnExactBestTurn_7 :: .code c_laws_FnExactBestTurn_43 :: sk) e h R) := nr rfl
@[simp, simp ↓] theorem c_laws_FnExactBestTurn_45_r : vc2 C (n + 1) [] (.code c_laws_FnExactBestTurn_45 :: sk) e h R = (vc2 C n [] (.code c_laws_FnExactBestTurn_2 :: .code c_laws_FnExactBestTurn_44 :: sk) e h R) := nr rfl
@[simp, simp ↓] theorem c_laws_FnExactBestTurn_46_r : vc2 C (n + 1) [] (.code c_laws_FnExactBestTurn_46 :: sk) e h R = (vc2 C n [] (.code c_laws_FnExactBestTurn_1 :: .code c_laws_FnExactBestTurn_45 :: sk) e h R) := nr rfl
@[simp, simp ↓] theorem c_laws_FnExactBestTurn_47_r : vc2 C (n + 1) [] (.code c_laws_FnExactBestTurn_47 :: sk) e h R = (vc2 C n [] (.code c_laws_FnExactBestTurn_0 :: .code c_laws_FnExactBestTurn_46 :: sk) e h R) := nr rfl
end
noncomputable def c_laws_FnExactBestTurn_C (orc : Orc) : Cx := ⟨Try.prog, [9], 13, 67, [.tmp 4], orc⟩
@[simp] theorem c_laws_FnExactBestTurn_C_P (orc : Orc) : (c_laws_FnExactBestTurn_C orc).P = Try.prog := nr rfl
@[simp] theorem c_laws_FnExactBestTurn_C_o (orc : Orc) : (c_laws_FnExactBestTurn_C orc).orc = orc := nr rfl
@[simp] theorem c_laws_FnExactBestTurn_C_r (orc : Orc) : (c_laws_FnExactBestTurn_C orc).res = [.tmp 4] := nr rfl
theorem c_laws_FnExactBestTurn_of {args : List AV} {h : Heap} {R : AV → Heap → Prop} {k : Nat} (ha : args.length = k) {orc : Orc} (hp : Pure Try.prog orc) (hk : Is (c_laws_FnExactBestTurn_C orc) Try.f13 → Run2 (c_laws_FnExactBestTurn_C orc) [.code c_laws_FnExactBestTurn_47] (argEnv 0 args) h (Post R)) (hle : k ≤ 67 := by simp) : ACalls Try.prog 13 args h R :=
  contract2 [9] c_laws_FnExactBestTurn_47 [.tmp 4] Try.func13 (by decide +kernel) rfl (by kernel_rfl) (by rw [ha]; exact hle) (by kernel_rfl) hp hk
theorem c_laws_FnExactBestTurn_of0 {args : List AV} {h : Heap} {R : AV → Heap → Prop} {k : Nat} (ha : args.length = k) {orc : Orc} (hp : Pure Try.prog orc) (hk : Is (c_laws_FnExactBestTurn_C orc) Try.f13 → Run2 (c_laws_FnExactBestTurn_C orc) [.code c_laws_FnExactBestTurn_47] (argEnv 0 args) h R) (hle : k ≤ 67 := by simp) : ACalls Try.prog 13 args h R :=
  contract20 [9] c_laws_FnExactBestTurn_47 [.tmp 4] Try.func13 (by decide +kernel) rfl (by kernel_rfl) (by rw [ha]; exact hle) (by kernel_rfl) hp hk
theorem bt_law (x : Gr) (hx : x.wf) (r : LS) (hr : wfSS r) : ACalls Try.prog 13 [x.av, (.snap 1 (r.map il))] [] (fun v h' => v = .bool true ∧ h' = []) := by
  refine c_laws_FnExactBestTurn_of rfl orcM_p fun I => ?_
  have hx2_x := hx.2
  have hx2_r := hr
  refine Run2.of I 1000 ?_
  by_cases kx : (x.ts.length : Int) ≤ (1048576 : Int)
  · have hAx : ¬ (1048576 : Int) < x.ts.length := by omega
    have hBx : ¬ (1048576 : Int) - x.ts.length < 0 := by omega
    have hCx : (0 : Int) ≤ (1048576 : Int) - x.ts.length := by omega
    have lx : x.ts.length ≤ 1048576 := by omega
    have hDx : (1048576 : Int) - x.ts.length ≤ 1048576 := by omega
    by_cases kr : ((ssTot r) : Int) ≤ ((1048576 : Int) - x.ts.length)
    · have hAr : ¬ ((1048576 : Int) - x.ts.length) < (ssTot r) := by omega
      have hBr : ¬ ((1048576 : Int) - x.ts.length) - (ssTot r) < 0 := by omega
      have hCr : (0 : Int) ≤ ((1048576 : Int) - x.ts.length) - (ssTot r) := by omega
      have lr : (ssTot r) ≤ 1048576 := by omega
      have hDr : ((1048576 : Int) - x.ts.length) - (ssTot r) ≤ 1048576 := by omega
      have hsr := (show sumL r ≤ ssTot r by unfold ssTot; omega)
      simp -implicitDefEqProofs [hx2_x, hx2_r, hAx, hBx, hCx, hDx, kx, hAr, hBr, hCr, hDr, kr]
      first | refine dcallK (toGraph_c x _ lx) ?_ | (refine (toGraph_c x _ lx).mono ?_; rintro v h' ⟨rfl, rfl⟩; refine gK.go ?_)
      simp -implicitDefEqProofs
      first | refine dcallK (toInt64SS_t r _ lr) ?_ | (refine (toInt64SS_t r _ lr).mono ?_; rintro v h' ⟨rfl, rfl⟩; refine gK.go ?_)
      simp -implicitDefEqProofs
      first | refine dcallK (specBT_c x r _ lx hx.1 lr) ?_ | (refine (specBT_c x r _ lx hx.1 lr).mono ?_; rintro v h' ⟨rfl, rfl⟩; refine gK.go ?_)
      simp -implicitDefEqProofs
      refine (toGraph_o x _ lx).monoN ?_
      rintro v0 h' ⟨g0, o0, d0, rfl⟩ n0
      obtain ⟨u0, rfl, ou0⟩ := id o0
      have c0 := ou0.cell
      refine gK.go ?_
      simp -implicitDefEqProofs [c0]
      refine (toInt64SS_n r _ lr).monoN ?_
      rintro v1 h' ⟨g1, o1, d1, rfl⟩ n1
      refine gK.go ?_
      simp -implicitDefEqProofs [c0]
      skip
      have L0 := o0.lentIn (L := (g1 ++ g0)) (fun p hp => List.mem_append_right _ (hp)) n1
      have L1 := o1.lentMid (A := []) (B := g0) (by simpa only [List.nil_append, List.append_nil, List.append_assoc] using n1)
      first | refine dcallK (ACalls.reads (g1 ++ g0) (fun p hp => hp) (v0 := .tup [.int .i64 (x.bt1 r), .int .i64 (x.bt2 r), .int .i64 (x.gCode2 r)]) ?_ rfl) ?_ | (refine (ACalls.reads (g1 ++ g0) (fun p hp => hp) (v0 := .tup [.int .i64 (x.bt1 r), .int .i64 (x.bt2 r), .int .i64 (x.gCode2 r)]) ?_ rfl).mono ?_)
      · rw [lend_cons, lend_cons, lend_nil']
        exact ACalls.wk (.cons L0.wk (.cons L1.wk .nil)) ((implBT_c x r [] lx hx.1 lr))
      try (rintro v h' ⟨rfl, rfl⟩; refine gK.go ?_)
      simp -implicitDefEqProofs [c0]
      first | refine dcallK (toGraph_c x _ lx) ?_ | (refine (toGraph_c x _ lx).mono ?_; rintro v h' ⟨rfl, rfl⟩; refine gK.go ?_)
      simp -implicitDefEqProofs [c0]
      first | refine dcallK (eqG_own o0 x.is (fun p hp => List.mem_append_right _ (hp)) lx) ?_ | (refine (eqG_own o0 x.is (fun p hp => List.mem_append_right _ (hp)) lx).mono ?_; rintro v h' ⟨rfl, rfl⟩; refine gK.go ?_)
      simp -implicitDefEqProofs [c0]
      first | refine dcallK (toInt64SS_t r _ lr) ?_ | (refine (toInt64SS_t r _ lr).mono ?_; rintro v h' ⟨rfl, rfl⟩; refine gK.go ?_)
      simp -implicitDefEqProofs [c0]
      first | refine dcallK (eqL_own o1 (.is r) (fun p hp => List.mem_append_left _ hp) lr) ?_ | (refine (eqL_own o1 (.is r) (fun p hp => List.mem_append_left _ hp) lr).mono ?_; rintro v h' ⟨rfl, rfl⟩; refine gK.go ?_)
      simp -implicitDefEqProofs [c0]
      exact Post.none ⟨rfl, rfl⟩
    · have hAr : ((1048576 : Int) - x.ts.length) < (ssTot r) := by omega
      simp -implicitDefEqProofs [hx2_x, hx2_r, hAx, hBx, hCx, hDx, kx, hAr]
      exact .base ⟨rfl, rfl⟩
  · have hAx : (1048576 : Int) < x.ts.length := by omega
    simp -implicitDefEqProofs [hx2_x, hx2_r, hAx]
    exact .base ⟨rfl, rfl⟩
end Go.AG
namespace Go.Proofs.Ytlncpnefkpfojaa
open Go.ChangeShapes Go.WideShapes Go.ChangeAt Go.RowKit Go.AG
theorem own : ownKnob Try.prog.godebug = none := by kernel_rfl
theorem laidOut : laidOutB Try.prog = true := by kernel_rfl
set_option maxRecDepth 100000 in
theorem fnExactBestTurn_lifted (os : Os) (started : os.Started) (H : Type) (enc : TypeId × Value → H) :
    ReturnsInHanded {} Try.checked os 13 .any (Rows.fnExactBestTurnSpec.pre6 enc Try.prog Try.f13 Rows.fnExactBestTurnRow.domain false) (Rows.fnExactBestTurnSpec.post enc Try.prog Try.f13 false true false false) := by
  refine returnsInHanded_of_change (C := Try.checked) own started (by kernel_rfl) Try.func13
    (ChangeSpec.witness6 (enc := enc) (C := Try.checked) false ⟨#[], #[.agg #[.int .i64 0, .slice none 0 0], .slice none 0 0], []⟩ 8 (by kernel_rfl) (by kernel_rfl) (by kernel_rfl) (by kernel_rfl)) ?_
  intro W base args ds gs before hval0 hW _ _
  have hval : ∀ (j : Nat) t v, Try.f13.params[j]? = some t → args[j]? = some v → Value.okWide Try.prog W .any base t v := hval0
  refine law_post (tys := [tyG, tySS]) (tb := 4) laidOut rfl (by kernel_rfl) (by kernel_rfl) (by kernel_rfl) (by kernel_rfl) hval hW ?_ ?_
  · intro ds h
    match ds, h with
    | [a0, a1], _ => rfl
  · rintro xs ⟨x0, r0, rfl, h0, x1, r1, rfl, h1, hr⟩
    have hr0 : r1 = [] := hr
    subst hr0
    obtain ⟨p0, rfl, q0⟩ := Gr_of_shape h0
    obtain ⟨p1, rfl, q1⟩ := Lists_of_shape h1
    exact bt_law p0 q0 p1 q1
theorem fnExactBestTurn_holds : Rows.FnExactBestTurnSaid :=
  OpenClaim.holds_of_wide 13 Try.f13 rfl rfl rfl rfl rfl rfl rfl ⟨rfl, rfl, rfl, rfl, rfl⟩ rfl rfl rfl rfl rfl (by kernel_rfl) Try.func13 (by kernel_rfl)
    (of_decide_eq_true (by kernel_rfl)) (by unfold Func.isWrapper; first | (rw [if_pos (by decide +kernel)]; kernel_rfl) | (rw [if_neg (by decide +kernel)]; exact ⟨rfl, rfl⟩))
    (fun os started H enc _ => fnExactBestTurn_lifted os started H enc)
end Go.Proofs.Ytlncpnefkpfojaa
