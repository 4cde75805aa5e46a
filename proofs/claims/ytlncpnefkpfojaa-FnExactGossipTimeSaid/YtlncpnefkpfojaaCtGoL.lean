/- The law FnExactGossipTime is true for every input: the program's GossipTime returns what the reference's returns. -/
import Derived.Test.YtlncpnefkpfojaaCtGoT
import Derived.Test.YtlncpnefkpfojaaGrM
namespace Go.AG
open Go.Proofs Go.Proofs.Ytlncpnefkpfojaa
set_option linter.unusedSimpArgs false
set_option linter.unusedVariables false
set_option maxRecDepth 4000
noncomputable def orcM : List (Nat × (List AV → Option (Prop × AV))) := (15, o_szGraph) :: (28, o_szInt64SS) :: []
theorem orcM_p : Pure Try.prog (lk orcM) := (lk_pure o_szGraph_k (lk_pure o_szInt64SS_k lk_pure0))
@[simp] theorem orcM_l (g : FuncId) (l : List AV) : lk orcM g l = if g = 15 then o_szGraph l else if g = 28 then o_szInt64SS l else none := nr rfl
abbrev c_laws_FnExactGossipTime_o0 : List AJ := [.o ⟨(some 2), none, false, .box false 2 (.t 0), none⟩, .o ⟨(some 4), none, false, .mv (.c (.bool false)), (some [1, 2])⟩]
def c_laws_FnExactGossipTime_0 : ACode := .region c_laws_FnExactGossipTime_o0
abbrev c_laws_FnExactGossipTime_o1 : List AJ := [.o ⟨(some 5), none, false, .mv (.c (.int .i64 1048576)), (some [1, 2, 5])⟩]
def c_laws_FnExactGossipTime_1 : ACode := .region c_laws_FnExactGossipTime_o1
abbrev c_laws_FnExactGossipTime_o2 : List AJ := [.o ⟨(some 12), none, false, .load 2 true (.t 2), none⟩, .o ⟨(some 13), none, false, .mv (.t 5), none⟩, .o ⟨(some 14), none, false, .call 15 [(.t 12), (.t 13)], none⟩, .o ⟨(some 5), none, false, .mv (.t 14), (some [1, 2, 5])⟩]
def c_laws_FnExactGossipTime_2 : ACode := .region c_laws_FnExactGossipTime_o2
abbrev c_laws_FnExactGossipTime_o3 : List AJ := [.o ⟨(some 15), none, false, .mv (.t 5), none⟩, .o ⟨(some 16), none, false, .bin .lss (.t 15) (.c (.int .i64 0)), (some [1, 2, 5, 16])⟩]
def c_laws_FnExactGossipTime_3 : ACode := .region c_laws_FnExactGossipTime_o3
abbrev c_laws_FnExactGossipTime_o4 : List AJ := [.o ⟨(some 4), none, false, .mv (.c (.bool true)), (some [4])⟩]
def c_laws_FnExactGossipTime_4 : ACode := .region c_laws_FnExactGossipTime_o4
def c_laws_FnExactGossipTime_5 : ACode := .seq c_laws_FnExactGossipTime_4 .ret
def c_laws_FnExactGossipTime_6 : ACode := .cond (.t 16) c_laws_FnExactGossipTime_5 .skip
def c_laws_FnExactGossipTime_7 : ACode := .seq c_laws_FnExactGossipTime_3 c_laws_FnExactGossipTime_6
abbrev c_laws_FnExactGossipTime_o5 : List AJ := [.o ⟨(some 17), none, false, .mv (.t 1), none⟩, .o ⟨(some 18), none, false, .mv (.t 5), none⟩, .o ⟨(some 19), none, false, .call 28 [(.t 17), (.t 18)], none⟩, .o ⟨(some 5), none, false, .mv (.t 19), (some [1, 2, 5])⟩]
def c_laws_FnExactGossipTime_8 : ACode := .region c_laws_FnExactGossipTime_o5
abbrev c_laws_FnExactGossipTime_o6 : List AJ := [.o ⟨(some 20), none, false, .mv (.t 5), none⟩, .o ⟨(some 21), none, false, .bin .lss (.t 20) (.c (.int .i64 0)), (some [1, 2, 21])⟩]
def c_laws_FnExactGossipTime_9 : ACode := .region c_laws_FnExactGossipTime_o6
abbrev c_laws_FnExactGossipTime_o7 : List AJ := [.o ⟨(some 4), none, false, .mv (.c (.bool true)), (some [4])⟩]
def c_laws_FnExactGossipTime_10 : ACode := .region c_laws_FnExactGossipTime_o7
def c_laws_FnExactGossipTime_11 : ACode := .seq c_laws_FnExactGossipTime_10 .ret
def c_laws_FnExactGossipTime_12 : ACode := .cond (.t 21) c_laws_FnExactGossipTime_11 .skip
def c_laws_FnExactGossipTime_13 : ACode := .seq c_laws_FnExactGossipTime_9 c_laws_FnExactGossipTime_12
abbrev c_laws_FnExactGossipTime_o8 : List AJ := [.o ⟨(some 23), none, false, .load 2 true (.t 2), none⟩, .o ⟨(some 24), none, false, .call 17 [(.t 23)], none⟩, .o ⟨(some 25), none, false, .mv (.t 1), none⟩, .o ⟨(some 26), none, false, .call 30 [(.t 25)], none⟩, .o ⟨(some 27), none, false, .call 46 [(.t 24), (.t 26)], none⟩, .o ⟨(some 22), none, false, .mv (.t 27), none⟩, .o ⟨(some 28), none, false, .extract (.t 22) 0, none⟩, .o ⟨(some 29), none, false, .extract (.t 22) 1, none⟩, .o ⟨(some 6), none, false, .mv (.t 28), none⟩, .o ⟨(some 7), none, false, .mv (.t 29), (some [1, 2, 6, 7])⟩]
def c_laws_FnExactGossipTime_14 : ACode := .region c_laws_FnExactGossipTime_o8
abbrev c_laws_FnExactGossipTime_o9 : List AJ := [.o ⟨(some 30), none, false, .load 2 true (.t 2), none⟩, .o ⟨(some 31), none, false, .call 17 [(.t 30)], none⟩, .v 8 2 (.agg [(.int .i64 0), .nilsl]) [] (.t 31) (some [1, 2, 6, 7, 8])]
def c_laws_FnExactGossipTime_15 : ACode := .region c_laws_FnExactGossipTime_o9
abbrev c_laws_FnExactGossipTime_o10 : List AJ := [.o ⟨(some 32), none, false, .mv (.t 1), none⟩, .o ⟨(some 33), none, false, .call 30 [(.t 32)], none⟩, .o ⟨(some 9), none, false, .mv (.t 33), (some [1, 2, 6, 7, 8, 9])⟩]
def c_laws_FnExactGossipTime_16 : ACode := .region c_laws_FnExactGossipTime_o10
abbrev c_laws_FnExactGossipTime_o11 : List AJ := [.o ⟨(some 35), none, false, .load 2 true (.t 8), none⟩, .o ⟨(some 36), none, false, .mv (.t 9), none⟩, .o ⟨(some 37), none, false, .call 47 [(.t 35), (.t 36)], none⟩, .o ⟨(some 34), none, false, .mv (.t 37), none⟩, .o ⟨(some 38), none, false, .extract (.t 34) 0, none⟩, .o ⟨(some 39), none, false, .extract (.t 34) 1, none⟩, .o ⟨(some 10), none, false, .mv (.t 38), none⟩, .o ⟨(some 11), none, false, .mv (.t 39), (some [1, 2, 6, 7, 8, 9, 10, 11])⟩]
def c_laws_FnExactGossipTime_17 : ACode := .region c_laws_FnExactGossipTime_o11
abbrev c_laws_FnExactGossipTime_o12 : List AJ := [.o ⟨(some 40), none, false, .mv (.t 10), none⟩, .o ⟨(some 41), none, false, .mv (.t 6), none⟩, .o ⟨(some 42), none, false, .bin .neq (.t 40) (.t 41), none⟩, .o ⟨(some 43), none, false, .mv (.t 42), none⟩, .o ⟨(some 44), (some (43, false)), false, .mv (.t 11), none⟩, .o ⟨(some 45), (some (43, false)), false, .mv (.t 7), none⟩, .o ⟨(some 46), (some (43, false)), false, .bin .neq (.t 44) (.t 45), none⟩, .o ⟨(some 47), none, false, .pick (.t 43) (.c (.bool true)) (.t 46), (some [1, 2, 8, 9, 47])⟩]
def c_laws_FnExactGossipTime_18 : ACode := .region c_laws_FnExactGossipTime_o12
abbrev c_laws_FnExactGossipTime_o13 : List AJ := [.o ⟨(some 4), none, false, .mv (.c (.bool false)), (some [4])⟩]
def c_laws_FnExactGossipTime_19 : ACode := .region c_laws_FnExactGossipTime_o13
def c_laws_FnExactGossipTime_20 : ACode := .seq c_laws_FnExactGossipTime_19 .ret
def c_laws_FnExactGossipTime_21 : ACode := .cond (.t 47) c_laws_FnExactGossipTime_20 .skip
def c_laws_FnExactGossipTime_22 : ACode := .seq c_laws_FnExactGossipTime_18 c_laws_FnExactGossipTime_21
abbrev c_laws_FnExactGossipTime_o14 : List AI := [⟨(some 48), none, false, .load 2 true (.t 8), none⟩, ⟨(some 49), none, false, .load 2 true (.t 2), none⟩, ⟨(some 50), none, false, .call 17 [(.t 49)], none⟩, ⟨(some 51), none, false, .call 19 [(.t 48), (.t 50)], none⟩, ⟨(some 52), none, false, .un .not (.t 51), (some [1, 9, 52])⟩]
def c_laws_FnExactGossipTime_23 : ACode := .draw c_laws_FnExactGossipTime_o14 [] rfl
abbrev c_laws_FnExactGossipTime_o15 : List AJ := [.o ⟨(some 4), none, false, .mv (.c (.bool false)), (some [4])⟩]
def c_laws_FnExactGossipTime_24 : ACode := .region c_laws_FnExactGossipTime_o15
def c_laws_FnExactGossipTime_25 : ACode := .seq c_laws_FnExactGossipTime_24 .ret
def c_laws_FnExactGossipTime_26 : ACode := .cond (.t 52) c_laws_FnExactGossipTime_25 .skip
def c_laws_FnExactGossipTime_27 : ACode := .seq c_laws_FnExactGossipTime_23 c_laws_FnExactGossipTime_26
abbrev c_laws_FnExactGossipTime_o16 : List AJ := [.o ⟨(some 53), none, false, .mv (.t 9), none⟩, .o ⟨(some 54), none, false, .mv (.t 1), none⟩, .o ⟨(some 55), none, false, .call 30 [(.t 54)], none⟩, .o ⟨(some 56), none, false, .call 22 [(.t 53), (.t 55)], none⟩, .o ⟨(some 57), none, false, .un .not (.t 56), (some [57])⟩]
def c_laws_FnExactGossipTime_28 : ACode := .region c_laws_FnExactGossipTime_o16
abbrev c_laws_FnExactGossipTime_o17 : List AJ := [.o ⟨(some 4), none, false, .mv (.c (.bool false)), (some [4])⟩]
def c_laws_FnExactGossipTime_29 : ACode := .region c_laws_FnExactGossipTime_o17
def c_laws_FnExactGossipTime_30 : ACode := .seq c_laws_FnExactGossipTime_29 .ret
def c_laws_FnExactGossipTime_31 : ACode := .cond (.t 57) c_laws_FnExactGossipTime_30 .skip
def c_laws_FnExactGossipTime_32 : ACode := .seq c_laws_FnExactGossipTime_28 c_laws_FnExactGossipTime_31
abbrev c_laws_FnExactGossipTime_o18 : List AJ := [.o ⟨(some 4), none, false, .mv (.c (.bool true)), (some [4])⟩]
def c_laws_FnExactGossipTime_33 : ACode := .region c_laws_FnExactGossipTime_o18
def c_laws_FnExactGossipTime_34 : ACode := .seq c_laws_FnExactGossipTime_33 .ret
def c_laws_FnExactGossipTime_35 : ACode := .seq c_laws_FnExactGossipTime_32 c_laws_FnExactGossipTime_34
def c_laws_FnExactGossipTime_36 : ACode := .seq c_laws_FnExactGossipTime_27 c_laws_FnExactGossipTime_35
def c_laws_FnExactGossipTime_37 : ACode := .seq c_laws_FnExactGossipTime_22 c_laws_FnExactGossipTime_36
def c_laws_FnExactGossipTime_38 : ACode := .seq c_laws_FnExactGossipTime_17 c_laws_FnExactGossipTime_37
def c_laws_FnExactGossipTime_39 : ACode := .seq c_laws_FnExactGossipTime_16 c_laws_FnExactGossipTime_38
def c_laws_FnExactGossipTime_40 : ACode := .seq c_laws_FnExactGossipTime_15 c_laws_FnExactGossipTime_39
def c_laws_FnExactGossipTime_41 : ACode := .seq c_laws_FnExactGossipTime_14 c_laws_FnExactGossipTime_40
def c_laws_FnExactGossipTime_42 : ACode := .seq c_laws_FnExactGossipTime_13 c_laws_FnExactGossipTime_41
def c_laws_FnExactGossipTime_43 : ACode := .seq c_laws_FnExactGossipTime_8 c_laws_FnExactGossipTime_42
def c_laws_FnExactGossipTime_44 : ACode := .seq c_laws_FnExactGossipTime_7 c_laws_FnExactGossipTime_43
def c_laws_FnExactGossipTime_45 : ACode := .seq c_laws_FnExactGossipTime_2 c_laws_FnExactGossipTime_44
def c_laws_FnExactGossipTime_46 : ACode := .seq c_laws_FnExactGossipTime_1 c_laws_FnExactGossipTime_45
def c_laws_FnExactGossipTime_47 : ACode := .seq c_laws_FnExactGossipTime_0 c_laws_FnExactGossipTime_46
section
variable (C : Cx) (n : Nat) (sk : List AItem) (e : Env) (h : Heap) (R : AV → Heap → Prop)
@[simp, simp ↓] theorem c_laws_FnExactGossipTime_0_r : vc2 C (n + 1) [] (.code c_laws_FnExactGossipTime_0 :: sk) e h R = (vc2 C n c_laws_FnExactGossipTime_o0 sk e h R) := nr rfl
@[simp, simp ↓] theorem c_laws_FnExactGossipTime_1_r : vc2 C (n + 1) [] (.code c_laws_FnExactGossipTime_1 :: sk) e h R = (vc2 C n c_laws_FnExactGossipTime_o1 sk e h R) := nr rfl
@[simp, simp ↓] theorem c_laws_FnExactGossipTime_2_r : vc2 C (n + 1) [] (.code c_laws_FnExactGossipTime_2 :: sk) e h R = (vc2 C n c_laws_FnExactGossipTime_o2 sk e h R) := nr rfl
@[simp, simp ↓] theorem c_laws_FnExactGossipTime_3_r : vc2 C (n + 1) [] (.code c_laws_FnExactGossipTime_3 :: sk) e h R = (vc2 C n c_laws_FnExactGossipTime_o3 sk e h R) := nr rfl
@[simp, simp ↓] theorem c_laws_FnExactGossipTime_4_r : vc2 C (n + 1) [] (.code c_laws_FnExactGossipTime_4 :: sk) e h R = (vc2 C n c_laws_FnExactGossipTime_o4 sk e h R) := nr rfl
@[simp, simp ↓] theorem c_laws_FnExactGossipTime_5_r : vc2 C (n + 1) [] (.code c_laws_FnExactGossipTime_5 :: sk) e h R = (vc2 C n [] (.code c_laws_FnExactGossipTime_4 :: .code .ret :: sk) e h R) := nr rfl
@[simp, simp ↓] theorem c_laws_FnExactGossipTime_6_r : vc2 C (n + 1) [] (.code c_laws_FnExactGossipTime_6 :: sk) e h R = (condK (ev e (.t 16)) (vc2 C n [] (.code c_laws_FnExactGossipTime_5 :: sk) e h R) (vc2 C n [] (.code .skip :: sk) e h R)) := nr rfl
@[simp, simp ↓] theorem c_laws_FnExactGossipTime_7_r : vc2 C (n + 1) [] (.code c_laws_FnExactGossipTime_7 :: sk) e h R = (vc2 C n [] (.code c_laws_FnExactGossipTime_3 :: .code c_laws_FnExactGossipTime_6 :: sk) e h R) := nr rfl
@[simp, simp ↓] theorem c_laws_FnExactGossipTime_8_r : vc2 C (n + 1) [] (.code c_laws_FnExactGossipTime_8 :: sk) e h R = (vc2 C n c_laws_FnExactGossipTime_o5 sk e h R) := nr rfl
@[simp, simp ↓] theorem c_laws_FnExactGossipTime_9_r : vc2 C (n + 1) [] (.code c_laws_FnExactGossipTime_9 :: sk) e h R = (vc2 C n c_laws_FnExactGossipTime_o6 sk e h R) := nr rfl
@[simp, simp ↓] theorem c_laws_FnExactGossipTime_10_r : vc2 C (n + 1) [] (.code c_laws_FnExactGossipTime_10 :: sk) e h R = (vc2 C n c_laws_FnExactGossipTime_o7 sk e h R) := nr rfl
@[simp, simp ↓] theorem c_laws_FnExactGossipTime_11_r : vc2 C (n + 1) [] (.code c_laws_FnExactGossipTime_11 :: sk) e h R = (vc2 C n [] (.code c_laws_FnExactGossipTime_10 :: .code .ret :: sk) e h R) := nr rfl
@[simp, simp ↓] theorem c_laws_FnExactGossipTime_12_r : vc2 C (n + 1) [] (.code c_laws_FnExactGossipTime_12 :: sk) e h R = (condK (ev e (.t 21)) (vc2 C n [] (.code c_laws_FnExactGossipTime_11 :: sk) e h R) (vc2 C n [] (.code .skip :: sk) e h R)) := nr rfl
@[simp, simp ↓] theorem c_laws_FnExactGossipTime_13_r : vc2 C (n + 1) [] (.code c_laws_FnExactGossipTime_13 :: sk) e h R = (vc2 C n [] (.code c_laws_FnExactGossipTime_9 :: .code c_laws_FnExactGossipTime_12 :: sk) e h R) := nr rfl
@[simp, simp ↓] theorem c_laws_FnExactGossipTime_14_r : vc2 C (n + 1) [] (.code c_laws_FnExactGossipTime_14 :: sk) e h R = (vc2 C n c_laws_FnExactGossipTime_o8 sk e h R) := nr rfl
@[simp, simp ↓] theorem c_laws_FnExactGossipTime_15_r : vc2 C (n + 1) [] (.code c_laws_FnExactGossipTime_15 :: sk) e h R = (vc2 C n c_laws_FnExactGossipTime_o9 sk e h R) := nr rfl
@[simp, simp ↓] theorem c_laws_FnExactGossipTime_16_r : vc2 C (n + 1) [] (.code c_laws_FnExactGossipTime_16 :: sk) e h R = (vc2 C n c_laws_FnExactGossipTime_o10 sk e h R) := nr rfl
@[simp, simp ↓] theorem c_laws_FnExactGossipTime_17_r : vc2 C (n + 1) [] (.code c_laws_FnExactGossipTime_17 :: sk) e h R = (vc2 C n c_laws_FnExactGossipTime_o11 sk e h R) := nr rfl
@[simp, simp ↓] theorem c_laws_FnExactGossipTime_18_r : vc2 C (n + 1) [] (.code c_laws_FnExactGossipTime_18 :: sk) e h R = (vc2 C n c_laws_FnExactGossipTime_o12 sk e h R) := nr rfl
@[simp, simp ↓] theorem c_laws_FnExactGossipTime_19_r : vc2 C (n + 1) [] (.code c_laws_FnExactGossipTime_19 :: sk) e h R = (vc2 C n c_laws_FnExactGossipTime_o13 sk e h R) := nr rfl
@[simp, simp ↓] theorem c_laws_FnExactGossipTime_20_r : vc2 C (n + 1) [] (.code c_laws_FnExactGossipTime_20 :: sk) e h R = (vc2 C n [] (.code c_laws_FnExactGossipTime_19 :: .code .ret :: sk) e h R) := nr rfl
@[simp, simp ↓] theorem c_laws_FnExactGossipTime_21_r : vc2 C (n + 1) [] (.code c_laws_FnExactGossipTime_21 :: sk) e h R = (condK (ev e (.t 47)) (vc2 C n [] (.code c_laws_FnExactGossipTime_20 :: sk) e h R) (vc2 C n [] (.code .skip :: sk) e h R)) := nr rfl
@[simp, simp ↓] theorem c_laws_FnExactGossipTime_22_r : vc2 C (n + 1) [] (.code c_laws_FnExactGossipTime_22 :: sk) e h R = (vc2 C n [] (.code c_laws_FnExactGossipTime_18 :: .code c_laws_FnExactGossipTime_21 :: sk) e h R) := nr rfl
@[simp, simp ↓] theorem c_laws_FnExactGossipTime_23_r : vc2 C (n + 1) [] (.code c_laws_FnExactGossipTime_23 :: sk) e h R = (draw2 C h (vK C n [] sk R h) c_laws_FnExactGossipTime_o14 e) := nr rfl
@[simp, simp ↓] theorem c_laws_FnExactGossipTime_24_r : vc2 C (n + 1) [] (.code c_laws_FnExactGossipTime_24 :: sk) e h R = (vc2 C n c_laws_FnExactGossipTime_o15 sk e h R) := nr rfl
@[simp, simp ↓] theorem c_laws_FnExactGossipTime_25_r : vc2 C (n + 1) [] (.code c_laws_FnExactGossipTime_25 :: sk) e h R = (vc2 C n [] (.code c_laws_FnExactGossipTime_24 :: .code .ret :: sk) e h R) := nr rfl
@[simp, simp ↓] theorem c_laws_FnExactGossipTime_26_r : vc2 C (n + 1) [] (.code c_laws_FnExactGossipTime_26 :: sk) e h R = (condK (ev e (.t 52)) (vc2 C n [] (.code c_laws_FnExactGossipTime_25 :: sk) e h R) (vc2 C n [] (.code .skip :: sk) e h R)) := nr rfl
@[simp, simp ↓] theorem c_laws_FnExactGossipTime_27_r : vc2 C (n + 1) [] (.code c_laws_FnExactGossipTime_27 :: sk) e h R = (vc2 C n [] (.code c_laws_FnExactGossipTime_23 :: .code c_laws_FnExactGossipTime_26 :: sk) e h R) := nr rfl
@[simp, simp ↓] theorem c_laws_FnExactGossipTime_28_r : vc2 C (n + 1) [] (.code c_laws_FnExactGossipTime_28 :: sk) e h R = (vc2 C n c_laws_FnExactGossipTime_o16 sk e h R) := nr rfl
@[simp, simp ↓] theorem c_laws_FnExactGossipTime_29_r : vc2 C (n + 1) [] (.code c_laws_FnExactGossipTime_29 :: sk) e h R = (vc2 C n c_laws_FnExactGossipTime_o17 sk e h R) := nr rfl
@[simp, simp ↓] theorem c_laws_FnExactGossipTime_30_r : vc2 C (n + 1) [] (.code c_laws_FnExactGossipTime_30 :: sk) e h R = (vc2 C n [] (.code c_laws_FnExactGossipTime_29 :: .code .ret :: sk) e h R) := nr rfl
@[simp, simp ↓] theorem c_laws_FnExactGossipTime_31_r : vc2 C (n + 1) [] (.code c_laws_FnExactGossipTime_31 :: sk) e h R = (condK (ev e (.t 57)) (vc2 C n [] (.code c_laws_FnExactGossipTime_30 :: sk) e h R) (vc2 C n [] (.code .skip :: sk) e h R)) := nr rfl
@[simp, simp ↓] theorem c_laws_FnExactGossipTime_32_r : vc2 C (n + 1) [] (.code c_laws_FnExactGossipTime_32 :: sk) e h R = (vc2 C n [] (.code c_laws_FnExactGossipTime_28 :: .code c_laws_FnExactGossipTime_31 :: sk) e h R) := nr rfl
@[simp, simp ↓] theorem c_laws_FnExactGossipTime_33_r : vc2 C (n + 1) [] (.code c_laws_FnExactGossipTime_33 :: sk) e h R = (vc2 C n c_laws_FnExactGossipTime_o18 sk e h R) := nr rfl
@[simp, simp ↓] theorem c_laws_FnExactGossipTime_34_r : vc2 C (n + 1) [] (.code c_laws_FnExactGossipTime_34 :: sk) e h R = (vc2 C n [] (.code c_laws_FnExactGossipTime_33 :: .code .ret :: sk) e h R) := nr rfl
@[simp, simp ↓] theorem c_laws_FnExactGossipTime_35_r : vc2 C (n + 1) [] (.code c_laws_FnExactGossipTime_35 :: sk) e h R = (vc2 C n [] (.code c_laws_FnExactGossipTime_32 :: .code c_laws_FnExactGossipTime_34 :: sk) e h R) := nr rfl
@[simp, simp ↓] theorem c_laws_FnExactGossipTime_36_r : vc2 C (n + 1) [] (.code c_laws_FnExactGossipTime_36 :: sk) e h R = (vc2 C n [] (.code c_laws_FnExactGossipTime_27 :: .code c_laws_FnExactGossipTime_35 :: sk) e h R) := nr rfl
@[simp, simp ↓] theorem c_laws_FnExactGossipTime_37_r : vc2 C (n + 1) [] (.code c_laws_FnExactGossipTime_37 :: sk) e h R = (vc2 C n [] (.code c_laws_FnExactGossipTime_22 :: .code c_laws_FnExactGossipTime_36 :: sk) e h R) := nr rfl
@[simp, simp ↓] theorem c_laws_FnExactGossipTime_38_r : vc2 C (n + 1) [] (.code c_laws_FnExactGossipTime_38 :: sk) e h R = (vc2 C n [] (.code c_laws_FnExactGossipTime_17 :: .code c_laws_FnExactGossipTime_37 :: sk) e h R) := nr rfl
@[simp, simp ↓] theorem c_laws_FnExactGossipTime_39_r : vc2 C (n + 1) [] (.code c_laws_FnExactGossipTime_39 :: sk) e h R = (vc2 C n [] (.code c_laws_FnExactGossipTime_16 :: .code c_laws_FnExactGossipTime_38 :: sk) e h R) := nr rfl
@[simp, simp ↓] theorem c_laws_FnExactGossipTime_40_r : vc2 C (n + 1) [] (.code c_laws_FnExactGossipTime_40 :: sk) e h R = (vc2 C n [] (.code c_laws_FnExactGossipTime_15 :: .code c_laws_FnExactGossipTime_39 :: sk) e h R) := nr rfl
@[simp, simp ↓] theorem c_laws_FnExactGossipTime_41_r : vc2 C (n + 1) [] (.code c_laws_FnExactGossipTime_41 :: sk) e h R = (vc2 C n [] (.code c_laws_FnExactGossipTime_14 :: .code c_laws_FnExactGossipTime_40 :: sk) e h R) := nr rfl
@[simp, simp ↓] theorem c_laws_FnExactGossipTime_42_r : vc2 C (n + 1) [] (.code c_laws_FnExactGossipTime_42 :: sk) e h R = (vc2 C n [] (.code c_laws_FnExactGossipTime_13 :: .code c_laws_FnExactGossipTime_41 :: sk) e h R) := nr rfl
@[simp, simp ↓] theorem c_laws_FnExactGossipTime_43_r : vc2 C (n + 1) [] (.code c_laws_FnExactGossipTime_43 :: sk) e h R = (vc2 C n [] (.code c_laws_FnExactGossipTime_8 :: .code c_laws_FnExactGossipTime_42 :: sk) e h R) := nr rfl
@[simp, simp ↓] theorem c_laws_FnExactGossipTime_44_r : vc2 C (n + 1) [] (.code c_laws_FnExactGossipTime_44 :: sk) e h R = (vc2 C n [] (.code c_laws_FnExactGossipTime_7 :: .code c_laws_FnExactGossipTime_43 :: sk) e h R) := nr rfl
@[simp, simp ↓] theorem c_laws_FnExactGossipTime_45_r : vc2 C (n + 1) [] (.code c_laws_FnExactGossipTime_45 :: sk) e h R = (vc2 C n [] (.code c_laws_FnExactGossipTime_2 :: .code c_laws_FnExactGossipTime_44 :: sk) e h R) := nr rfl
@[simp, simp ↓] theorem c_laws_FnExactGossipTime_46_r : vc2 C (n + 1) [] (.code c_laws_FnExactGossipTime_46 :: sk) e h R = (vc2 C n [] (.code c_laws_FnExactGossipTime_1 :: .code c_laws_FnExactGossipTime_45 :: sk) e h R) := nr rfl
@[simp, simp ↓] theorem c_laws_FnExactGossipTime_47_r : vc2 C (n + 1) [] (.code c_laws_FnExactGossipTime_47 :: sk) e h R = (vc2 C n [] (.code c_laws_FnExactGossipTime_0 :: .code c_laws_FnExactGossipTime_46 :: sk) e h R) := nr rfl
end
noncomputable def c_laws_FnExactGossipTime_C (orc : Orc) : Cx := ⟨Try.prog, [8], 12, 58, [.tmp 4], orc⟩
@[simp] theorem c_laws_FnExactGossipTime_C_P (orc : Orc) : (c_laws_FnExactGossipTime_C orc).P = Try.prog := nr rfl
@[simp] theorem c_laws_FnExactGossipTime_C_o (orc : Orc) : (c_laws_FnExactGossipTime_C orc).orc = orc := nr rfl
@[simp] theorem c_laws_FnExactGossipTime_C_r (orc : Orc) : (c_laws_FnExactGossipTime_C orc).res = [.tmp 4] := nr rfl
theorem c_laws_FnExactGossipTime_of {args : List AV} {h : Heap} {R : AV → Heap → Prop} {k : Nat} (ha : args.length = k) {orc : Orc} (hp : Pure Try.prog orc) (hk : Is (c_laws_FnExactGossipTime_C orc) Try.f12 → Run2 (c_laws_FnExactGossipTime_C orc) [.code c_laws_FnExactGossipTime_47] (argEnv 0 args) h (Post R)) (hle : k ≤ 58 := by simp) : ACalls Try.prog 12 args h R :=
  contract2 [8] c_laws_FnExactGossipTime_47 [.tmp 4] Try.func12 (by decide +kernel) rfl (by kernel_rfl) (by rw [ha]; exact hle) (by kernel_rfl) hp hk
theorem c_laws_FnExactGossipTime_of0 {args : List AV} {h : Heap} {R : AV → Heap → Prop} {k : Nat} (ha : args.length = k) {orc : Orc} (hp : Pure Try.prog orc) (hk : Is (c_laws_FnExactGossipTime_C orc) Try.f12 → Run2 (c_laws_FnExactGossipTime_C orc) [.code c_laws_FnExactGossipTime_47] (argEnv 0 args) h R) (hle : k ≤ 58 := by simp) : ACalls Try.prog 12 args h R :=
  contract20 [8] c_laws_FnExactGossipTime_47 [.tmp 4] Try.func12 (by decide +kernel) rfl (by kernel_rfl) (by rw [ha]; exact hle) (by kernel_rfl) hp hk
theorem gt_law (x : Gr) (hx : x.wf) (r : LS) (hr : wfSS r) : ACalls Try.prog 12 [x.av, (.snap 1 (r.map il))] [] (fun v h' => v = .bool true ∧ h' = []) := by
  refine c_laws_FnExactGossipTime_of rfl orcM_p fun I => ?_
  have hx2_x := hx.2
  have hx2_r := hr
  refine Run2.of I 1000 ?_
  by_cases kx : (x.ts.length : Int) ≤ (1048576 : Int)
  · have hAx : ¬ (1048576 : Int) < x.ts.length := by omega
    have hBx : ¬ (1048576 : Int) - x.ts.length < 0 := by omega
    have hCx : (0 : Int) ≤ (1048576 : Int) - x.ts.length := by omega
    have lx : x.ts.length ≤ 1048576 := by omega
    have hDx : (1048576 : Int) - x.ts.length ≤ 1048576 := by omega
    by_cases kr : ((ssTot r) : Int) ≤ ((1048576 : Int) - x.ts.length)
    · have hAr : ¬ ((1048576 : Int) - x.ts.length) < (ssTot r) := by omega
      have hBr : ¬ ((1048576 : Int) - x.ts.length) - (ssTot r) < 0 := by omega
      have hCr : (0 : Int) ≤ ((1048576 : Int) - x.ts.length) - (ssTot r) := by omega
      have lr : (ssTot r) ≤ 1048576 := by omega
      have hDr : ((1048576 : Int) - x.ts.length) - (ssTot r) ≤ 1048576 := by omega
      have hsr := (show sumL r ≤ ssTot r by unfold ssTot; omega)
      simp -implicitDefEqProofs [hx2_x, hx2_r, hAx, hBx, hCx, hDx, kx, hAr, hBr, hCr, hDr, kr]
      first | refine dcallK (toGraph_c x _ lx) ?_ | (refine (toGraph_c x _ lx).mono ?_; rintro v h' ⟨rfl, rfl⟩; refine gK.go ?_)
      simp -implicitDefEqProofs
      first | refine dcallK (toInt64SS_t r _ lr) ?_ | (refine (toInt64SS_t r _ lr).mono ?_; rintro v h' ⟨rfl, rfl⟩; refine gK.go ?_)
      simp -implicitDefEqProofs
      first | refine dcallK (specGT_c x r _ lx hx.1 lr) ?_ | (refine (specGT_c x r _ lx hx.1 lr).mono ?_; rintro v h' ⟨rfl, rfl⟩; refine gK.go ?_)
      simp -implicitDefEqProofs
      refine (toGraph_o x _ lx).monoN ?_
      rintro v0 h' ⟨g0, o0, d0, rfl⟩ n0
      obtain ⟨u0, rfl, ou0⟩ := id o0
      have c0 := ou0.cell
      refine gK.go ?_
      simp -implicitDefEqProofs [c0]
      refine (toInt64SS_n r _ lr).monoN ?_
      rintro v1 h' ⟨g1, o1, d1, rfl⟩ n1
      refine gK.go ?_
      simp -implicitDefEqProofs [c0]
      skip
      have L0 := o0.lentIn (L := (g1 ++ g0)) (fun p hp => List.mem_append_right _ (hp)) n1
      have L1 := o1.lentMid (A := []) (B := g0) (by simpa only [List.nil_append, List.append_nil, List.append_assoc] using n1)
      first | refine dcallK (ACalls.reads (g1 ++ g0) (fun p hp => hp) (v0 := .tup [.int .i64 (x.gVal r), .int .i64 (x.gCode2 r)]) ?_ rfl) ?_ | (refine (ACalls.reads (g1 ++ g0) (fun p hp => hp) (v0 := .tup [.int .i64 (x.gVal r), .int .i64 (x.gCode2 r)]) ?_ rfl).mono ?_)
      · rw [lend_cons, lend_cons, lend_nil']
        exact ACalls.wk (.cons L0.wk (.cons L1.wk .nil)) ((implGT_c x r [] lx hx.1 lr))
      try (rintro v h' ⟨rfl, rfl⟩; refine gK.go ?_)
      simp -implicitDefEqProofs [c0]
      first | refine dcallK (toGraph_c x _ lx) ?_ | (refine (toGraph_c x _ lx).mono ?_; rintro v h' ⟨rfl, rfl⟩; refine gK.go ?_)
      simp -implicitDefEqProofs [c0]
      first | refine dcallK (eqG_own o0 x.is (fun p hp => List.mem_append_right _ (hp)) lx) ?_ | (refine (eqG_own o0 x.is (fun p hp => List.mem_append_right _ (hp)) lx).mono ?_; rintro v h' ⟨rfl, rfl⟩; refine gK.go ?_)
      simp -implicitDefEqProofs [c0]
      first | refine dcallK (toInt64SS_t r _ lr) ?_ | (refine (toInt64SS_t r _ lr).mono ?_; rintro v h' ⟨rfl, rfl⟩; refine gK.go ?_)
      simp -implicitDefEqProofs [c0]
      first | refine dcallK (eqL_own o1 (.is r) (fun p hp => List.mem_append_left _ hp) lr) ?_ | (refine (eqL_own o1 (.is r) (fun p hp => List.mem_append_left _ hp) lr).mono ?_; rintro v h' ⟨rfl, rfl⟩; refine gK.go ?_)
      simp -implicitDefEqProofs [c0]
      exact Post.none ⟨rfl, rfl⟩
    · have hAr : ((1048576 : Int) - x.ts.length) < (ssTot r) := by omega
      simp -implicitDefEqProofs [hx2_x, hx2_r, hAx, hBx, hCx, hDx, kx, hAr]
      exact .base ⟨rfl, rfl⟩
  · have hAx : (1048576 : Int) < x.ts.length := by omega
    simp -implicitDefEqProofs [hx2_x, hx2_r, hAx]
    exact .base ⟨rfl, rfl⟩
end Go.AG
namespace Go.Proofs.Ytlncpnefkpfojaa
open Go.ChangeShapes Go.WideShapes Go.ChangeAt Go.RowKit Go.AG
theorem own : ownKnob Try.prog.godebug = none := by kernel_rfl
theorem laidOut : laidOutB Try.prog = true := by kernel_rfl
set_option maxRecDepth 100000 in
theorem fnExactGossipTime_lifted (os : Os) (started : os.Started) (H : Type) (enc : TypeId × Value → H) :
    ReturnsInHanded {} Try.checked os 12 .any (Rows.fnExactGossipTimeSpec.pre6 enc Try.prog Try.f12 Rows.fnExactGossipTimeRow.domain false) (Rows.fnExactGossipTimeSpec.post enc Try.prog Try.f12 false true false false) := by
  refine returnsInHanded_of_change (C := Try.checked) own started (by kernel_rfl) Try.func12
    (ChangeSpec.witness6 (enc := enc) (C := Try.checked) false ⟨#[], #[.agg #[.int .i64 0, .slice none 0 0], .slice none 0 0], []⟩ 8 (by kernel_rfl) (by kernel_rfl) (by kernel_rfl) (by kernel_rfl)) ?_
  intro W base args ds gs before hval0 hW _ _
  have hval : ∀ (j : Nat) t v, Try.f12.params[j]? = some t → args[j]? = some v → Value.okWide Try.prog W .any base t v := hval0
  refine law_post (tys := [tyG, tySS]) (tb := 4) laidOut rfl (by kernel_rfl) (by kernel_rfl) (by kernel_rfl) (by kernel_rfl) hval hW ?_ ?_
  · intro ds h
    match ds, h with
    | [a0, a1], _ => rfl
  · rintro xs ⟨x0, r0, rfl, h0, x1, r1, rfl, h1, hr⟩
    have hr0 : r1 = [] := hr
    subst hr0
    obtain ⟨p0, rfl, q0⟩ := Gr_of_shape h0
    obtain ⟨p1, rfl, q1⟩ := Lists_of_shape h1
    exact gt_law p0 q0 p1 q1
theorem fnExactGossipTime_holds : Rows.FnExactGossipTimeSaid :=
  OpenClaim.holds_of_wide 12 Try.f12 rfl rfl rfl rfl rfl rfl rfl ⟨rfl, rfl, rfl, rfl, rfl⟩ rfl rfl rfl rfl rfl (by kernel_rfl) Try.func12 (by kernel_rfl)
    (of_decide_eq_true (by kernel_rfl)) (by unfold Func.isWrapper; first | (rw [if_pos (by decide +kernel)]; kernel_rfl) | (rw [if_neg (by decide +kernel)]; exact ⟨rfl, rfl⟩))
    (fun os started H enc _ => fnExactGossipTime_lifted os started H enc)
end Go.Proofs.Ytlncpnefkpfojaa
