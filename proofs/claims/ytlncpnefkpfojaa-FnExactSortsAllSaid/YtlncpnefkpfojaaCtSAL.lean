/- The law FnExactSortsAll is true for every input: the program's SortsAll returns what the reference's returns. -/
import Derived.Test.YtlncpnefkpfojaaCtSA
namespace Go.AG
open Go.Proofs Go.Proofs.Ytlncpnefkpfojaa
set_option linter.unusedSimpArgs false
set_option linter.unusedVariables false
set_option maxRecDepth 4000
noncomputable def orcM : List (Nat × (List AV → Option (Prop × AV))) := (15, o_szGraph) :: (28, o_szInt64SS) :: []
theorem orcM_p : Pure Try.prog (lk orcM) := (lk_pure o_szGraph_k (lk_pure o_szInt64SS_k lk_pure0))
@[simp] theorem orcM_l (g : FuncId) (l : List AV) : lk orcM g l = if g = 15 then o_szGraph l else if g = 28 then o_szInt64SS l else none := nr rfl
abbrev c_laws_FnExactSortsAll_o0 : List AJ := [.o ⟨(some 3), none, false, .box false 2 (.t 0), none⟩, .o ⟨(some 6), none, false, .mv (.c (.bool false)), (some [1, 2, 3])⟩]
def c_laws_FnExactSortsAll_0 : ACode := .region c_laws_FnExactSortsAll_o0
abbrev c_laws_FnExactSortsAll_o1 : List AJ := [.o ⟨(some 7), none, false, .mv (.c (.int .i64 1048576)), (some [1, 2, 3, 7])⟩]
def c_laws_FnExactSortsAll_1 : ACode := .region c_laws_FnExactSortsAll_o1
abbrev c_laws_FnExactSortsAll_o2 : List AJ := [.o ⟨(some 12), none, false, .load 2 true (.t 3), none⟩, .o ⟨(some 13), none, false, .mv (.t 7), none⟩, .o ⟨(some 14), none, false, .call 15 [(.t 12), (.t 13)], none⟩, .o ⟨(some 7), none, false, .mv (.t 14), (some [1, 2, 3, 7])⟩]
def c_laws_FnExactSortsAll_2 : ACode := .region c_laws_FnExactSortsAll_o2
abbrev c_laws_FnExactSortsAll_o3 : List AJ := [.o ⟨(some 15), none, false, .mv (.t 7), none⟩, .o ⟨(some 16), none, false, .bin .lss (.t 15) (.c (.int .i64 0)), (some [1, 2, 3, 7, 16])⟩]
def c_laws_FnExactSortsAll_3 : ACode := .region c_laws_FnExactSortsAll_o3
abbrev c_laws_FnExactSortsAll_o4 : List AJ := [.o ⟨(some 6), none, false, .mv (.c (.bool true)), (some [6])⟩]
def c_laws_FnExactSortsAll_4 : ACode := .region c_laws_FnExactSortsAll_o4
def c_laws_FnExactSortsAll_5 : ACode := .seq c_laws_FnExactSortsAll_4 .ret
def c_laws_FnExactSortsAll_6 : ACode := .cond (.t 16) c_laws_FnExactSortsAll_5 .skip
def c_laws_FnExactSortsAll_7 : ACode := .seq c_laws_FnExactSortsAll_3 c_laws_FnExactSortsAll_6
abbrev c_laws_FnExactSortsAll_o5 : List AJ := [.o ⟨(some 17), none, false, .mv (.t 1), none⟩, .o ⟨(some 18), none, false, .mv (.t 7), none⟩, .o ⟨(some 19), none, false, .call 28 [(.t 17), (.t 18)], none⟩, .o ⟨(some 7), none, false, .mv (.t 19), (some [1, 2, 3, 7])⟩]
def c_laws_FnExactSortsAll_8 : ACode := .region c_laws_FnExactSortsAll_o5
abbrev c_laws_FnExactSortsAll_o6 : List AJ := [.o ⟨(some 20), none, false, .mv (.t 7), none⟩, .o ⟨(some 21), none, false, .bin .lss (.t 20) (.c (.int .i64 0)), (some [1, 2, 3, 21])⟩]
def c_laws_FnExactSortsAll_9 : ACode := .region c_laws_FnExactSortsAll_o6
abbrev c_laws_FnExactSortsAll_o7 : List AJ := [.o ⟨(some 6), none, false, .mv (.c (.bool true)), (some [6])⟩]
def c_laws_FnExactSortsAll_10 : ACode := .region c_laws_FnExactSortsAll_o7
def c_laws_FnExactSortsAll_11 : ACode := .seq c_laws_FnExactSortsAll_10 .ret
def c_laws_FnExactSortsAll_12 : ACode := .cond (.t 21) c_laws_FnExactSortsAll_11 .skip
def c_laws_FnExactSortsAll_13 : ACode := .seq c_laws_FnExactSortsAll_9 c_laws_FnExactSortsAll_12
abbrev c_laws_FnExactSortsAll_o8 : List AJ := [.o ⟨(some 22), none, false, .load 2 true (.t 3), none⟩, .o ⟨(some 23), none, false, .call 17 [(.t 22)], none⟩, .o ⟨(some 24), none, false, .mv (.t 1), none⟩, .o ⟨(some 25), none, false, .call 30 [(.t 24)], none⟩, .o ⟨(some 26), none, false, .mv (.t 2), none⟩, .o ⟨(some 27), none, false, .call 32 [(.t 23), (.t 25), (.t 26)], none⟩, .o ⟨(some 8), none, false, .mv (.t 27), (some [1, 2, 3, 8])⟩]
def c_laws_FnExactSortsAll_14 : ACode := .region c_laws_FnExactSortsAll_o8
abbrev c_laws_FnExactSortsAll_o9 : List AJ := [.o ⟨(some 28), none, false, .load 2 true (.t 3), none⟩, .o ⟨(some 29), none, false, .call 17 [(.t 28)], none⟩, .v 9 2 (.agg [(.int .i64 0), .nilsl]) [] (.t 29) (some [1, 2, 3, 8, 9])]
def c_laws_FnExactSortsAll_15 : ACode := .region c_laws_FnExactSortsAll_o9
abbrev c_laws_FnExactSortsAll_o10 : List AJ := [.o ⟨(some 30), none, false, .mv (.t 1), none⟩, .o ⟨(some 31), none, false, .call 30 [(.t 30)], none⟩, .o ⟨(some 10), none, false, .mv (.t 31), (some [1, 2, 3, 8, 9, 10])⟩]
def c_laws_FnExactSortsAll_16 : ACode := .region c_laws_FnExactSortsAll_o10
abbrev c_laws_FnExactSortsAll_o11 : List AJ := [.o ⟨(some 32), none, false, .load 2 true (.t 9), none⟩, .o ⟨(some 33), none, false, .mv (.t 10), none⟩, .o ⟨(some 34), none, false, .mv (.t 2), none⟩, .o ⟨(some 35), none, false, .call 33 [(.t 32), (.t 33), (.t 34)], none⟩, .o ⟨(some 11), none, false, .mv (.t 35), (some [1, 3, 8, 9, 10, 11])⟩]
def c_laws_FnExactSortsAll_17 : ACode := .region c_laws_FnExactSortsAll_o11
abbrev c_laws_FnExactSortsAll_o12 : List AJ := [.o ⟨(some 36), none, false, .mv (.t 11), none⟩, .o ⟨(some 37), none, false, .mv (.t 8), none⟩, .o ⟨(some 38), none, false, .beq true (.t 36) (.t 37), (some [1, 3, 9, 10, 38])⟩]
def c_laws_FnExactSortsAll_18 : ACode := .region c_laws_FnExactSortsAll_o12
abbrev c_laws_FnExactSortsAll_o13 : List AJ := [.o ⟨(some 6), none, false, .mv (.c (.bool false)), (some [6])⟩]
def c_laws_FnExactSortsAll_19 : ACode := .region c_laws_FnExactSortsAll_o13
def c_laws_FnExactSortsAll_20 : ACode := .seq c_laws_FnExactSortsAll_19 .ret
def c_laws_FnExactSortsAll_21 : ACode := .cond (.t 38) c_laws_FnExactSortsAll_20 .skip
def c_laws_FnExactSortsAll_22 : ACode := .seq c_laws_FnExactSortsAll_18 c_laws_FnExactSortsAll_21
abbrev c_laws_FnExactSortsAll_o14 : List AI := [⟨(some 39), none, false, .load 2 true (.t 9), none⟩, ⟨(some 40), none, false, .load 2 true (.t 3), none⟩, ⟨(some 41), none, false, .call 17 [(.t 40)], none⟩, ⟨(some 42), none, false, .call 19 [(.t 39), (.t 41)], none⟩, ⟨(some 43), none, false, .un .not (.t 42), (some [1, 10, 43])⟩]
def c_laws_FnExactSortsAll_23 : ACode := .draw c_laws_FnExactSortsAll_o14 [] rfl
abbrev c_laws_FnExactSortsAll_o15 : List AJ := [.o ⟨(some 6), none, false, .mv (.c (.bool false)), (some [6])⟩]
def c_laws_FnExactSortsAll_24 : ACode := .region c_laws_FnExactSortsAll_o15
def c_laws_FnExactSortsAll_25 : ACode := .seq c_laws_FnExactSortsAll_24 .ret
def c_laws_FnExactSortsAll_26 : ACode := .cond (.t 43) c_laws_FnExactSortsAll_25 .skip
def c_laws_FnExactSortsAll_27 : ACode := .seq c_laws_FnExactSortsAll_23 c_laws_FnExactSortsAll_26
abbrev c_laws_FnExactSortsAll_o16 : List AJ := [.o ⟨(some 44), none, false, .mv (.t 10), none⟩, .o ⟨(some 45), none, false, .mv (.t 1), none⟩, .o ⟨(some 46), none, false, .call 30 [(.t 45)], none⟩, .o ⟨(some 47), none, false, .call 22 [(.t 44), (.t 46)], none⟩, .o ⟨(some 48), none, false, .un .not (.t 47), (some [48])⟩]
def c_laws_FnExactSortsAll_28 : ACode := .region c_laws_FnExactSortsAll_o16
abbrev c_laws_FnExactSortsAll_o17 : List AJ := [.o ⟨(some 6), none, false, .mv (.c (.bool false)), (some [6])⟩]
def c_laws_FnExactSortsAll_29 : ACode := .region c_laws_FnExactSortsAll_o17
def c_laws_FnExactSortsAll_30 : ACode := .seq c_laws_FnExactSortsAll_29 .ret
def c_laws_FnExactSortsAll_31 : ACode := .cond (.t 48) c_laws_FnExactSortsAll_30 .skip
def c_laws_FnExactSortsAll_32 : ACode := .seq c_laws_FnExactSortsAll_28 c_laws_FnExactSortsAll_31
abbrev c_laws_FnExactSortsAll_o18 : List AJ := [.o ⟨(some 6), none, false, .mv (.c (.bool true)), (some [6])⟩]
def c_laws_FnExactSortsAll_33 : ACode := .region c_laws_FnExactSortsAll_o18
def c_laws_FnExactSortsAll_34 : ACode := .seq c_laws_FnExactSortsAll_33 .ret
def c_laws_FnExactSortsAll_35 : ACode := .seq c_laws_FnExactSortsAll_32 c_laws_FnExactSortsAll_34
def c_laws_FnExactSortsAll_36 : ACode := .seq c_laws_FnExactSortsAll_27 c_laws_FnExactSortsAll_35
def c_laws_FnExactSortsAll_37 : ACode := .seq c_laws_FnExactSortsAll_22 c_laws_FnExactSortsAll_36
def c_laws_FnExactSortsAll_38 : ACode := .seq c_laws_FnExactSortsAll_17 c_laws_FnExactSortsAll_37
def c_laws_FnExactSortsAll_39 : ACode := .seq c_laws_FnExactSortsAll_16 c_laws_FnExactSortsAll_38
def c_laws_FnExactSortsAll_40 : ACode := .seq c_laws_FnExactSortsAll_15 c_laws_FnExactSortsAll_39
def c_laws_FnExactSortsAll_41 : ACode := .seq c_laws_FnExactSortsAll_14 c_laws_FnExactSortsAll_40
def c_laws_FnExactSortsAll_42 : ACode := .seq c_laws_FnExactSortsAll_13 c_laws_FnExactSortsAll_41
def c_laws_FnExactSortsAll_43 : ACode := .seq c_laws_FnExactSortsAll_8 c_laws_FnExactSortsAll_42
def c_laws_FnExactSortsAll_44 : ACode := .seq c_laws_FnExactSortsAll_7 c_laws_FnExactSortsAll_43
def c_laws_FnExactSortsAll_45 : ACode := .seq c_laws_FnExactSortsAll_2 c_laws_FnExactSortsAll_44
def c_laws_FnExactSortsAll_46 : ACode := .seq c_laws_FnExactSortsAll_1 c_laws_FnExactSortsAll_45
def c_laws_FnExactSortsAll_47 : ACode := .seq c_laws_FnExactSortsAll_0 c_laws_FnExactSortsAll_46
section
variable (C : Cx) (n : Nat) (sk : List AItem) (e : Env) (h : Heap) (R : AV → Heap → Prop)
@[simp, simp ↓] theorem c_laws_FnExactSortsAll_0_r : vc2 C (n + 1) [] (.code c_laws_FnExactSortsAll_0 :: sk) e h R = (vc2 C n c_laws_FnExactSortsAll_o0 sk e h R) := nr rfl
@[simp, simp ↓] theorem c_laws_FnExactSortsAll_1_r : vc2 C (n + 1) [] (.code c_laws_FnExactSortsAll_1 :: sk) e h R = (vc2 C n c_laws_FnExactSortsAll_o1 sk e h R) := nr rfl
@[simp, simp ↓] theorem c_laws_FnExactSortsAll_2_r : vc2 C (n + 1) [] (.code c_laws_FnExactSortsAll_2 :: sk) e h R = (vc2 C n c_laws_FnExactSortsAll_o2 sk e h R) := nr rfl
@[simp, simp ↓] theorem c_laws_FnExactSortsAll_3_r : vc2 C (n + 1) [] (.code c_laws_FnExactSortsAll_3 :: sk) e h R = (vc2 C n c_laws_FnExactSortsAll_o3 sk e h R) := nr rfl
@[simp, simp ↓] theorem c_laws_FnExactSortsAll_4_r : vc2 C (n + 1) [] (.code c_laws_FnExactSortsAll_4 :: sk) e h R = (vc2 C n c_laws_FnExactSortsAll_o4 sk e h R) := nr rfl
@[simp, simp ↓] theorem c_laws_FnExactSortsAll_5_r : vc2 C (n + 1) [] (.code c_laws_FnExactSortsAll_5 :: sk) e h R = (vc2 C n [] (.code c_laws_FnExactSortsAll_4 :: .code .ret :: sk) e h R) := nr rfl
@[simp, simp ↓] theorem c_laws_FnExactSortsAll_6_r : vc2 C (n + 1) [] (.code c_laws_FnExactSortsAll_6 :: sk) e h R = (condK (ev e (.t 16)) (vc2 C n [] (.code c_laws_FnExactSortsAll_5 :: sk) e h R) (vc2 C n [] (.code .skip :: sk) e h R)) := nr rfl
@[simp, simp ↓] theorem c_laws_FnExactSortsAll_7_r : vc2 C (n + 1) [] (.code c_laws_FnExactSortsAll_7 :: sk) e h R = (vc2 C n [] (.code c_laws_FnExactSortsAll_3 :: .code c_laws_FnExactSortsAll_6 :: sk) e h R) := nr rfl
@[simp, simp ↓] theorem c_laws_FnExactSortsAll_8_r : vc2 C (n + 1) [] (.code c_laws_FnExactSortsAll_8 :: sk) e h R = (vc2 C n c_laws_FnExactSortsAll_o5 sk e h R) := nr rfl
@[simp, simp ↓] theorem c_laws_FnExactSortsAll_9_r : vc2 C (n + 1) [] (.code c_laws_FnExactSortsAll_9 :: sk) e h R = (vc2 C n c_laws_FnExactSortsAll_o6 sk e h R) := nr rfl
@[simp, simp ↓] theorem c_laws_FnExactSortsAll_10_r : vc2 C (n + 1) [] (.code c_laws_FnExactSortsAll_10 :: sk) e h R = (vc2 C n c_laws_FnExactSortsAll_o7 sk e h R) := nr rfl
@[simp, simp ↓] theorem c_laws_FnExactSortsAll_11_r : vc2 C (n + 1) [] (.code c_laws_FnExactSortsAll_11 :: sk) e h R = (vc2 C n [] (.code c_laws_FnExactSortsAll_10 :: .code .ret :: sk) e h R) := nr rfl
@[simp, simp ↓] theorem c_laws_FnExactSortsAll_12_r : vc2 C (n + 1) [] (.code c_laws_FnExactSortsAll_12 :: sk) e h R = (condK (ev e (.t 21)) (vc2 C n [] (.code c_laws_FnExactSortsAll_11 :: sk) e h R) (vc2 C n [] (.code .skip :: sk) e h R)) := nr rfl
@[simp, simp ↓] theorem c_laws_FnExactSortsAll_13_r : vc2 C (n + 1) [] (.code c_laws_FnExactSortsAll_13 :: sk) e h R = (vc2 C n [] (.code c_laws_FnExactSortsAll_9 :: .code c_laws_FnExactSortsAll_12 :: sk) e h R) := nr rfl
@[simp, simp ↓] theorem c_laws_FnExactSortsAll_14_r : vc2 C (n + 1) [] (.code c_laws_FnExactSortsAll_14 :: sk) e h R = (vc2 C n c_laws_FnExactSortsAll_o8 sk e h R) := nr rfl
@[simp, simp ↓] theorem c_laws_FnExactSortsAll_15_r : vc2 C (n + 1) [] (.code c_laws_FnExactSortsAll_15 :: sk) e h R = (vc2 C n c_laws_FnExactSortsAll_o9 sk e h R) := nr rfl
@[simp, simp ↓] theorem c_laws_FnExactSortsAll_16_r : vc2 C (n + 1) [] (.code c_laws_FnExactSortsAll_16 :: sk) e h R = (vc2 C n c_laws_FnExactSortsAll_o10 sk e h R) := nr rfl
@[simp, simp ↓] theorem c_laws_FnExactSortsAll_17_r : vc2 C (n + 1) [] (.code c_laws_FnExactSortsAll_17 :: sk) e h R = (vc2 C n c_laws_FnExactSortsAll_o11 sk e h R) := nr rfl
@[simp, simp ↓] theorem c_laws_FnExactSortsAll_18_r : vc2 C (n + 1) [] (.code c_laws_FnExactSortsAll_18 :: sk) e h R = (vc2 C n c_laws_FnExactSortsAll_o12 sk e h R) := nr rfl
@[simp, simp ↓] theorem c_laws_FnExactSortsAll_19_r : vc2 C (n + 1) [] (.code c_laws_FnExactSortsAll_19 :: sk) e h R = (vc2 C n c_laws_FnExactSortsAll_o13 sk e h R) := nr rfl
@[simp, simp ↓] theorem c_laws_FnExactSortsAll_20_r : vc2 C (n + 1) [] (.code c_laws_FnExactSortsAll_20 :: sk) e h R = (vc2 C n [] (.code c_laws_FnExactSortsAll_19 :: .code .ret :: sk) e h R) := nr rfl
@[simp, simp ↓] theorem c_laws_FnExactSortsAll_21_r : vc2 C (n + 1) [] (.code c_laws_FnExactSortsAll_21 :: sk) e h R = (condK (ev e (.t 38)) (vc2 C n [] (.code c_laws_FnExactSortsAll_20 :: sk) e h R) (vc2 C n [] (.code .skip :: sk) e h R)) := nr rfl
@[simp, simp ↓] theorem c_laws_FnExactSortsAll_22_r : vc2 C (n + 1) [] (.code c_laws_FnExactSortsAll_22 :: sk) e h R = (vc2 C n [] (.code c_laws_FnExactSortsAll_18 :: .code c_laws_FnExactSortsAll_21 :: sk) e h R) := nr rfl
@[simp, simp ↓] theorem c_laws_FnExactSortsAll_23_r : vc2 C (n + 1) [] (.code c_laws_FnExactSortsAll_23 :: sk) e h R = (draw2 C h (vK C n [] sk R h) c_laws_FnExactSortsAll_o14 e) := nr rfl
@[simp, simp ↓] theorem c_laws_FnExactSortsAll_24_r : vc2 C (n + 1) [] (.code c_laws_FnExactSortsAll_24 :: sk) e h R = (vc2 C n c_laws_FnExactSortsAll_o15 sk e h R) := nr rfl
@[simp, simp ↓] theorem c_laws_FnExactSortsAll_25_r : vc2 C (n + 1) [] (.code c_laws_FnExactSortsAll_25 :: sk) e h R = (vc2 C n [] (.code c_laws_FnExactSortsAll_24 :: .code .ret :: sk) e h R) := nr rfl
@[simp, simp ↓] theorem c_laws_FnExactSortsAll_26_r : vc2 C (n + 1) [] (.code c_laws_FnExactSortsAll_26 :: sk) e h R = (condK (ev e (.t 43)) (vc2 C n [] (.code c_laws_FnExactSortsAll_25 :: sk) e h R) (vc2 C n [] (.code .skip :: sk) e h R)) := nr rfl
@[simp, simp ↓] theorem c_laws_FnExactSortsAll_27_r : vc2 C (n + 1) [] (.code c_laws_FnExactSortsAll_27 :: sk) e h R = (vc2 C n [] (.code c_laws_FnExactSortsAll_23 :: .code c_laws_FnExactSortsAll_26 :: sk) e h R) := nr rfl
@[simp, simp ↓] theorem c_laws_FnExactSortsAll_28_r : vc2 C (n + 1) [] (.code c_laws_FnExactSortsAll_28 :: sk) e h R = (vc2 C n c_laws_FnExactSortsAll_o16 sk e h R) := nr rfl
@[simp, simp ↓] theorem c_laws_FnExactSortsAll_29_r : vc2 C (n + 1) [] (.code c_laws_FnExactSortsAll_29 :: sk) e h R = (vc2 C n c_laws_FnExactSortsAll_o17 sk e h R) := nr rfl
@[simp, simp ↓] theorem c_laws_FnExactSortsAll_30_r : vc2 C (n + 1) [] (.code c_laws_FnExactSortsAll_30 :: sk) e h R = (vc2 C n [] (.code c_laws_FnExactSortsAll_29 :: .code .ret :: sk) e h R) := nr rfl
@[simp, simp ↓] theorem c_laws_FnExactSortsAll_31_r : vc2 C (n + 1) [] (.code c_laws_FnExactSortsAll_31 :: sk) e h R = (condK (ev e (.t 48)) (vc2 C n [] (.code c_laws_FnExactSortsAll_30 :: sk) e h R) (vc2 C n [] (.code .skip :: sk) e h R)) := nr rfl
@[simp, simp ↓] theorem c_laws_FnExactSortsAll_32_r : vc2 C (n + 1) [] (.code c_laws_FnExactSortsAll_32 :: sk) e h R = (vc2 C n [] (.code c_laws_FnExactSortsAll_28 :: .code c_laws_FnExactSortsAll_31 :: sk) e h R) := nr rfl
@[simp, simp ↓] theorem c_laws_FnExactSortsAll_33_r : vc2 C (n + 1) [] (.code c_laws_FnExactSortsAll_33 :: sk) e h R = (vc2 C n c_laws_FnExactSortsAll_o18 sk e h R) := nr rfl
@[simp, simp ↓] theorem c_laws_FnExactSortsAll_34_r : vc2 C (n + 1) [] (.code c_laws_FnExactSortsAll_34 :: sk) e h R = (vc2 C n [] (.code c_laws_FnExactSortsAll_33 :: .code .ret :: sk) e h R) := nr rfl
@[simp, simp ↓] theorem c_laws_FnExactSortsAll_35_r : vc2 C (n + 1) [] (.code c_laws_FnExactSortsAll_35 :: sk) e h R = (vc2 C n [] (.code c_laws_FnExactSortsAll_32 :: .code c_laws_FnExactSortsAll_34 :: sk) e h R) := nr rfl
@[simp, simp ↓] theorem c_laws_FnExactSortsAll_36_r : vc2 C (n + 1) [] (.code c_laws_FnExactSortsAll_36 :: sk) e h R = (vc2 C n [] (.code c_laws_FnExactSortsAll_27 :: .code c_laws_FnExactSortsAll_35 :: sk) e h R) := nr rfl
@[simp, simp ↓] theorem c_laws_FnExactSortsAll_37_r : vc2 C (n + 1) [] (.code c_laws_FnExactSortsAll_37 :: sk) e h R = (vc2 C n [] (.code c_laws_FnExactSortsAll_22 :: .code c_laws_FnExactSortsAll_36 :: sk) e h R) := nr rfl
@[simp, simp ↓] theorem c_laws_FnExactSortsAll_38_r : vc2 C (n + 1) [] (.code c_laws_FnExactSortsAll_38 :: sk) e h R = (vc2 C n [] (.code c_laws_FnExactSortsAll_17 :: .code c_laws_FnExactSortsAll_37 :: sk) e h R) := nr rfl
@[simp, simp ↓] theorem c_laws_FnExactSortsAll_39_r : vc2 C (n + 1) [] (.code c_laws_FnExactSortsAll_39 :: sk) e h R = (vc2 C n [] (.code c_laws_FnExactSortsAll_16 :: .code c_laws_FnExactSortsAll_38 :: sk) e h R) := nr rfl
@[simp, simp ↓] theorem c_laws_FnExactSortsAll_40_r : vc2 C (n + 1) [] (.code c_laws_FnExactSortsAll_40 :: sk) e h R = (vc2 C n [] (.code c_laws_FnExactSortsAll_15 :: .code c_laws_FnExactSortsAll_39 :: sk) e h R) := nr rfl
@[simp, simp ↓] theorem c_laws_FnExactSortsAll_41_r : vc2 C (n + 1) [] (.code c_laws_FnExactSortsAll_41 :: sk) e h R = (vc2 C n [] (.code c_laws_FnExactSortsAll_14 :: .code c_laws_FnExactSortsAll_40 :: sk) e h R) := nr rfl
@[simp, simp ↓] theorem c_laws_FnExactSortsAll_42_r : vc2 C (n + 1) [] (.code c_laws_FnExactSortsAll_42 :: sk) e h R = (vc2 C n [] (.code c_laws_FnExactSortsAll_13 :: .code c_laws_FnExactSortsAll_41 :: sk) e h R) := nr rfl
@[simp, simp ↓] theorem c_laws_FnExactSortsAll_43_r : vc2 C (n + 1) [] (.code c_laws_FnExactSortsAll_43 :: sk) e h R = (vc2 C n [] (.code c_laws_FnExactSortsAll_8 :: .code c_laws_FnExactSortsAll_42 :: sk) e h R) := nr rfl
@[simp, simp ↓] theorem c_laws_FnExactSortsAll_44_r : vc2 C (n + 1) [] (.code c_laws_FnExactSortsAll_44 :: sk) e h R = (vc2 C n [] (.code c_laws_FnExactSortsAll_7 :: .code c_laws_FnExactSortsAll_43 :: sk) e h R) := nr rfl
@[simp, simp ↓] theorem c_laws_FnExactSortsAll_45_r : vc2 C (n + 1) [] (.code c_laws_FnExactSortsAll_45 :: sk) e h R = (vc2 C n [] (.code c_laws_FnExactSortsAll_2 :: .code c_laws_FnExactSortsAll_44 :: sk) e h R) := nr rfl
@[simp, simp ↓] theorem c_laws_FnExactSortsAll_46_r : vc2 C (n + 1) [] (.code c_laws_FnExactSortsAll_46 :: sk) e h R = (vc2 C n [] (.code c_laws_FnExactSortsAll_1 :: .code c_laws_FnExactSortsAll_45 :: sk) e h R) := nr rfl
@[simp, simp ↓] theorem c_laws_FnExactSortsAll_47_r : vc2 C (n + 1) [] (.code c_laws_FnExactSortsAll_47 :: sk) e h R = (vc2 C n [] (.code c_laws_FnExactSortsAll_0 :: .code c_laws_FnExactSortsAll_46 :: sk) e h R) := nr rfl
end
noncomputable def c_laws_FnExactSortsAll_C (orc : Orc) : Cx := ⟨Try.prog, [9], 7, 49, [.tmp 6], orc⟩
@[simp] theorem c_laws_FnExactSortsAll_C_P (orc : Orc) : (c_laws_FnExactSortsAll_C orc).P = Try.prog := nr rfl
@[simp] theorem c_laws_FnExactSortsAll_C_o (orc : Orc) : (c_laws_FnExactSortsAll_C orc).orc = orc := nr rfl
@[simp] theorem c_laws_FnExactSortsAll_C_r (orc : Orc) : (c_laws_FnExactSortsAll_C orc).res = [.tmp 6] := nr rfl
theorem c_laws_FnExactSortsAll_of {args : List AV} {h : Heap} {R : AV → Heap → Prop} {k : Nat} (ha : args.length = k) {orc : Orc} (hp : Pure Try.prog orc) (hk : Is (c_laws_FnExactSortsAll_C orc) Try.f7 → Run2 (c_laws_FnExactSortsAll_C orc) [.code c_laws_FnExactSortsAll_47] (argEnv 0 args) h (Post R)) (hle : k ≤ 49 := by simp) : ACalls Try.prog 7 args h R :=
  contract2 [9] c_laws_FnExactSortsAll_47 [.tmp 6] Try.func7 (by decide +kernel) rfl (by kernel_rfl) (by rw [ha]; exact hle) (by kernel_rfl) hp hk
theorem c_laws_FnExactSortsAll_of0 {args : List AV} {h : Heap} {R : AV → Heap → Prop} {k : Nat} (ha : args.length = k) {orc : Orc} (hp : Pure Try.prog orc) (hk : Is (c_laws_FnExactSortsAll_C orc) Try.f7 → Run2 (c_laws_FnExactSortsAll_C orc) [.code c_laws_FnExactSortsAll_47] (argEnv 0 args) h R) (hle : k ≤ 49 := by simp) : ACalls Try.prog 7 args h R :=
  contract20 [9] c_laws_FnExactSortsAll_47 [.tmp 6] Try.func7 (by decide +kernel) rfl (by kernel_rfl) (by rw [ha]; exact hle) (by kernel_rfl) hp hk
theorem sa_law (x : Gr) (hx : x.wf) (r : LS) (hr : wfSS r) (k : Int) (hk : in64 k) : ACalls Try.prog 7 [x.av, (.snap 1 (r.map il)), (.int .i64 k)] [] (fun v h' => v = .bool true ∧ h' = []) := by
  refine c_laws_FnExactSortsAll_of rfl orcM_p fun I => ?_
  have hx2_x := hx.2
  have hx2_r := hr
  refine Run2.of I 1000 ?_
  by_cases kx : (x.ts.length : Int) ≤ (1048576 : Int)
  · have hAx : ¬ (1048576 : Int) < x.ts.length := by omega
    have hBx : ¬ (1048576 : Int) - x.ts.length < 0 := by omega
    have hCx : (0 : Int) ≤ (1048576 : Int) - x.ts.length := by omega
    have lx : x.ts.length ≤ 1048576 := by omega
    have hDx : (1048576 : Int) - x.ts.length ≤ 1048576 := by omega
    by_cases kr : ((ssTot r) : Int) ≤ ((1048576 : Int) - x.ts.length)
    · have hAr : ¬ ((1048576 : Int) - x.ts.length) < (ssTot r) := by omega
      have hBr : ¬ ((1048576 : Int) - x.ts.length) - (ssTot r) < 0 := by omega
      have hCr : (0 : Int) ≤ ((1048576 : Int) - x.ts.length) - (ssTot r) := by omega
      have lr : (ssTot r) ≤ 1048576 := by omega
      have hDr : ((1048576 : Int) - x.ts.length) - (ssTot r) ≤ 1048576 := by omega
      simp -implicitDefEqProofs [hx2_x, hx2_r, hAx, hBx, hCx, hDx, kx, hAr, hBr, hCr, hDr, kr]
      first | refine dcallK (toGraph_c x _ lx) ?_ | (refine (toGraph_c x _ lx).mono ?_; rintro v h' ⟨rfl, rfl⟩; refine gK.go ?_)
      simp -implicitDefEqProofs
      first | refine dcallK (toInt64SS_t r _ lr) ?_ | (refine (toInt64SS_t r _ lr).mono ?_; rintro v h' ⟨rfl, rfl⟩; refine gK.go ?_)
      simp -implicitDefEqProofs
      first | refine dcallK (specSA_c x r k _ lx hx.1 lr) ?_ | (refine (specSA_c x r k _ lx hx.1 lr).mono ?_; rintro v h' ⟨rfl, rfl⟩; refine gK.go ?_)
      simp -implicitDefEqProofs
      refine (toGraph_o x _ lx).monoN ?_
      rintro v0 h' ⟨g0, o0, d0, rfl⟩ n0
      obtain ⟨u0, rfl, ou0⟩ := id o0
      have c0 := ou0.cell
      refine gK.go ?_
      simp -implicitDefEqProofs [c0]
      refine (toInt64SS_n r _ lr).monoN ?_
      rintro v1 h' ⟨g1, o1, d1, rfl⟩ n1
      refine gK.go ?_
      simp -implicitDefEqProofs [c0]
      skip
      have L0 := o0.lentIn (L := (g1 ++ g0)) (fun p hp => List.mem_append_right _ (hp)) n1
      have L1 := o1.lentMid (A := []) (B := g0) (by simpa only [List.nil_append, List.append_nil, List.append_assoc] using n1)
      first | refine dcallK (ACalls.reads (g1 ++ g0) (fun p hp => hp) (v0 := .bool (decide (x.saOk r k))) ?_ rfl) ?_ | (refine (ACalls.reads (g1 ++ g0) (fun p hp => hp) (v0 := .bool (decide (x.saOk r k))) ?_ rfl).mono ?_)
      · rw [lend_cons, lend_cons, lend_cons, lend_nil', lend1_cold (g1 ++ g0) (x := (.int .i64 k)) rfl]
        exact ACalls.wk (.cons L0.wk (.cons L1.wk (.cons (.refl _) .nil))) (implSA_o x r k lx hx.1 lr)
      try (rintro v h' ⟨rfl, rfl⟩; refine gK.go ?_)
      simp -implicitDefEqProofs [c0]
      first | refine dcallK (toGraph_c x _ lx) ?_ | (refine (toGraph_c x _ lx).mono ?_; rintro v h' ⟨rfl, rfl⟩; refine gK.go ?_)
      simp -implicitDefEqProofs [c0]
      first | refine dcallK (eqG_own o0 x.is (fun p hp => List.mem_append_right _ (hp)) lx) ?_ | (refine (eqG_own o0 x.is (fun p hp => List.mem_append_right _ (hp)) lx).mono ?_; rintro v h' ⟨rfl, rfl⟩; refine gK.go ?_)
      simp -implicitDefEqProofs [c0]
      first | refine dcallK (toInt64SS_t r _ lr) ?_ | (refine (toInt64SS_t r _ lr).mono ?_; rintro v h' ⟨rfl, rfl⟩; refine gK.go ?_)
      simp -implicitDefEqProofs [c0]
      first | refine dcallK (eqL_own o1 (.is r) (fun p hp => List.mem_append_left _ hp) lr) ?_ | (refine (eqL_own o1 (.is r) (fun p hp => List.mem_append_left _ hp) lr).mono ?_; rintro v h' ⟨rfl, rfl⟩; refine gK.go ?_)
      simp -implicitDefEqProofs [c0]
      exact Post.none ⟨rfl, rfl⟩
    · have hAr : ((1048576 : Int) - x.ts.length) < (ssTot r) := by omega
      simp -implicitDefEqProofs [hx2_x, hx2_r, hAx, hBx, hCx, hDx, kx, hAr]
      exact .base ⟨rfl, rfl⟩
  · have hAx : (1048576 : Int) < x.ts.length := by omega
    simp -implicitDefEqProofs [hx2_x, hx2_r, hAx]
    exact .base ⟨rfl, rfl⟩
end Go.AG
namespace Go.Proofs.Ytlncpnefkpfojaa
open Go.ChangeShapes Go.WideShapes Go.ChangeAt Go.RowKit Go.AG
theorem own : ownKnob Try.prog.godebug = none := by kernel_rfl
theorem laidOut : laidOutB Try.prog = true := by kernel_rfl
set_option maxRecDepth 100000 in
theorem fnExactSortsAll_lifted (os : Os) (started : os.Started) (H : Type) (enc : TypeId × Value → H) :
    ReturnsInHanded {} Try.checked os 7 .any (Rows.fnExactSortsAllSpec.pre6 enc Try.prog Try.f7 Rows.fnExactSortsAllRow.domain false) (Rows.fnExactSortsAllSpec.post enc Try.prog Try.f7 false true false false) := by
  refine returnsInHanded_of_change (C := Try.checked) own started (by kernel_rfl) Try.func7
    (ChangeSpec.witness6 (enc := enc) (C := Try.checked) false ⟨#[], #[.agg #[.int .i64 0, .slice none 0 0], .slice none 0 0, .int .i64 0], []⟩ 8 (by kernel_rfl) (by kernel_rfl) (by kernel_rfl) (by kernel_rfl)) ?_
  intro W base args ds gs before hval0 hW _ _
  have hval : ∀ (j : Nat) t v, Try.f7.params[j]? = some t → args[j]? = some v → Value.okWide Try.prog W .any base t v := hval0
  refine law_post (tys := [tyG, tySS, (.int .i64)]) (tb := 4) laidOut rfl (by kernel_rfl) (by kernel_rfl) (by kernel_rfl) (by kernel_rfl) hval hW ?_ ?_
  · intro ds h
    match ds, h with
    | [a0, a1, a2], _ => rfl
  · rintro xs ⟨x0, r0, rfl, h0, x1, r1, rfl, h1, x2, r2, rfl, h2, hr⟩
    have hr0 : r2 = [] := hr
    subst hr0
    obtain ⟨p0, rfl, q0⟩ := Gr_of_shape h0
    obtain ⟨p1, rfl, q1⟩ := Lists_of_shape h1
    obtain ⟨p2, rfl, q2⟩ := Int_of_shape h2
    exact sa_law p0 q0 p1 q1 p2 q2
theorem fnExactSortsAll_holds : Rows.FnExactSortsAllSaid :=
  OpenClaim.holds_of_wide 7 Try.f7 rfl rfl rfl rfl rfl rfl rfl ⟨rfl, rfl, rfl, rfl, rfl⟩ rfl rfl rfl rfl rfl (by kernel_rfl) Try.func7 (by kernel_rfl)
    (of_decide_eq_true (by kernel_rfl)) (by unfold Func.isWrapper; first | (rw [if_pos (by decide +kernel)]; kernel_rfl) | (rw [if_neg (by decide +kernel)]; exact ⟨rfl, rfl⟩))
    (fun os started H enc _ => fnExactSortsAll_lifted os started H enc)
end Go.Proofs.Ytlncpnefkpfojaa
