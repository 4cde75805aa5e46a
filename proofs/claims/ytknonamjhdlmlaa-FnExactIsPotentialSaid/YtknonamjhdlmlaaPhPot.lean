/- The law FnExactIsPotential is true for every input: the program's IsPotential returns what the reference's returns. -/
import Derived.Test.YtknonamjhdlmlaaPhC
namespace Go.AG
open Go.Proofs Go.Proofs.Ytknonamjhdlmlaa
set_option linter.unusedSimpArgs false
set_option linter.unusedVariables false
set_option maxRecDepth 4000
noncomputable def orcM : List (Nat × (List AV → Option (Prop × AV))) := (14, o_szPhases) :: []
theorem orcM_p : Pure Try.prog (lk orcM) := (lk_pure o_szPhases_k lk_pure0)
@[simp] theorem orcM_l (g : FuncId) (l : List AV) : lk orcM g l = if g = 14 then o_szPhases l else none := nr rfl
abbrev c_laws_FnExactIsPotential_o0 : List AJ := [.o ⟨(some 2), none, false, .box false 3 (.t 0), none⟩, .o ⟨(some 4), none, false, .mv (.c (.bool false)), (some [1, 2])⟩]
def c_laws_FnExactIsPotential_0 : ACode := .region c_laws_FnExactIsPotential_o0
abbrev c_laws_FnExactIsPotential_o1 : List AJ := [.o ⟨(some 10), none, false, .mv (.t 1), none⟩, .o ⟨(some 11), none, false, .len (.t 10), none⟩, .o ⟨(some 12), none, false, .bin .gtr (.t 11) (.c (.int .i64 1048576)), (some [1, 2, 12])⟩]
def c_laws_FnExactIsPotential_1 : ACode := .region c_laws_FnExactIsPotential_o1
abbrev c_laws_FnExactIsPotential_o2 : List AJ := [.o ⟨(some 4), none, false, .mv (.c (.bool true)), (some [4])⟩]
def c_laws_FnExactIsPotential_2 : ACode := .region c_laws_FnExactIsPotential_o2
def c_laws_FnExactIsPotential_3 : ACode := .seq c_laws_FnExactIsPotential_2 .ret
def c_laws_FnExactIsPotential_4 : ACode := .cond (.t 12) c_laws_FnExactIsPotential_3 .skip
def c_laws_FnExactIsPotential_5 : ACode := .seq c_laws_FnExactIsPotential_1 c_laws_FnExactIsPotential_4
abbrev c_laws_FnExactIsPotential_o3 : List AJ := [.o ⟨(some 5), none, false, .mv (.c (.int .i64 1048576)), (some [1, 2, 5])⟩]
def c_laws_FnExactIsPotential_6 : ACode := .region c_laws_FnExactIsPotential_o3
abbrev c_laws_FnExactIsPotential_o4 : List AJ := [.o ⟨(some 13), none, false, .load 3 true (.t 2), none⟩, .o ⟨(some 14), none, false, .mv (.t 5), none⟩, .o ⟨(some 15), none, false, .call 14 [(.t 13), (.t 14)], none⟩, .o ⟨(some 5), none, false, .mv (.t 15), (some [1, 2, 5])⟩]
def c_laws_FnExactIsPotential_7 : ACode := .region c_laws_FnExactIsPotential_o4
abbrev c_laws_FnExactIsPotential_o5 : List AJ := [.o ⟨(some 16), none, false, .mv (.t 5), none⟩, .o ⟨(some 17), none, false, .bin .lss (.t 16) (.c (.int .i64 0)), (some [1, 2, 17])⟩]
def c_laws_FnExactIsPotential_8 : ACode := .region c_laws_FnExactIsPotential_o5
abbrev c_laws_FnExactIsPotential_o6 : List AJ := [.o ⟨(some 4), none, false, .mv (.c (.bool true)), (some [4])⟩]
def c_laws_FnExactIsPotential_9 : ACode := .region c_laws_FnExactIsPotential_o6
def c_laws_FnExactIsPotential_10 : ACode := .seq c_laws_FnExactIsPotential_9 .ret
def c_laws_FnExactIsPotential_11 : ACode := .cond (.t 17) c_laws_FnExactIsPotential_10 .skip
def c_laws_FnExactIsPotential_12 : ACode := .seq c_laws_FnExactIsPotential_8 c_laws_FnExactIsPotential_11
abbrev c_laws_FnExactIsPotential_o7 : List AJ := [.o ⟨(some 18), none, false, .load 3 true (.t 2), none⟩, .o ⟨(some 19), none, false, .call 16 [(.t 18)], none⟩, .o ⟨(some 20), none, false, .mv (.t 1), none⟩, .o ⟨(some 21), none, false, .call 22 [(.t 20)], none⟩, .o ⟨(some 22), none, false, .call 25 [(.t 19), (.t 21)], none⟩, .o ⟨(some 6), none, false, .mv (.t 22), (some [1, 2, 6])⟩]
def c_laws_FnExactIsPotential_13 : ACode := .region c_laws_FnExactIsPotential_o7
abbrev c_laws_FnExactIsPotential_o8 : List AJ := [.o ⟨(some 23), none, false, .load 3 true (.t 2), none⟩, .o ⟨(some 24), none, false, .call 16 [(.t 23)], none⟩, .v 7 3 (.agg [(.int .i64 0), (.int .i64 0), .nilsl]) [] (.t 24) (some [1, 2, 6, 7])]
def c_laws_FnExactIsPotential_14 : ACode := .region c_laws_FnExactIsPotential_o8
abbrev c_laws_FnExactIsPotential_o9 : List AJ := [.o ⟨(some 25), none, false, .mv (.t 1), none⟩, .o ⟨(some 26), none, false, .call 22 [(.t 25)], none⟩, .o ⟨(some 8), none, false, .mv (.t 26), (some [1, 2, 6, 7, 8])⟩]
def c_laws_FnExactIsPotential_15 : ACode := .region c_laws_FnExactIsPotential_o9
abbrev c_laws_FnExactIsPotential_o10 : List AJ := [.o ⟨(some 27), none, false, .load 3 true (.t 7), none⟩, .o ⟨(some 28), none, false, .mv (.t 8), none⟩, .o ⟨(some 29), none, false, .call 26 [(.t 27), (.t 28)], none⟩, .o ⟨(some 9), none, false, .mv (.t 29), (some [1, 2, 6, 7, 8, 9])⟩]
def c_laws_FnExactIsPotential_16 : ACode := .region c_laws_FnExactIsPotential_o10
abbrev c_laws_FnExactIsPotential_o11 : List AJ := [.o ⟨(some 30), none, false, .mv (.t 9), none⟩, .o ⟨(some 31), none, false, .mv (.t 6), none⟩, .o ⟨(some 32), none, false, .beq true (.t 30) (.t 31), (some [1, 2, 7, 8, 32])⟩]
def c_laws_FnExactIsPotential_17 : ACode := .region c_laws_FnExactIsPotential_o11
abbrev c_laws_FnExactIsPotential_o12 : List AJ := [.o ⟨(some 4), none, false, .mv (.c (.bool false)), (some [4])⟩]
def c_laws_FnExactIsPotential_18 : ACode := .region c_laws_FnExactIsPotential_o12
def c_laws_FnExactIsPotential_19 : ACode := .seq c_laws_FnExactIsPotential_18 .ret
def c_laws_FnExactIsPotential_20 : ACode := .cond (.t 32) c_laws_FnExactIsPotential_19 .skip
def c_laws_FnExactIsPotential_21 : ACode := .seq c_laws_FnExactIsPotential_17 c_laws_FnExactIsPotential_20
abbrev c_laws_FnExactIsPotential_o13 : List AI := [⟨(some 33), none, false, .load 3 true (.t 7), none⟩, ⟨(some 34), none, false, .load 3 true (.t 2), none⟩, ⟨(some 35), none, false, .call 16 [(.t 34)], none⟩, ⟨(some 36), none, false, .call 18 [(.t 33), (.t 35)], none⟩, ⟨(some 37), none, false, .un .not (.t 36), (some [1, 8, 37])⟩]
def c_laws_FnExactIsPotential_22 : ACode := .draw c_laws_FnExactIsPotential_o13 [] rfl
abbrev c_laws_FnExactIsPotential_o14 : List AJ := [.o ⟨(some 4), none, false, .mv (.c (.bool false)), (some [4])⟩]
def c_laws_FnExactIsPotential_23 : ACode := .region c_laws_FnExactIsPotential_o14
def c_laws_FnExactIsPotential_24 : ACode := .seq c_laws_FnExactIsPotential_23 .ret
def c_laws_FnExactIsPotential_25 : ACode := .cond (.t 37) c_laws_FnExactIsPotential_24 .skip
def c_laws_FnExactIsPotential_26 : ACode := .seq c_laws_FnExactIsPotential_22 c_laws_FnExactIsPotential_25
abbrev c_laws_FnExactIsPotential_o15 : List AJ := [.o ⟨(some 38), none, false, .mv (.t 8), none⟩, .o ⟨(some 39), none, false, .mv (.t 1), none⟩, .o ⟨(some 40), none, false, .call 22 [(.t 39)], none⟩, .o ⟨(some 41), none, false, .call 24 [(.t 38), (.t 40)], none⟩, .o ⟨(some 42), none, false, .un .not (.t 41), (some [42])⟩]
def c_laws_FnExactIsPotential_27 : ACode := .region c_laws_FnExactIsPotential_o15
abbrev c_laws_FnExactIsPotential_o16 : List AJ := [.o ⟨(some 4), none, false, .mv (.c (.bool false)), (some [4])⟩]
def c_laws_FnExactIsPotential_28 : ACode := .region c_laws_FnExactIsPotential_o16
def c_laws_FnExactIsPotential_29 : ACode := .seq c_laws_FnExactIsPotential_28 .ret
def c_laws_FnExactIsPotential_30 : ACode := .cond (.t 42) c_laws_FnExactIsPotential_29 .skip
def c_laws_FnExactIsPotential_31 : ACode := .seq c_laws_FnExactIsPotential_27 c_laws_FnExactIsPotential_30
abbrev c_laws_FnExactIsPotential_o17 : List AJ := [.o ⟨(some 4), none, false, .mv (.c (.bool true)), (some [4])⟩]
def c_laws_FnExactIsPotential_32 : ACode := .region c_laws_FnExactIsPotential_o17
def c_laws_FnExactIsPotential_33 : ACode := .seq c_laws_FnExactIsPotential_32 .ret
def c_laws_FnExactIsPotential_34 : ACode := .seq c_laws_FnExactIsPotential_31 c_laws_FnExactIsPotential_33
def c_laws_FnExactIsPotential_35 : ACode := .seq c_laws_FnExactIsPotential_26 c_laws_FnExactIsPotential_34
def c_laws_FnExactIsPotential_36 : ACode := .seq c_laws_FnExactIsPotential_21 c_laws_FnExactIsPotential_35
def c_laws_FnExactIsPotential_37 : ACode := .seq c_laws_FnExactIsPotential_16 c_laws_FnExactIsPotential_36
def c_laws_FnExactIsPotential_38 : ACode := .seq c_laws_FnExactIsPotential_15 c_laws_FnExactIsPotential_37
def c_laws_FnExactIsPotential_39 : ACode := .seq c_laws_FnExactIsPotential_14 c_laws_FnExactIsPotential_38
def c_laws_FnExactIsPotential_40 : ACode := .seq c_laws_FnExactIsPotential_13 c_laws_FnExactIsPotential_39
def c_laws_FnExactIsPotential_41 : ACode := .seq c_laws_FnExactIsPotential_12 c_laws_FnExactIsPotential_40
def c_laws_FnExactIsPotential_42 : ACode := .seq c_laws_FnExactIsPotential_7 c_laws_FnExactIsPotential_41
def c_laws_FnExactIsPotential_43 : ACode := .seq c_laws_FnExactIsPotential_6 c_laws_FnExactIsPotential_42
def c_laws_FnExactIsPotential_44 : ACode := .seq c_laws_FnExactIsPotential_5 c_laws_FnExactIsPotential_43
def c_laws_FnExactIsPotential_45 : ACode := .seq c_laws_FnExactIsPotential_0 c_laws_FnExactIsPotential_44
section
variable (C : Cx) (n : Nat) (sk : List AItem) (e : Env) (h : Heap) (R : AV → Heap → Prop)
@[simp, simp ↓] theorem c_laws_FnExactIsPotential_0_r : vc2 C (n + 1) [] (.code c_laws_FnExactIsPotential_0 :: sk) e h R = (vc2 C n c_laws_FnExactIsPotential_o0 sk e h R) := nr rfl
@[simp, simp ↓] theorem c_laws_FnExactIsPotential_1_r : vc2 C (n + 1) [] (.code c_laws_FnExactIsPotential_1 :: sk) e h R = (vc2 C n c_laws_FnExactIsPotential_o1 sk e h R) := nr rfl
@[simp, simp ↓] theorem c_laws_FnExactIsPotential_2_r : vc2 C (n + 1) [] (.code c_laws_FnExactIsPotential_2 :: sk) e h R = (vc2 C n c_laws_FnExactIsPotential_o2 sk e h R) := nr rfl
@[simp, simp ↓] theorem c_laws_FnExactIsPotential_3_r : vc2 C (n + 1) [] (.code c_laws_FnExactIsPotential_3 :: sk) e h R = (vc2 C n [] (.code c_laws_FnExactIsPotential_2 :: .code .ret :: sk) e h R) := nr rfl
@[simp, simp ↓] theorem c_laws_FnExactIsPotential_4_r : vc2 C (n + 1) [] (.code c_laws_FnExactIsPotential_4 :: sk) e h R = (condK (ev e (.t 12)) (vc2 C n [] (.code c_laws_FnExactIsPotential_3 :: sk) e h R) (vc2 C n [] (.code .skip :: sk) e h R)) := nr rfl
@[simp, simp ↓] theorem c_laws_FnExactIsPotential_5_r : vc2 C (n + 1) [] (.code c_laws_FnExactIsPotential_5 :: sk) e h R = (vc2 C n [] (.code c_laws_FnExactIsPotential_1 :: .code c_laws_FnExactIsPotential_4 :: sk) e h R) := nr rfl
@[simp, simp ↓] theorem c_laws_FnExactIsPotential_6_r : vc2 C (n + 1) [] (.code c_laws_FnExactIsPotential_6 :: sk) e h R = (vc2 C n c_laws_FnExactIsPotential_o3 sk e h R) := nr rfl
@[simp, simp ↓] theorem c_laws_FnExactIsPotential_7_r : vc2 C (n + 1) [] (.code c_laws_FnExactIsPotential_7 :: sk) e h R = (vc2 C n c_laws_FnExactIsPotential_o4 sk e h R) := nr rfl
@[simp, simp ↓] theorem c_laws_FnExactIsPotential_8_r : vc2 C (n + 1) [] (.code c_laws_FnExactIsPotential_8 :: sk) e h R = (vc2 C n c_laws_FnExactIsPotential_o5 sk e h R) := nr rfl
@[simp, simp ↓] theorem c_laws_FnExactIsPotential_9_r : vc2 C (n + 1) [] (.code c_laws_FnExactIsPotential_9 :: sk) e h R = (vc2 C n c_laws_FnExactIsPotential_o6 sk e h R) := nr rfl
@[simp, simp ↓] theorem c_laws_FnExactIsPotential_10_r : vc2 C (n + 1) [] (.code c_laws_FnExactIsPotential_10 :: sk) e h R = (vc2 C n [] (.code c_laws_FnExactIsPotential_9 :: .code .ret :: sk) e h R) := nr rfl
@[simp, simp ↓] theorem c_laws_FnExactIsPotential_11_r : vc2 C (n + 1) [] (.code c_laws_FnExactIsPotential_11 :: sk) e h R = (condK (ev e (.t 17)) (vc2 C n [] (.code c_laws_FnExactIsPotential_10 :: sk) e h R) (vc2 C n [] (.code .skip :: sk) e h R)) := nr rfl
@[simp, simp ↓] theorem c_laws_FnExactIsPotential_12_r : vc2 C (n + 1) [] (.code c_laws_FnExactIsPotential_12 :: sk) e h R = (vc2 C n [] (.code c_laws_FnExactIsPotential_8 :: .code c_laws_FnExactIsPotential_11 :: sk) e h R) := nr rfl
@[simp, simp ↓] theorem c_laws_FnExactIsPotential_13_r : vc2 C (n + 1) [] (.code c_laws_FnExactIsPotential_13 :: sk) e h R = (vc2 C n c_laws_FnExactIsPotential_o7 sk e h R) := nr rfl
@[simp, simp ↓] theorem c_laws_FnExactIsPotential_14_r : vc2 C (n + 1) [] (.code c_laws_FnExactIsPotential_14 :: sk) e h R = (vc2 C n c_laws_FnExactIsPotential_o8 sk e h R) := nr rfl
@[simp, simp ↓] theorem c_laws_FnExactIsPotential_15_r : vc2 C (n + 1) [] (.code c_laws_FnExactIsPotential_15 :: sk) e h R = (vc2 C n c_laws_FnExactIsPotential_o9 sk e h R) := nr rfl
@[simp, simp ↓] theorem c_laws_FnExactIsPotential_16_r : vc2 C (n + 1) [] (.code c_laws_FnExactIsPotential_16 :: sk) e h R = (vc2 C n c_laws_FnExactIsPotential_o10 sk e h R) := nr rfl
@[simp, simp ↓] theorem c_laws_FnExactIsPotential_17_r : vc2 C (n + 1) [] (.code c_laws_FnExactIsPotential_17 :: sk) e h R = (vc2 C n c_laws_FnExactIsPotential_o11 sk e h R) := nr rfl
@[simp, simp ↓] theorem c_laws_FnExactIsPotential_18_r : vc2 C (n + 1) [] (.code c_laws_FnExactIsPotential_18 :: sk) e h R = (vc2 C n c_laws_FnExactIsPotential_o12 sk e h R) := nr rfl
@[simp, simp ↓] theorem c_laws_FnExactIsPotential_19_r : vc2 C (n + 1) [] (.code c_laws_FnExactIsPotential_19 :: sk) e h R = (vc2 C n [] (.code c_laws_FnExactIsPotential_18 :: .code .ret :: sk) e h R) := nr rfl
@[simp, simp ↓] theorem c_laws_FnExactIsPotential_20_r : vc2 C (n + 1) [] (.code c_laws_FnExactIsPotential_20 :: sk) e h R = (condK (ev e (.t 32)) (vc2 C n [] (.code c_laws_FnExactIsPotential_19 :: sk) e h R) (vc2 C n [] (.code .skip :: sk) e h R)) := nr rfl
@[simp, simp ↓] theorem c_laws_FnExactIsPotential_21_r : vc2 C (n + 1) [] (.code c_laws_FnExactIsPotential_21 :: sk) e h R = (vc2 C n [] (.code c_laws_FnExactIsPotential_17 :: .code c_laws_FnExactIsPotential_20 :: sk) e h R) := nr rfl
@[simp, simp ↓] theorem c_laws_FnExactIsPotential_22_r : vc2 C (n + 1) [] (.code c_laws_FnExactIsPotential_22 :: sk) e h R = (draw2 C h (vK C n [] sk R h) c_laws_FnExactIsPotential_o13 e) := nr rfl
@[simp, simp ↓] theorem c_laws_FnExactIsPotential_23_r : vc2 C (n + 1) [] (.code c_laws_FnExactIsPotential_23 :: sk) e h R = (vc2 C n c_laws_FnExactIsPotential_o14 sk e h R) := nr rfl
@[simp, simp ↓] theorem c_laws_FnExactIsPotential_24_r : vc2 C (n + 1) [] (.code c_laws_FnExactIsPotential_24 :: sk) e h R = (vc2 C n [] (.code c_laws_FnExactIsPotential_23 :: .code .ret :: sk) e h R) := nr rfl
@[simp, simp ↓] theorem c_laws_FnExactIsPotential_25_r : vc2 C (n + 1) [] (.code c_laws_FnExactIsPotential_25 :: sk) e h R = (condK (ev e (.t 37)) (vc2 C n [] (.code c_laws_FnExactIsPotential_24 :: sk) e h R) (vc2 C n [] (.code .skip :: sk) e h R)) := nr rfl
@[simp, simp ↓] theorem c_laws_FnExactIsPotential_26_r : vc2 C (n + 1) [] (.code c_laws_FnExactIsPotential_26 :: sk) e h R = (vc2 C n [] (.code c_laws_FnExactIsPotential_22 :: .code c_laws_FnExactIsPotential_25 :: sk) e h R) := nr rfl
@[simp, simp ↓] theorem c_laws_FnExactIsPotential_27_r : vc2 C (n + 1) [] (.code c_laws_FnExactIsPotential_27 :: sk) e h R = (vc2 C n c_laws_FnExactIsPotential_o15 sk e h R) := nr rfl
@[simp, simp ↓] theorem c_laws_FnExactIsPotential_28_r : vc2 C (n + 1) [] (.code c_laws_FnExactIsPotential_28 :: sk) e h R = (vc2 C n c_laws_FnExactIsPotential_o16 sk e h R) := nr rfl
@[simp, simp ↓] theorem c_laws_FnExactIsPotential_29_r : vc2 C (n + 1) [] (.code c_laws_FnExactIsPotential_29 :: sk) e h R = (vc2 C n [] (.code c_laws_FnExactIsPotential_28 :: .code .ret :: sk) e h R) := nr rfl
@[simp, simp ↓] theorem c_laws_FnExactIsPotential_30_r : vc2 C (n + 1) [] (.code c_laws_FnExactIsPotential_30 :: sk) e h R = (condK (ev e (.t 42)) (vc2 C n [] (.code c_laws_FnExactIsPotential_29 :: sk) e h R) (vc2 C n [] (.code .skip :: sk) e h R)) := nr rfl
@[simp, simp ↓] theorem c_laws_FnExactIsPotential_31_r : vc2 C (n + 1) [] (.code c_laws_FnExactIsPotential_31 :: sk) e h R = (vc2 C n [] (.code c_laws_FnExactIsPotential_27 :: .code c_laws_FnExactIsPotential_30 :: sk) e h R) := nr rfl
@[simp, simp ↓] theorem c_laws_FnExactIsPotential_32_r : vc2 C (n + 1) [] (.code c_laws_FnExactIsPotential_32 :: sk) e h R = (vc2 C n c_laws_FnExactIsPotential_o17 sk e h R) := nr rfl
@[simp, simp ↓] theorem c_laws_FnExactIsPotential_33_r : vc2 C (n + 1) [] (.code c_laws_FnExactIsPotential_33 :: sk) e h R = (vc2 C n [] (.code c_laws_FnExactIsPotential_32 :: .code .ret :: sk) e h R) := nr rfl
@[simp, simp ↓] theorem c_laws_FnExactIsPotential_34_r : vc2 C (n + 1) [] (.code c_laws_FnExactIsPotential_34 :: sk) e h R = (vc2 C n [] (.code c_laws_FnExactIsPotential_31 :: .code c_laws_FnExactIsPotential_33 :: sk) e h R) := nr rfl
@[simp, simp ↓] theorem c_laws_FnExactIsPotential_35_r : vc2 C (n + 1) [] (.code c_laws_FnExactIsPotential_35 :: sk) e h R = (vc2 C n [] (.code c_laws_FnExactIsPotential_26 :: .code c_laws_FnExactIsPotential_34 :: sk) e h R) := nr rfl
@[simp, simp ↓] theorem c_laws_FnExactIsPotential_36_r : vc2 C (n + 1) [] (.code c_laws_FnExactIsPotential_36 :: sk) e h R = (vc2 C n [] (.code c_laws_FnExactIsPotential_21 :: .code c_laws_FnExactIsPotential_35 :: sk) e h R) := nr rfl
@[simp, simp ↓] theorem c_laws_FnExactIsPotential_37_r : vc2 C (n + 1) [] (.code c_laws_FnExactIsPotential_37 :: sk) e h R = (vc2 C n [] (.code c_laws_FnExactIsPotential_16 :: .code c_laws_FnExactIsPotential_36 :: sk) e h R) := nr rfl
@[simp, simp ↓] theorem c_laws_FnExactIsPotential_38_r : vc2 C (n + 1) [] (.code c_laws_FnExactIsPotential_38 :: sk) e h R = (vc2 C n [] (.code c_laws_FnExactIsPotential_15 :: .code c_laws_FnExactIsPotential_37 :: sk) e h R) := nr rfl
@[simp, simp ↓] theorem c_laws_FnExactIsPotential_39_r : vc2 C (n + 1) [] (.code c_laws_FnExactIsPotential_39 :: sk) e h R = (vc2 C n [] (.code c_laws_FnExactIsPotential_14 :: .code c_laws_FnExactIsPotential_38 :: sk) e h R) := nr rfl
@[simp, simp ↓] theorem c_laws_FnExactIsPotential_40_r : vc2 C (n + 1) [] (.code c_laws_FnExactIsPotential_40 :: sk) e h R = (vc2 C n [] (.code c_laws_FnExactIsPotential_13 :: .code c_laws_FnExactIsPotential_39 :: sk) e h R) := nr rfl
@[simp, simp ↓] theorem c_laws_FnExactIsPotential_41_r : vc2 C (n + 1) [] (.code c_laws_FnExactIsPotential_41 :: sk) e h R = (vc2 C n [] (.code c_laws_FnExactIsPotential_12 :: .code c_laws_FnExactIsPotential_40 :: sk) e h R) := nr rfl
@[simp, simp ↓] theorem c_laws_FnExactIsPotential_42_r : vc2 C (n + 1) [] (.code c_laws_FnExactIsPotential_42 :: sk) e h R = (vc2 C n [] (.code c_laws_FnExactIsPotential_7 :: .code c_laws_FnExactIsPotential_41 :: sk) e h R) := nr rfl
@[simp, simp ↓] theorem c_laws_FnExactIsPotential_43_r : vc2 C (n + 1) [] (.code c_laws_FnExactIsPotential_43 :: sk) e h R = (vc2 C n [] (.code c_laws_FnExactIsPotential_6 :: .code c_laws_FnExactIsPotential_42 :: sk) e h R) := nr rfl
@[simp, simp ↓] theorem c_laws_FnExactIsPotential_44_r : vc2 C (n + 1) [] (.code c_laws_FnExactIsPotential_44 :: sk) e h R = (vc2 C n [] (.code c_laws_FnExactIsPotential_5 :: .code c_laws_FnExactIsPotential_43 :: sk) e h R) := nr rfl
@[simp, simp ↓] theorem c_laws_FnExactIsPotential_45_r : vc2 C (n + 1) [] (.code c_laws_FnExactIsPotential_45 :: sk) e h R = (vc2 C n [] (.code c_laws_FnExactIsPotential_0 :: .code c_laws_FnExactIsPotential_44 :: sk) e h R) := nr rfl
end
noncomputable def c_laws_FnExactIsPotential_C (orc : Orc) : Cx := ⟨Try.prog, [7], 6, 43, [.tmp 4], orc⟩
@[simp] theorem c_laws_FnExactIsPotential_C_P (orc : Orc) : (c_laws_FnExactIsPotential_C orc).P = Try.prog := nr rfl
@[simp] theorem c_laws_FnExactIsPotential_C_o (orc : Orc) : (c_laws_FnExactIsPotential_C orc).orc = orc := nr rfl
@[simp] theorem c_laws_FnExactIsPotential_C_r (orc : Orc) : (c_laws_FnExactIsPotential_C orc).res = [.tmp 4] := nr rfl
theorem c_laws_FnExactIsPotential_of {args : List AV} {h : Heap} {R : AV → Heap → Prop} {k : Nat} (ha : args.length = k) {orc : Orc} (hp : Pure Try.prog orc) (hk : Is (c_laws_FnExactIsPotential_C orc) Try.f6 → Run2 (c_laws_FnExactIsPotential_C orc) [.code c_laws_FnExactIsPotential_45] (argEnv 0 args) h (Post R)) (hle : k ≤ 43 := by simp) : ACalls Try.prog 6 args h R :=
  contract2 [7] c_laws_FnExactIsPotential_45 [.tmp 4] Try.func6 (by decide +kernel) rfl (by kernel_rfl) (by rw [ha]; exact hle) (by kernel_rfl) hp hk
theorem c_laws_FnExactIsPotential_of0 {args : List AV} {h : Heap} {R : AV → Heap → Prop} {k : Nat} (ha : args.length = k) {orc : Orc} (hp : Pure Try.prog orc) (hk : Is (c_laws_FnExactIsPotential_C orc) Try.f6 → Run2 (c_laws_FnExactIsPotential_C orc) [.code c_laws_FnExactIsPotential_45] (argEnv 0 args) h R) (hle : k ≤ 43 := by simp) : ACalls Try.prog 6 args h R :=
  contract20 [7] c_laws_FnExactIsPotential_45 [.tmp 4] Try.func6 (by decide +kernel) rfl (by kernel_rfl) (by rw [ha]; exact hle) (by kernel_rfl) hp hk
theorem pot_law (x : Ph) (hx : x.wf) (p : List Int) (hp : wfI p) : ACalls Try.prog 6 [x.av, (.snap 1 (p.map iv))] [] (fun v h' => v = .bool true ∧ h' = []) := by
  refine c_laws_FnExactIsPotential_of rfl orcM_p fun I => ?_
  have hx2_x := hx.2
  have hx2_p := hp.2
  refine Run2.of I 1000 ?_
  by_cases lp : p.length ≤ 1048576
  · have hAp : ¬ (1048576 : Int) < p.length := by omega
    by_cases kx : (x.ts.length : Int) ≤ (1048576 : Int)
    · have hAx : ¬ (1048576 : Int) < x.ts.length := by omega
      have hBx : ¬ (1048576 : Int) - x.ts.length < 0 := by omega
      have hCx : (0 : Int) ≤ (1048576 : Int) - x.ts.length := by omega
      have lx : x.ts.length ≤ 1048576 := by omega
      simp -implicitDefEqProofs [hx2_x, hx2_p, hAp, hAx, hBx, hCx]
      first | refine dcallK (toPhases_c x _ lx) ?_ | (refine (toPhases_c x _ lx).mono ?_; rintro v h' ⟨rfl, rfl⟩; refine gK.go ?_)
      simp -implicitDefEqProofs
      first | refine dcallK (toInt64S_c p _ lp) ?_ | (refine (toInt64S_c p _ lp).mono ?_; rintro v h' ⟨rfl, rfl⟩; refine gK.go ?_)
      simp -implicitDefEqProofs
      first | refine dcallK (specIsPot_c x p _ hx.1 lx lp) ?_ | (refine (specIsPot_c x p _ hx.1 lx lp).mono ?_; rintro v h' ⟨rfl, rfl⟩; refine gK.go ?_)
      simp -implicitDefEqProofs
      refine (toPhases_o x _ lx).monoN ?_
      rintro v0 h' ⟨g0, o0, d0, rfl⟩ n0
      obtain ⟨u0, rfl, ou0⟩ := id o0
      have c0 := ou0.cell
      refine gK.go ?_
      simp -implicitDefEqProofs [c0]
      refine (toInt64S_o p _ lp).monoN ?_
      rintro v1 h' ⟨g1, o1, d1, rfl⟩ n1
      refine gK.go ?_
      simp -implicitDefEqProofs [c0]
      skip
      have L0 := o0.lentIn (L := (g1 ++ g0)) (fun p hp => List.mem_append_right _ (hp)) n1
      have L1 := o1.lentIn cold_iv1 (L := (g1 ++ g0)) (fun p hp => List.mem_append_left _ hp) n1
      first | refine dcallK (ACalls.reads (g1 ++ g0) (fun p hp => hp) (v0 := .bool (decide (x.valid ∧ vec p x.n x.m ∧ x.wr p x.ts.length = []))) ?_ rfl) ?_ | (refine (ACalls.reads (g1 ++ g0) (fun p hp => hp) (v0 := .bool (decide (x.valid ∧ vec p x.n x.m ∧ x.wr p x.ts.length = []))) ?_ rfl).mono ?_)
      · rw [lend_cons, lend_cons, lend_nil']
        exact ACalls.wk (.cons L0.wk (.cons L1.wk .nil)) (implIsPot_c x p [] hx.1 lx lp)
      try (rintro v h' ⟨rfl, rfl⟩; refine gK.go ?_)
      simp -implicitDefEqProofs [c0]
      first | refine dcallK (toPhases_c x _ lx) ?_ | (refine (toPhases_c x _ lx).mono ?_; rintro v h' ⟨rfl, rfl⟩; refine gK.go ?_)
      simp -implicitDefEqProofs [c0]
      first | refine dcallK (eqPh_own o0 x.is (fun p hp => List.mem_append_right _ (hp)) lx) ?_ | (refine (eqPh_own o0 x.is (fun p hp => List.mem_append_right _ (hp)) lx).mono ?_; rintro v h' ⟨rfl, rfl⟩; refine gK.go ?_)
      simp -implicitDefEqProofs [c0]
      first | refine dcallK (toInt64S_c p _ lp) ?_ | (refine (toInt64S_c p _ lp).mono ?_; rintro v h' ⟨rfl, rfl⟩; refine gK.go ?_)
      simp -implicitDefEqProofs [c0]
      first | refine dcallK (eqI_own o1 (.snap p) (fun p hp => List.mem_append_left _ hp) lp) ?_ | (refine (eqI_own o1 (.snap p) (fun p hp => List.mem_append_left _ hp) lp).mono ?_; rintro v h' ⟨rfl, rfl⟩; refine gK.go ?_)
      simp -implicitDefEqProofs [c0]
      exact Post.none ⟨rfl, rfl⟩
    · have hAx : (1048576 : Int) < x.ts.length := by omega
      simp -implicitDefEqProofs [hx2_x, hx2_p, hAp, hAx]
      exact .base ⟨rfl, rfl⟩
  · have hAp : (1048576 : Int) < p.length := by omega
    simp -implicitDefEqProofs [hx2_x, hx2_p, hAp]
    exact .base ⟨rfl, rfl⟩
end Go.AG
namespace Go.Proofs.Ytknonamjhdlmlaa
open Go.ChangeShapes Go.WideShapes Go.ChangeAt Go.RowKit Go.AG
theorem own : ownKnob Try.prog.godebug = none := by kernel_rfl
theorem laidOut : laidOutB Try.prog = true := by kernel_rfl
set_option maxRecDepth 100000 in
theorem fnExactIsPotential_lifted (os : Os) (started : os.Started) (H : Type) (enc : TypeId × Value → H) :
    ReturnsInHanded {} Try.checked os 6 .any (Rows.fnExactIsPotentialSpec.pre6 enc Try.prog Try.f6 Rows.fnExactIsPotentialRow.domain false) (Rows.fnExactIsPotentialSpec.post enc Try.prog Try.f6 false true false false) := by
  refine returnsInHanded_of_change (C := Try.checked) own started (by kernel_rfl) Try.func6
    (ChangeSpec.witness6 (enc := enc) (C := Try.checked) false ⟨#[], #[.agg #[.int .i64 0, .int .i64 0, .slice none 0 0], .slice none 0 0], []⟩ 8 (by kernel_rfl) (by kernel_rfl) (by kernel_rfl) (by kernel_rfl)) ?_
  intro W base args ds gs before hval0 hW _ _
  have hval : ∀ (j : Nat) t v, Try.f6.params[j]? = some t → args[j]? = some v → Value.okWide Try.prog W .any base t v := hval0
  refine law_post (tys := [tyPh, (.slice (.int .i64))]) (tb := 4) laidOut rfl (by kernel_rfl) (by kernel_rfl) (by kernel_rfl) (by kernel_rfl) hval hW ?_ ?_
  · intro ds h
    match ds, h with
    | [a0, a1], _ => rfl
  · rintro xs ⟨x0, r0, rfl, h0, x1, r1, rfl, h1, hr⟩
    have hr0 : r1 = [] := hr
    subst hr0
    obtain ⟨p0, rfl, q0⟩ := Ph_of_shape h0
    obtain ⟨p1, rfl, q1⟩ := Ints_of_shape h1
    exact pot_law p0 q0 p1 q1
theorem fnExactIsPotential_holds : Rows.FnExactIsPotentialSaid :=
  OpenClaim.holds_of_wide 6 Try.f6 rfl rfl rfl rfl rfl rfl rfl ⟨rfl, rfl, rfl, rfl, rfl⟩ rfl rfl rfl rfl rfl (by kernel_rfl) Try.func6 (by kernel_rfl)
    (of_decide_eq_true (by kernel_rfl)) (by unfold Func.isWrapper; first | (rw [if_pos (by decide +kernel)]; kernel_rfl) | (rw [if_neg (by decide +kernel)]; exact ⟨rfl, rfl⟩))
    (fun os started H enc _ => fnExactIsPotential_lifted os started H enc)
end Go.Proofs.Ytknonamjhdlmlaa
