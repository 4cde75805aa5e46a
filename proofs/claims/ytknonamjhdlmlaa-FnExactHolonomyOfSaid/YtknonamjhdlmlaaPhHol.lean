/- The law FnExactHolonomyOf is true for every input: the program's HolonomyOf returns what the reference's returns. -/
import Derived.Test.YtknonamjhdlmlaaPhHolA
namespace Go.AG
open Go.Proofs Go.Proofs.Ytknonamjhdlmlaa
set_option linter.unusedSimpArgs false
set_option linter.unusedVariables false
set_option maxRecDepth 4000
noncomputable def orcM : List (Nat × (List AV → Option (Prop × AV))) := (14, o_szPhases) :: []
theorem orcM_p : Pure Try.prog (lk orcM) := (lk_pure o_szPhases_k lk_pure0)
@[simp] theorem orcM_l (g : FuncId) (l : List AV) : lk orcM g l = if g = 14 then o_szPhases l else none := nr rfl
abbrev c_laws_FnExactHolonomyOf_o0 : List AJ := [.o ⟨(some 2), none, false, .box false 3 (.t 0), none⟩, .o ⟨(some 4), none, false, .mv (.c (.bool false)), (some [1, 2])⟩]
def c_laws_FnExactHolonomyOf_0 : ACode := .region c_laws_FnExactHolonomyOf_o0
abbrev c_laws_FnExactHolonomyOf_o1 : List AJ := [.o ⟨(some 12), none, false, .mv (.t 1), none⟩, .o ⟨(some 13), none, false, .len (.t 12), none⟩, .o ⟨(some 14), none, false, .bin .gtr (.t 13) (.c (.int .i64 1048576)), (some [1, 2, 14])⟩]
def c_laws_FnExactHolonomyOf_1 : ACode := .region c_laws_FnExactHolonomyOf_o1
abbrev c_laws_FnExactHolonomyOf_o2 : List AJ := [.o ⟨(some 4), none, false, .mv (.c (.bool true)), (some [4])⟩]
def c_laws_FnExactHolonomyOf_2 : ACode := .region c_laws_FnExactHolonomyOf_o2
def c_laws_FnExactHolonomyOf_3 : ACode := .seq c_laws_FnExactHolonomyOf_2 .ret
def c_laws_FnExactHolonomyOf_4 : ACode := .cond (.t 14) c_laws_FnExactHolonomyOf_3 .skip
def c_laws_FnExactHolonomyOf_5 : ACode := .seq c_laws_FnExactHolonomyOf_1 c_laws_FnExactHolonomyOf_4
abbrev c_laws_FnExactHolonomyOf_o3 : List AJ := [.o ⟨(some 5), none, false, .mv (.c (.int .i64 1048576)), (some [1, 2, 5])⟩]
def c_laws_FnExactHolonomyOf_6 : ACode := .region c_laws_FnExactHolonomyOf_o3
abbrev c_laws_FnExactHolonomyOf_o4 : List AJ := [.o ⟨(some 15), none, false, .load 3 true (.t 2), none⟩, .o ⟨(some 16), none, false, .mv (.t 5), none⟩, .o ⟨(some 17), none, false, .call 14 [(.t 15), (.t 16)], none⟩, .o ⟨(some 5), none, false, .mv (.t 17), (some [1, 2, 5])⟩]
def c_laws_FnExactHolonomyOf_7 : ACode := .region c_laws_FnExactHolonomyOf_o4
abbrev c_laws_FnExactHolonomyOf_o5 : List AJ := [.o ⟨(some 18), none, false, .mv (.t 5), none⟩, .o ⟨(some 19), none, false, .bin .lss (.t 18) (.c (.int .i64 0)), (some [1, 2, 19])⟩]
def c_laws_FnExactHolonomyOf_8 : ACode := .region c_laws_FnExactHolonomyOf_o5
abbrev c_laws_FnExactHolonomyOf_o6 : List AJ := [.o ⟨(some 4), none, false, .mv (.c (.bool true)), (some [4])⟩]
def c_laws_FnExactHolonomyOf_9 : ACode := .region c_laws_FnExactHolonomyOf_o6
def c_laws_FnExactHolonomyOf_10 : ACode := .seq c_laws_FnExactHolonomyOf_9 .ret
def c_laws_FnExactHolonomyOf_11 : ACode := .cond (.t 19) c_laws_FnExactHolonomyOf_10 .skip
def c_laws_FnExactHolonomyOf_12 : ACode := .seq c_laws_FnExactHolonomyOf_8 c_laws_FnExactHolonomyOf_11
abbrev c_laws_FnExactHolonomyOf_o7 : List AJ := [.o ⟨(some 21), none, false, .load 3 true (.t 2), none⟩, .o ⟨(some 22), none, false, .call 16 [(.t 21)], none⟩, .o ⟨(some 23), none, false, .mv (.t 1), none⟩, .o ⟨(some 24), none, false, .call 22 [(.t 23)], none⟩, .o ⟨(some 25), none, false, .call 21 [(.t 22), (.t 24)], none⟩, .o ⟨(some 20), none, false, .mv (.t 25), none⟩, .o ⟨(some 26), none, false, .extract (.t 20) 0, none⟩, .o ⟨(some 27), none, false, .extract (.t 20) 1, none⟩, .o ⟨(some 6), none, false, .mv (.t 26), none⟩, .o ⟨(some 7), none, false, .mv (.t 27), (some [1, 2, 6, 7])⟩]
def c_laws_FnExactHolonomyOf_13 : ACode := .region c_laws_FnExactHolonomyOf_o7
abbrev c_laws_FnExactHolonomyOf_o8 : List AJ := [.o ⟨(some 28), none, false, .load 3 true (.t 2), none⟩, .o ⟨(some 29), none, false, .call 16 [(.t 28)], none⟩, .v 8 3 (.agg [(.int .i64 0), (.int .i64 0), .nilsl]) [] (.t 29) (some [1, 2, 6, 7, 8])]
def c_laws_FnExactHolonomyOf_14 : ACode := .region c_laws_FnExactHolonomyOf_o8
abbrev c_laws_FnExactHolonomyOf_o9 : List AJ := [.o ⟨(some 30), none, false, .mv (.t 1), none⟩, .o ⟨(some 31), none, false, .call 22 [(.t 30)], none⟩, .o ⟨(some 9), none, false, .mv (.t 31), (some [1, 2, 6, 7, 8, 9])⟩]
def c_laws_FnExactHolonomyOf_15 : ACode := .region c_laws_FnExactHolonomyOf_o9
abbrev c_laws_FnExactHolonomyOf_o10 : List AJ := [.o ⟨(some 33), none, false, .load 3 true (.t 8), none⟩, .o ⟨(some 34), none, false, .mv (.t 9), none⟩, .o ⟨(some 35), none, false, .call 23 [(.t 33), (.t 34)], none⟩, .o ⟨(some 32), none, false, .mv (.t 35), none⟩, .o ⟨(some 36), none, false, .extract (.t 32) 0, none⟩, .o ⟨(some 37), none, false, .extract (.t 32) 1, none⟩, .o ⟨(some 10), none, false, .mv (.t 36), none⟩, .o ⟨(some 11), none, false, .mv (.t 37), (some [1, 2, 6, 7, 8, 9, 10, 11])⟩]
def c_laws_FnExactHolonomyOf_16 : ACode := .region c_laws_FnExactHolonomyOf_o10
abbrev c_laws_FnExactHolonomyOf_o11 : List AJ := [.o ⟨(some 38), none, false, .mv (.t 10), none⟩, .o ⟨(some 39), none, false, .mv (.t 6), none⟩, .o ⟨(some 40), none, false, .bin .neq (.t 38) (.t 39), none⟩, .o ⟨(some 41), none, false, .mv (.t 40), none⟩, .o ⟨(some 42), (some (41, false)), false, .mv (.t 11), none⟩, .o ⟨(some 43), (some (41, false)), false, .mv (.t 7), none⟩, .o ⟨(some 44), (some (41, false)), false, .bin .neq (.t 42) (.t 43), none⟩, .o ⟨(some 45), none, false, .pick (.t 41) (.c (.bool true)) (.t 44), (some [1, 2, 8, 9, 45])⟩]
def c_laws_FnExactHolonomyOf_17 : ACode := .region c_laws_FnExactHolonomyOf_o11
abbrev c_laws_FnExactHolonomyOf_o12 : List AJ := [.o ⟨(some 4), none, false, .mv (.c (.bool false)), (some [4])⟩]
def c_laws_FnExactHolonomyOf_18 : ACode := .region c_laws_FnExactHolonomyOf_o12
def c_laws_FnExactHolonomyOf_19 : ACode := .seq c_laws_FnExactHolonomyOf_18 .ret
def c_laws_FnExactHolonomyOf_20 : ACode := .cond (.t 45) c_laws_FnExactHolonomyOf_19 .skip
def c_laws_FnExactHolonomyOf_21 : ACode := .seq c_laws_FnExactHolonomyOf_17 c_laws_FnExactHolonomyOf_20
abbrev c_laws_FnExactHolonomyOf_o13 : List AI := [⟨(some 46), none, false, .load 3 true (.t 8), none⟩, ⟨(some 47), none, false, .load 3 true (.t 2), none⟩, ⟨(some 48), none, false, .call 16 [(.t 47)], none⟩, ⟨(some 49), none, false, .call 18 [(.t 46), (.t 48)], none⟩, ⟨(some 50), none, false, .un .not (.t 49), (some [1, 9, 50])⟩]
def c_laws_FnExactHolonomyOf_22 : ACode := .draw c_laws_FnExactHolonomyOf_o13 [] rfl
abbrev c_laws_FnExactHolonomyOf_o14 : List AJ := [.o ⟨(some 4), none, false, .mv (.c (.bool false)), (some [4])⟩]
def c_laws_FnExactHolonomyOf_23 : ACode := .region c_laws_FnExactHolonomyOf_o14
def c_laws_FnExactHolonomyOf_24 : ACode := .seq c_laws_FnExactHolonomyOf_23 .ret
def c_laws_FnExactHolonomyOf_25 : ACode := .cond (.t 50) c_laws_FnExactHolonomyOf_24 .skip
def c_laws_FnExactHolonomyOf_26 : ACode := .seq c_laws_FnExactHolonomyOf_22 c_laws_FnExactHolonomyOf_25
abbrev c_laws_FnExactHolonomyOf_o15 : List AJ := [.o ⟨(some 51), none, false, .mv (.t 9), none⟩, .o ⟨(some 52), none, false, .mv (.t 1), none⟩, .o ⟨(some 53), none, false, .call 22 [(.t 52)], none⟩, .o ⟨(some 54), none, false, .call 24 [(.t 51), (.t 53)], none⟩, .o ⟨(some 55), none, false, .un .not (.t 54), (some [55])⟩]
def c_laws_FnExactHolonomyOf_27 : ACode := .region c_laws_FnExactHolonomyOf_o15
abbrev c_laws_FnExactHolonomyOf_o16 : List AJ := [.o ⟨(some 4), none, false, .mv (.c (.bool false)), (some [4])⟩]
def c_laws_FnExactHolonomyOf_28 : ACode := .region c_laws_FnExactHolonomyOf_o16
def c_laws_FnExactHolonomyOf_29 : ACode := .seq c_laws_FnExactHolonomyOf_28 .ret
def c_laws_FnExactHolonomyOf_30 : ACode := .cond (.t 55) c_laws_FnExactHolonomyOf_29 .skip
def c_laws_FnExactHolonomyOf_31 : ACode := .seq c_laws_FnExactHolonomyOf_27 c_laws_FnExactHolonomyOf_30
abbrev c_laws_FnExactHolonomyOf_o17 : List AJ := [.o ⟨(some 4), none, false, .mv (.c (.bool true)), (some [4])⟩]
def c_laws_FnExactHolonomyOf_32 : ACode := .region c_laws_FnExactHolonomyOf_o17
def c_laws_FnExactHolonomyOf_33 : ACode := .seq c_laws_FnExactHolonomyOf_32 .ret
def c_laws_FnExactHolonomyOf_34 : ACode := .seq c_laws_FnExactHolonomyOf_31 c_laws_FnExactHolonomyOf_33
def c_laws_FnExactHolonomyOf_35 : ACode := .seq c_laws_FnExactHolonomyOf_26 c_laws_FnExactHolonomyOf_34
def c_laws_FnExactHolonomyOf_36 : ACode := .seq c_laws_FnExactHolonomyOf_21 c_laws_FnExactHolonomyOf_35
def c_laws_FnExactHolonomyOf_37 : ACode := .seq c_laws_FnExactHolonomyOf_16 c_laws_FnExactHolonomyOf_36
def c_laws_FnExactHolonomyOf_38 : ACode := .seq c_laws_FnExactHolonomyOf_15 c_laws_FnExactHolonomyOf_37
def c_laws_FnExactHolonomyOf_39 : ACode := .seq c_laws_FnExactHolonomyOf_14 c_laws_FnExactHolonomyOf_38
def c_laws_FnExactHolonomyOf_40 : ACode := .seq c_laws_FnExactHolonomyOf_13 c_laws_FnExactHolonomyOf_39
def c_laws_FnExactHolonomyOf_41 : ACode := .seq c_laws_FnExactHolonomyOf_12 c_laws_FnExactHolonomyOf_40
def c_laws_FnExactHolonomyOf_42 : ACode := .seq c_laws_FnExactHolonomyOf_7 c_laws_FnExactHolonomyOf_41
def c_laws_FnExactHolonomyOf_43 : ACode := .seq c_laws_FnExactHolonomyOf_6 c_laws_FnExactHolonomyOf_42
def c_laws_FnExactHolonomyOf_44 : ACode := .seq c_laws_FnExactHolonomyOf_5 c_laws_FnExactHolonomyOf_43
def c_laws_FnExactHolonomyOf_45 : ACode := .seq c_laws_FnExactHolonomyOf_0 c_laws_FnExactHolonomyOf_44
section
variable (C : Cx) (n : Nat) (sk : List AItem) (e : Env) (h : Heap) (R : AV → Heap → Prop)
@[simp, simp ↓] theorem c_laws_FnExactHolonomyOf_0_r : vc2 C (n + 1) [] (.code c_laws_FnExactHolonomyOf_0 :: sk) e h R = (vc2 C n c_laws_FnExactHolonomyOf_o0 sk e h R) := nr rfl
@[simp, simp ↓] theorem c_laws_FnExactHolonomyOf_1_r : vc2 C (n + 1) [] (.code c_laws_FnExactHolonomyOf_1 :: sk) e h R = (vc2 C n c_laws_FnExactHolonomyOf_o1 sk e h R) := nr rfl
@[simp, simp ↓] theorem c_laws_FnExactHolonomyOf_2_r : vc2 C (n + 1) [] (.code c_laws_FnExactHolonomyOf_2 :: sk) e h R = (vc2 C n c_laws_FnExactHolonomyOf_o2 sk e h R) := nr rfl
@[simp, simp ↓] theorem c_laws_FnExactHolonomyOf_3_r : vc2 C (n + 1) [] (.code c_laws_FnExactHolonomyOf_3 :: sk) e h R = (vc2 C n [] (.code c_laws_FnExactHolonomyOf_2 :: .code .ret :: sk) e h R) := nr rfl
@[simp, simp ↓] theorem c_laws_FnExactHolonomyOf_4_r : vc2 C (n + 1) [] (.code c_laws_FnExactHolonomyOf_4 :: sk) e h R = (condK (ev e (.t 14)) (vc2 C n [] (.code c_laws_FnExactHolonomyOf_3 :: sk) e h R) (vc2 C n [] (.code .skip :: sk) e h R)) := nr rfl
@[simp, simp ↓] theorem c_laws_FnExactHolonomyOf_5_r : vc2 C (n + 1) [] (.code c_laws_FnExactHolonomyOf_5 :: sk) e h R = (vc2 C n [] (.code c_laws_FnExactHolonomyOf_1 :: .code c_laws_FnExactHolonomyOf_4 :: sk) e h R) := nr rfl
@[simp, simp ↓] theorem c_laws_FnExactHolonomyOf_6_r : vc2 C (n + 1) [] (.code c_laws_FnExactHolonomyOf_6 :: sk) e h R = (vc2 C n c_laws_FnExactHolonomyOf_o3 sk e h R) := nr rfl
@[simp, simp ↓] theorem c_laws_FnExactHolonomyOf_7_r : vc2 C (n + 1) [] (.code c_laws_FnExactHolonomyOf_7 :: sk) e h R = (vc2 C n c_laws_FnExactHolonomyOf_o4 sk e h R) := nr rfl
@[simp, simp ↓] theorem c_laws_FnExactHolonomyOf_8_r : vc2 C (n + 1) [] (.code c_laws_FnExactHolonomyOf_8 :: sk) e h R = (vc2 C n c_laws_FnExactHolonomyOf_o5 sk e h R) := nr rfl
@[simp, simp ↓] theorem c_laws_FnExactHolonomyOf_9_r : vc2 C (n + 1) [] (.code c_laws_FnExactHolonomyOf_9 :: sk) e h R = (vc2 C n c_laws_FnExactHolonomyOf_o6 sk e h R) := nr rfl
@[simp, simp ↓] theorem c_laws_FnExactHolonomyOf_10_r : vc2 C (n + 1) [] (.code c_laws_FnExactHolonomyOf_10 :: sk) e h R = (vc2 C n [] (.code c_laws_FnExactHolonomyOf_9 :: .code .ret :: sk) e h R) := nr rfl
@[simp, simp ↓] theorem c_laws_FnExactHolonomyOf_11_r : vc2 C (n + 1) [] (.code c_laws_FnExactHolonomyOf_11 :: sk) e h R = (condK (ev e (.t 19)) (vc2 C n [] (.code c_laws_FnExactHolonomyOf_10 :: sk) e h R) (vc2 C n [] (.code .skip :: sk) e h R)) := nr rfl
@[simp, simp ↓] theorem c_laws_FnExactHolonomyOf_12_r : vc2 C (n + 1) [] (.code c_laws_FnExactHolonomyOf_12 :: sk) e h R = (vc2 C n [] (.code c_laws_FnExactHolonomyOf_8 :: .code c_laws_FnExactHolonomyOf_11 :: sk) e h R) := nr rfl
@[simp, simp ↓] theorem c_laws_FnExactHolonomyOf_13_r : vc2 C (n + 1) [] (.code c_laws_FnExactHolonomyOf_13 :: sk) e h R = (vc2 C n c_laws_FnExactHolonomyOf_o7 sk e h R) := nr rfl
@[simp, simp ↓] theorem c_laws_FnExactHolonomyOf_14_r : vc2 C (n + 1) [] (.code c_laws_FnExactHolonomyOf_14 :: sk) e h R = (vc2 C n c_laws_FnExactHolonomyOf_o8 sk e h R) := nr rfl
@[simp, simp ↓] theorem c_laws_FnExactHolonomyOf_15_r : vc2 C (n + 1) [] (.code c_laws_FnExactHolonomyOf_15 :: sk) e h R = (vc2 C n c_laws_FnExactHolonomyOf_o9 sk e h R) := nr rfl
@[simp, simp ↓] theorem c_laws_FnExactHolonomyOf_16_r : vc2 C (n + 1) [] (.code c_laws_FnExactHolonomyOf_16 :: sk) e h R = (vc2 C n c_laws_FnExactHolonomyOf_o10 sk e h R) := nr rfl
@[simp, simp ↓] theorem c_laws_FnExactHolonomyOf_17_r : vc2 C (n + 1) [] (.code c_laws_FnExactHolonomyOf_17 :: sk) e h R = (vc2 C n c_laws_FnExactHolonomyOf_o11 sk e h R) := nr rfl
@[simp, simp ↓] theorem c_laws_FnExactHolonomyOf_18_r : vc2 C (n + 1) [] (.code c_laws_FnExactHolonomyOf_18 :: sk) e h R = (vc2 C n c_laws_FnExactHolonomyOf_o12 sk e h R) := nr rfl
@[simp, simp ↓] theorem c_laws_FnExactHolonomyOf_19_r : vc2 C (n + 1) [] (.code c_laws_FnExactHolonomyOf_19 :: sk) e h R = (vc2 C n [] (.code c_laws_FnExactHolonomyOf_18 :: .code .ret :: sk) e h R) := nr rfl
@[simp, simp ↓] theorem c_laws_FnExactHolonomyOf_20_r : vc2 C (n + 1) [] (.code c_laws_FnExactHolonomyOf_20 :: sk) e h R = (condK (ev e (.t 45)) (vc2 C n [] (.code c_laws_FnExactHolonomyOf_19 :: sk) e h R) (vc2 C n [] (.code .skip :: sk) e h R)) := nr rfl
@[simp, simp ↓] theorem c_laws_FnExactHolonomyOf_21_r : vc2 C (n + 1) [] (.code c_laws_FnExactHolonomyOf_21 :: sk) e h R = (vc2 C n [] (.code c_laws_FnExactHolonomyOf_17 :: .code c_laws_FnExactHolonomyOf_20 :: sk) e h R) := nr rfl
@[simp, simp ↓] theorem c_laws_FnExactHolonomyOf_22_r : vc2 C (n + 1) [] (.code c_laws_FnExactHolonomyOf_22 :: sk) e h R = (draw2 C h (vK C n [] sk R h) c_laws_FnExactHolonomyOf_o13 e) := nr rfl
@[simp, simp ↓] theorem c_laws_FnExactHolonomyOf_23_r : vc2 C (n + 1) [] (.code c_laws_FnExactHolonomyOf_23 :: sk) e h R = (vc2 C n c_laws_FnExactHolonomyOf_o14 sk e h R) := nr rfl
@[simp, simp ↓] theorem c_laws_FnExactHolonomyOf_24_r : vc2 C (n + 1) [] (.code c_laws_FnExactHolonomyOf_24 :: sk) e h R = (vc2 C n [] (.code c_laws_FnExactHolonomyOf_23 :: .code .ret :: sk) e h R) := nr rfl
@[simp, simp ↓] theorem c_laws_FnExactHolonomyOf_25_r : vc2 C (n + 1) [] (.code c_laws_FnExactHolonomyOf_25 :: sk) e h R = (condK (ev e (.t 50)) (vc2 C n [] (.code c_laws_FnExactHolonomyOf_24 :: sk) e h R) (vc2 C n [] (.code .skip :: sk) e h R)) := nr rfl
@[simp, simp ↓] theorem c_laws_FnExactHolonomyOf_26_r : vc2 C (n + 1) [] (.code c_laws_FnExactHolonomyOf_26 :: sk) e h R = (vc2 C n [] (.code c_laws_FnExactHolonomyOf_22 :: .code c_laws_FnExactHolonomyOf_25 :: sk) e h R) := nr rfl
@[simp, simp ↓] theorem c_laws_FnExactHolonomyOf_27_r : vc2 C (n + 1) [] (.code c_laws_FnExactHolonomyOf_27 :: sk) e h R = (vc2 C n c_laws_FnExactHolonomyOf_o15 sk e h R) := nr rfl
@[simp, simp ↓] theorem c_laws_FnExactHolonomyOf_28_r : vc2 C (n + 1) [] (.code c_laws_FnExactHolonomyOf_28 :: sk) e h R = (vc2 C n c_laws_FnExactHolonomyOf_o16 sk e h R) := nr rfl
@[simp, simp ↓] theorem c_laws_FnExactHolonomyOf_29_r : vc2 C (n + 1) [] (.code c_laws_FnExactHolonomyOf_29 :: sk) e h R = (vc2 C n [] (.code c_laws_FnExactHolonomyOf_28 :: .code .ret :: sk) e h R) := nr rfl
@[simp, simp ↓] theorem c_laws_FnExactHolonomyOf_30_r : vc2 C (n + 1) [] (.code c_laws_FnExactHolonomyOf_30 :: sk) e h R = (condK (ev e (.t 55)) (vc2 C n [] (.code c_laws_FnExactHolonomyOf_29 :: sk) e h R) (vc2 C n [] (.code .skip :: sk) e h R)) := nr rfl
@[simp, simp ↓] theorem c_laws_FnExactHolonomyOf_31_r : vc2 C (n + 1) [] (.code c_laws_FnExactHolonomyOf_31 :: sk) e h R = (vc2 C n [] (.code c_laws_FnExactHolonomyOf_27 :: .code c_laws_FnExactHolonomyOf_30 :: sk) e h R) := nr rfl
@[simp, simp ↓] theorem c_laws_FnExactHolonomyOf_32_r : vc2 C (n + 1) [] (.code c_laws_FnExactHolonomyOf_32 :: sk) e h R = (vc2 C n c_laws_FnExactHolonomyOf_o17 sk e h R) := nr rfl
@[simp, simp ↓] theorem c_laws_FnExactHolonomyOf_33_r : vc2 C (n + 1) [] (.code c_laws_FnExactHolonomyOf_33 :: sk) e h R = (vc2 C n [] (.code c_laws_FnExactHolonomyOf_32 :: .code .ret :: sk) e h R) := nr rfl
@[simp, simp ↓] theorem c_laws_FnExactHolonomyOf_34_r : vc2 C (n + 1) [] (.code c_laws_FnExactHolonomyOf_34 :: sk) e h R = (vc2 C n [] (.code c_laws_FnExactHolonomyOf_31 :: .code c_laws_FnExactHolonomyOf_33 :: sk) e h R) := nr rfl
@[simp, simp ↓] theorem c_laws_FnExactHolonomyOf_35_r : vc2 C (n + 1) [] (.code c_laws_FnExactHolonomyOf_35 :: sk) e h R = (vc2 C n [] (.code c_laws_FnExactHolonomyOf_26 :: .code c_laws_FnExactHolonomyOf_34 :: sk) e h R) := nr rfl
@[simp, simp ↓] theorem c_laws_FnExactHolonomyOf_36_r : vc2 C (n + 1) [] (.code c_laws_FnExactHolonomyOf_36 :: sk) e h R = (vc2 C n [] (.code c_laws_FnExactHolonomyOf_21 :: .code c_laws_FnExactHolonomyOf_35 :: sk) e h R) := nr rfl
@[simp, simp ↓] theorem c_laws_FnExactHolonomyOf_37_r : vc2 C (n + 1) [] (.code c_laws_FnExactHolonomyOf_37 :: sk) e h R = (vc2 C n [] (.code c_laws_FnExactHolonomyOf_16 :: .code c_laws_FnExactHolonomyOf_36 :: sk) e h R) := nr rfl
@[simp, simp ↓] theorem c_laws_FnExactHolonomyOf_38_r : vc2 C (n + 1) [] (.code c_laws_FnExactHolonomyOf_38 :: sk) e h R = (vc2 C n [] (.code c_laws_FnExactHolonomyOf_15 :: .code c_laws_FnExactHolonomyOf_37 :: sk) e h R) := nr rfl
@[simp, simp ↓] theorem c_laws_FnExactHolonomyOf_39_r : vc2 C (n + 1) [] (.code c_laws_FnExactHolonomyOf_39 :: sk) e h R = (vc2 C n [] (.code c_laws_FnExactHolonomyOf_14 :: .code c_laws_FnExactHolonomyOf_38 :: sk) e h R) := nr rfl
@[simp, simp ↓] theorem c_laws_FnExactHolonomyOf_40_r : vc2 C (n + 1) [] (.code c_laws_FnExactHolonomyOf_40 :: sk) e h R = (vc2 C n [] (.code c_laws_FnExactHolonomyOf_13 :: .code c_laws_FnExactHolonomyOf_39 :: sk) e h R) := nr rfl
@[simp, simp ↓] theorem c_laws_FnExactHolonomyOf_41_r : vc2 C (n + 1) [] (.code c_laws_FnExactHolonomyOf_41 :: sk) e h R = (vc2 C n [] (.code c_laws_FnExactHolonomyOf_12 :: .code c_laws_FnExactHolonomyOf_40 :: sk) e h R) := nr rfl
@[simp, simp ↓] theorem c_laws_FnExactHolonomyOf_42_r : vc2 C (n + 1) [] (.code c_laws_FnExactHolonomyOf_42 :: sk) e h R = (vc2 C n [] (.code c_laws_FnExactHolonomyOf_7 :: .code c_laws_FnExactHolonomyOf_41 :: sk) e h R) := nr rfl
@[simp, simp ↓] theorem c_laws_FnExactHolonomyOf_43_r : vc2 C (n + 1) [] (.code c_laws_FnExactHolonomyOf_43 :: sk) e h R = (vc2 C n [] (.code c_laws_FnExactHolonomyOf_6 :: .code c_laws_FnExactHolonomyOf_42 :: sk) e h R) := nr rfl
@[simp, simp ↓] theorem c_laws_FnExactHolonomyOf_44_r : vc2 C (n + 1) [] (.code c_laws_FnExactHolonomyOf_44 :: sk) e h R = (vc2 C n [] (.code c_laws_FnExactHolonomyOf_5 :: .code c_laws_FnExactHolonomyOf_43 :: sk) e h R) := nr rfl
@[simp, simp ↓] theorem c_laws_FnExactHolonomyOf_45_r : vc2 C (n + 1) [] (.code c_laws_FnExactHolonomyOf_45 :: sk) e h R = (vc2 C n [] (.code c_laws_FnExactHolonomyOf_0 :: .code c_laws_FnExactHolonomyOf_44 :: sk) e h R) := nr rfl
end
noncomputable def c_laws_FnExactHolonomyOf_C (orc : Orc) : Cx := ⟨Try.prog, [8], 5, 56, [.tmp 4], orc⟩
@[simp] theorem c_laws_FnExactHolonomyOf_C_P (orc : Orc) : (c_laws_FnExactHolonomyOf_C orc).P = Try.prog := nr rfl
@[simp] theorem c_laws_FnExactHolonomyOf_C_o (orc : Orc) : (c_laws_FnExactHolonomyOf_C orc).orc = orc := nr rfl
@[simp] theorem c_laws_FnExactHolonomyOf_C_r (orc : Orc) : (c_laws_FnExactHolonomyOf_C orc).res = [.tmp 4] := nr rfl
theorem c_laws_FnExactHolonomyOf_of {args : List AV} {h : Heap} {R : AV → Heap → Prop} {k : Nat} (ha : args.length = k) {orc : Orc} (hp : Pure Try.prog orc) (hk : Is (c_laws_FnExactHolonomyOf_C orc) Try.f5 → Run2 (c_laws_FnExactHolonomyOf_C orc) [.code c_laws_FnExactHolonomyOf_45] (argEnv 0 args) h (Post R)) (hle : k ≤ 56 := by simp) : ACalls Try.prog 5 args h R :=
  contract2 [8] c_laws_FnExactHolonomyOf_45 [.tmp 4] Try.func5 (by decide +kernel) rfl (by kernel_rfl) (by rw [ha]; exact hle) (by kernel_rfl) hp hk
theorem c_laws_FnExactHolonomyOf_of0 {args : List AV} {h : Heap} {R : AV → Heap → Prop} {k : Nat} (ha : args.length = k) {orc : Orc} (hp : Pure Try.prog orc) (hk : Is (c_laws_FnExactHolonomyOf_C orc) Try.f5 → Run2 (c_laws_FnExactHolonomyOf_C orc) [.code c_laws_FnExactHolonomyOf_45] (argEnv 0 args) h R) (hle : k ≤ 56 := by simp) : ACalls Try.prog 5 args h R :=
  contract20 [8] c_laws_FnExactHolonomyOf_45 [.tmp 4] Try.func5 (by decide +kernel) rfl (by kernel_rfl) (by rw [ha]; exact hle) (by kernel_rfl) hp hk
theorem hol_law (x : Ph) (hx : x.wf) (p : List Int) (hp : wfI p) : ACalls Try.prog 5 [x.av, (.snap 1 (p.map iv))] [] (fun v h' => v = .bool true ∧ h' = []) := by
  refine c_laws_FnExactHolonomyOf_of rfl orcM_p fun I => ?_
  have hx2_x := hx.2
  have hx2_p := hp.2
  refine Run2.of I 1000 ?_
  by_cases lp : p.length ≤ 1048576
  · have hAp : ¬ (1048576 : Int) < p.length := by omega
    by_cases kx : (x.ts.length : Int) ≤ (1048576 : Int)
    · have hAx : ¬ (1048576 : Int) < x.ts.length := by omega
      have hBx : ¬ (1048576 : Int) - x.ts.length < 0 := by omega
      have hCx : (0 : Int) ≤ (1048576 : Int) - x.ts.length := by omega
      have lx : x.ts.length ≤ 1048576 := by omega
      simp -implicitDefEqProofs [hx2_x, hx2_p, hAp, hAx, hBx, hCx]
      first | refine dcallK (toPhases_c x _ lx) ?_ | (refine (toPhases_c x _ lx).mono ?_; rintro v h' ⟨rfl, rfl⟩; refine gK.go ?_)
      simp -implicitDefEqProofs
      first | refine dcallK (toInt64S_c p _ lp) ?_ | (refine (toInt64S_c p _ lp).mono ?_; rintro v h' ⟨rfl, rfl⟩; refine gK.go ?_)
      simp -implicitDefEqProofs
      first | refine dcallK (specHol_c x p _ hx.1 lx lp) ?_ | (refine (specHol_c x p _ hx.1 lx lp).mono ?_; rintro v h' ⟨rfl, rfl⟩; refine gK.go ?_)
      simp -implicitDefEqProofs
      refine (toPhases_o x _ lx).monoN ?_
      rintro v0 h' ⟨g0, o0, d0, rfl⟩ n0
      obtain ⟨u0, rfl, ou0⟩ := id o0
      have c0 := ou0.cell
      refine gK.go ?_
      simp -implicitDefEqProofs [c0]
      refine (toInt64S_o p _ lp).monoN ?_
      rintro v1 h' ⟨g1, o1, d1, rfl⟩ n1
      refine gK.go ?_
      simp -implicitDefEqProofs [c0]
      skip
      have L0 := o0.lentIn (L := (g1 ++ g0)) (fun p hp => List.mem_append_right _ (hp)) n1
      have L1 := o1.lentIn cold_iv1 (L := (g1 ++ g0)) (fun p hp => List.mem_append_left _ hp) n1
      first | refine dcallK (ACalls.reads (g1 ++ g0) (fun p hp => hp) (v0 := .tup [.int .i64 (x.hol2 p).1, .int .i64 (x.hol2 p).2]) ?_ rfl) ?_ | (refine (ACalls.reads (g1 ++ g0) (fun p hp => hp) (v0 := .tup [.int .i64 (x.hol2 p).1, .int .i64 (x.hol2 p).2]) ?_ rfl).mono ?_)
      · rw [lend_cons, lend_cons, lend_nil']
        exact ACalls.wk (.cons L0.wk (.cons L1.wk .nil)) (implHol_c x p [] hx.1 lx lp)
      try (rintro v h' ⟨rfl, rfl⟩; refine gK.go ?_)
      simp -implicitDefEqProofs [c0]
      first | refine dcallK (toPhases_c x _ lx) ?_ | (refine (toPhases_c x _ lx).mono ?_; rintro v h' ⟨rfl, rfl⟩; refine gK.go ?_)
      simp -implicitDefEqProofs [c0]
      first | refine dcallK (eqPh_own o0 x.is (fun p hp => List.mem_append_right _ (hp)) lx) ?_ | (refine (eqPh_own o0 x.is (fun p hp => List.mem_append_right _ (hp)) lx).mono ?_; rintro v h' ⟨rfl, rfl⟩; refine gK.go ?_)
      simp -implicitDefEqProofs [c0]
      first | refine dcallK (toInt64S_c p _ lp) ?_ | (refine (toInt64S_c p _ lp).mono ?_; rintro v h' ⟨rfl, rfl⟩; refine gK.go ?_)
      simp -implicitDefEqProofs [c0]
      first | refine dcallK (eqI_own o1 (.snap p) (fun p hp => List.mem_append_left _ hp) lp) ?_ | (refine (eqI_own o1 (.snap p) (fun p hp => List.mem_append_left _ hp) lp).mono ?_; rintro v h' ⟨rfl, rfl⟩; refine gK.go ?_)
      simp -implicitDefEqProofs [c0]
      exact Post.none ⟨rfl, rfl⟩
    · have hAx : (1048576 : Int) < x.ts.length := by omega
      simp -implicitDefEqProofs [hx2_x, hx2_p, hAp, hAx]
      exact .base ⟨rfl, rfl⟩
  · have hAp : (1048576 : Int) < p.length := by omega
    simp -implicitDefEqProofs [hx2_x, hx2_p, hAp]
    exact .base ⟨rfl, rfl⟩
end Go.AG
namespace Go.Proofs.Ytknonamjhdlmlaa
open Go.ChangeShapes Go.WideShapes Go.ChangeAt Go.RowKit Go.AG
theorem own : ownKnob Try.prog.godebug = none := by kernel_rfl
theorem laidOut : laidOutB Try.prog = true := by kernel_rfl
set_option maxRecDepth 100000 in
theorem fnExactHolonomyOf_lifted (os : Os) (started : os.Started) (H : Type) (enc : TypeId × Value → H) :
    ReturnsInHanded {} Try.checked os 5 .any (Rows.fnExactHolonomyOfSpec.pre6 enc Try.prog Try.f5 Rows.fnExactHolonomyOfRow.domain false) (Rows.fnExactHolonomyOfSpec.post enc Try.prog Try.f5 false true false false) := by
  refine returnsInHanded_of_change (C := Try.checked) own started (by kernel_rfl) Try.func5
    (ChangeSpec.witness6 (enc := enc) (C := Try.checked) false ⟨#[], #[.agg #[.int .i64 0, .int .i64 0, .slice none 0 0], .slice none 0 0], []⟩ 8 (by kernel_rfl) (by kernel_rfl) (by kernel_rfl) (by kernel_rfl)) ?_
  intro W base args ds gs before hval0 hW _ _
  have hval : ∀ (j : Nat) t v, Try.f5.params[j]? = some t → args[j]? = some v → Value.okWide Try.prog W .any base t v := hval0
  refine law_post (tys := [tyPh, (.slice (.int .i64))]) (tb := 4) laidOut rfl (by kernel_rfl) (by kernel_rfl) (by kernel_rfl) (by kernel_rfl) hval hW ?_ ?_
  · intro ds h
    match ds, h with
    | [a0, a1], _ => rfl
  · rintro xs ⟨x0, r0, rfl, h0, x1, r1, rfl, h1, hr⟩
    have hr0 : r1 = [] := hr
    subst hr0
    obtain ⟨p0, rfl, q0⟩ := Ph_of_shape h0
    obtain ⟨p1, rfl, q1⟩ := Ints_of_shape h1
    exact hol_law p0 q0 p1 q1
theorem fnExactHolonomyOf_holds : Rows.FnExactHolonomyOfSaid :=
  OpenClaim.holds_of_wide 5 Try.f5 rfl rfl rfl rfl rfl rfl rfl ⟨rfl, rfl, rfl, rfl, rfl⟩ rfl rfl rfl rfl rfl (by kernel_rfl) Try.func5 (by kernel_rfl)
    (of_decide_eq_true (by kernel_rfl)) (by unfold Func.isWrapper; first | (rw [if_pos (by decide +kernel)]; kernel_rfl) | (rw [if_neg (by decide +kernel)]; exact ⟨rfl, rfl⟩))
    (fun os started H enc _ => fnExactHolonomyOf_lifted os started H enc)
end Go.Proofs.Ytknonamjhdlmlaa
