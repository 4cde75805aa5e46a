/- What a complex and a filtration are: the reference. No statement is made here. -/
import Derived.Test.YtamjnegnoijjlaaFxD
namespace Go.AG
open Go.Proofs Go.Proofs.Ytamjnegnoijjlaa
set_option linter.unusedSimpArgs false
set_option linter.unusedVariables false
set_option maxRecDepth 4000
noncomputable def orcS3 : List (Nat × (List AV → Option (Prop × AV))) := (112, o_l05Simplex) :: (113, o_l05Before) :: (114, o_l05Drop) :: (73, o_l05Find) :: orcS2
theorem orcS3_p : Pure Try.prog (lk orcS3) := (lk_pure o_l05Simplex_k (lk_pure o_l05Before_k (lk_pure o_l05Drop_k (lk_pure o_l05Find_k orcS2_p))))
@[simp] theorem orcS3_l (g : FuncId) (l : List AV) : lk orcS3 g l = if g = 112 then o_l05Simplex l else if g = 113 then o_l05Before l else if g = 114 then o_l05Drop l else if g = 73 then o_l05Find l else lk orcS2 g l := nr rfl
theorem faces_all {s : List Int} {P : List Int → Prop} (h1 : 1 < s.length) : (∀ f ∈ faces s, P f) ↔ ∀ k, k < s.length → P (dropK s k) := by
  unfold faces
  rw [if_pos h1]
  simp
abbrev c_spec_l05Ok_o0 : List AJ := [.o ⟨(some 2), none, false, .mv (.c (.bool false)), (some [0])⟩]
def c_spec_l05Ok_0 : ACode := .region c_spec_l05Ok_o0
abbrev c_spec_l05Ok_o1 : List AJ := [.o ⟨(some 6), none, false, .mv (.t 0), none⟩, .o ⟨(some 7), none, false, .nilchk (.t 6), none⟩, .o ⟨(some 8), none, false, .fieldA 0 (.t 7), none⟩, .o ⟨(some 9), none, false, .load 1 false (.t 8), none⟩, .o ⟨(some 10), none, false, .len (.t 9), none⟩, .o ⟨(some 11), none, false, .bin .gtr (.t 10) (.c (.int .i64 48)), (some [0, 11])⟩]
def c_spec_l05Ok_1 : ACode := .region c_spec_l05Ok_o1
abbrev c_spec_l05Ok_o2 : List AJ := [.o ⟨(some 2), none, false, .mv (.c (.bool false)), (some [2])⟩]
def c_spec_l05Ok_2 : ACode := .region c_spec_l05Ok_o2
def c_spec_l05Ok_3 : ACode := .seq c_spec_l05Ok_2 .ret
def c_spec_l05Ok_4 : ACode := .cond (.t 11) c_spec_l05Ok_3 .skip
def c_spec_l05Ok_5 : ACode := .seq c_spec_l05Ok_1 c_spec_l05Ok_4
abbrev c_spec_l05Ok_o3 : List AJ := [.o ⟨(some 3), none, false, .mv (.c (.int .i64 0)), (some [0, 3])⟩]
def c_spec_l05Ok_6 : ACode := .region c_spec_l05Ok_o3
abbrev c_spec_l05Ok_o4 : List AJ := [.o ⟨(some 12), none, false, .mv (.t 3), none⟩, .o ⟨(some 13), none, false, .mv (.t 0), none⟩, .o ⟨(some 14), none, false, .nilchk (.t 13), none⟩, .o ⟨(some 15), none, false, .fieldA 0 (.t 14), none⟩, .o ⟨(some 16), none, false, .load 1 false (.t 15), none⟩, .o ⟨(some 17), none, false, .len (.t 16), none⟩, .o ⟨(some 18), none, false, .bin .lss (.t 12) (.t 17), (some [0, 3, 18])⟩]
def c_spec_l05Ok_7 : ACode := .region c_spec_l05Ok_o4
def c_spec_l05Ok_8 : ACode := .cond (.t 18) .skip (.exit 0)
def c_spec_l05Ok_9 : ACode := .seq c_spec_l05Ok_7 c_spec_l05Ok_8
abbrev c_spec_l05Ok_o5 : List AJ := [.o ⟨(some 21), none, false, .mv (.t 0), none⟩, .o ⟨(some 22), none, false, .nilchk (.t 21), none⟩, .o ⟨(some 23), none, false, .fieldA 0 (.t 22), none⟩, .o ⟨(some 24), none, false, .load 1 false (.t 23), none⟩, .o ⟨(some 25), none, false, .mv (.t 3), none⟩, .o ⟨(some 26), none, false, .idxA 1 (.t 24) (.t 25), none⟩, .o ⟨(some 27), none, false, .load 1 false (.t 26), none⟩, .o ⟨(some 4), none, false, .mv (.t 27), (some [0, 3, 4])⟩]
def c_spec_l05Ok_10 : ACode := .region c_spec_l05Ok_o5
abbrev c_spec_l05Ok_o6 : List AJ := [.o ⟨(some 28), none, false, .mv (.t 4), none⟩, .o ⟨(some 29), none, false, .call 112 [(.t 28)], none⟩, .o ⟨(some 30), none, false, .un .not (.t 29), none⟩, .o ⟨(some 31), none, false, .mv (.t 30), none⟩, .o ⟨(some 32), (some (31, false)), false, .mv (.t 3), none⟩, .o ⟨(some 33), (some (31, false)), false, .bin .gtr (.t 32) (.c (.int .i64 0)), none⟩, .o ⟨(some 34), (some (31, false)), false, .mv (.t 33), none⟩, .o ⟨(some 35), (some (34, true)), false, .mv (.t 0), none⟩, .o ⟨(some 36), (some (34, true)), false, .nilchk (.t 35), (some [0, 3, 4, 31, 34, 36])⟩, .o ⟨(some 37), (some (34, true)), false, .fieldA 0 (.t 36), none⟩, .o ⟨(some 38), (some (34, true)), false, .load 1 false (.t 37), none⟩, .o ⟨(some 39), (some (34, true)), false, .mv (.t 3), none⟩, .o ⟨(some 40), (some (34, true)), true, .bin .sub (.t 39) (.c (.int .i64 1)), none⟩, .o ⟨(some 41), (some (34, true)), false, .idxA 1 (.t 38) (.t 40), none⟩, .o ⟨(some 42), (some (34, true)), false, .load 1 false (.t 41), none⟩, .o ⟨(some 43), (some (34, true)), false, .mv (.t 4), (some [0, 3, 4, 31, 34, 42, 43])⟩, .o ⟨(some 44), (some (34, true)), false, .call 113 [(.t 42), (.t 43)], none⟩, .o ⟨(some 45), (some (34, true)), false, .un .not (.t 44), none⟩, .o ⟨(some 46), (some (31, false)), false, .pick (.t 34) (.t 45) (.c (.bool false)), none⟩, .o ⟨(some 47), none, false, .pick (.t 31) (.c (.bool true)) (.t 46), (some [0, 3, 4, 47])⟩]
def c_spec_l05Ok_11 : ACode := .region c_spec_l05Ok_o6
abbrev c_spec_l05Ok_o7 : List AJ := [.o ⟨(some 2), none, false, .mv (.c (.bool false)), (some [2])⟩]
def c_spec_l05Ok_12 : ACode := .region c_spec_l05Ok_o7
def c_spec_l05Ok_13 : ACode := .seq c_spec_l05Ok_12 .ret
def c_spec_l05Ok_14 : ACode := .cond (.t 47) c_spec_l05Ok_13 .skip
def c_spec_l05Ok_15 : ACode := .seq c_spec_l05Ok_11 c_spec_l05Ok_14
abbrev c_spec_l05Ok_o8 : List AJ := [.o ⟨(some 5), none, false, .mv (.c (.int .i64 0)), (some [0, 3, 4, 5])⟩]
def c_spec_l05Ok_16 : ACode := .region c_spec_l05Ok_o8
abbrev c_spec_l05Ok_o9 : List AJ := [.o ⟨(some 48), none, false, .mv (.t 5), none⟩, .o ⟨(some 49), none, false, .mv (.t 4), none⟩, .o ⟨(some 50), none, false, .len (.t 49), none⟩, .o ⟨(some 51), none, false, .bin .lss (.t 48) (.t 50), none⟩, .o ⟨(some 52), none, false, .mv (.t 51), none⟩, .o ⟨(some 53), (some (52, true)), false, .mv (.t 4), none⟩, .o ⟨(some 54), (some (52, true)), false, .len (.t 53), none⟩, .o ⟨(some 55), (some (52, true)), false, .bin .gtr (.t 54) (.c (.int .i64 1)), none⟩, .o ⟨(some 56), none, false, .pick (.t 52) (.t 55) (.c (.bool false)), (some [0, 3, 4, 5, 56])⟩]
def c_spec_l05Ok_17 : ACode := .region c_spec_l05Ok_o9
def c_spec_l05Ok_18 : ACode := .cond (.t 56) .skip (.exit 2)
def c_spec_l05Ok_19 : ACode := .seq c_spec_l05Ok_17 c_spec_l05Ok_18
abbrev c_spec_l05Ok_o10 : List AJ := [.o ⟨(some 59), none, false, .mv (.t 0), none⟩, .o ⟨(some 60), none, false, .mv (.t 4), none⟩, .o ⟨(some 61), none, false, .mv (.t 5), none⟩, .o ⟨(some 62), none, false, .call 114 [(.t 60), (.t 61)], none⟩, .o ⟨(some 63), none, false, .call 73 [(.t 59), (.t 62)], none⟩, .o ⟨(some 64), none, false, .bin .lss (.t 63) (.c (.int .i64 0)), (some [0, 3, 4, 5, 64])⟩]
def c_spec_l05Ok_20 : ACode := .region c_spec_l05Ok_o10
abbrev c_spec_l05Ok_o11 : List AJ := [.o ⟨(some 2), none, false, .mv (.c (.bool false)), (some [2])⟩]
def c_spec_l05Ok_21 : ACode := .region c_spec_l05Ok_o11
def c_spec_l05Ok_22 : ACode := .seq c_spec_l05Ok_21 .ret
def c_spec_l05Ok_23 : ACode := .cond (.t 64) c_spec_l05Ok_22 .skip
def c_spec_l05Ok_24 : ACode := .seq c_spec_l05Ok_20 c_spec_l05Ok_23
def c_spec_l05Ok_25 : ACode := .block 3 c_spec_l05Ok_24
abbrev c_spec_l05Ok_o12 : List AJ := [.o ⟨(some 57), none, false, .mv (.t 5), none⟩, .o ⟨(some 58), none, true, .bin .add (.t 57) (.c (.int .i64 1)), none⟩, .o ⟨(some 5), none, false, .mv (.t 58), (some [0, 3, 4, 5])⟩]
def c_spec_l05Ok_26 : ACode := .region c_spec_l05Ok_o12
def c_spec_l05Ok_27 : ACode := .seq c_spec_l05Ok_25 c_spec_l05Ok_26
def c_spec_l05Ok_28 : ACode := .seq c_spec_l05Ok_19 c_spec_l05Ok_27
def c_spec_l05Ok_29 : ACode := .loop c_spec_l05Ok_28
def c_spec_l05Ok_30 : ACode := .block 2 c_spec_l05Ok_29
def c_spec_l05Ok_31 : ACode := .seq c_spec_l05Ok_16 c_spec_l05Ok_30
def c_spec_l05Ok_32 : ACode := .seq c_spec_l05Ok_15 c_spec_l05Ok_31
def c_spec_l05Ok_33 : ACode := .seq c_spec_l05Ok_10 c_spec_l05Ok_32
def c_spec_l05Ok_34 : ACode := .block 1 c_spec_l05Ok_33
abbrev c_spec_l05Ok_o13 : List AJ := [.o ⟨(some 19), none, false, .mv (.t 3), none⟩, .o ⟨(some 20), none, true, .bin .add (.t 19) (.c (.int .i64 1)), none⟩, .o ⟨(some 3), none, false, .mv (.t 20), (some [0, 3])⟩]
def c_spec_l05Ok_35 : ACode := .region c_spec_l05Ok_o13
def c_spec_l05Ok_36 : ACode := .seq c_spec_l05Ok_34 c_spec_l05Ok_35
def c_spec_l05Ok_37 : ACode := .seq c_spec_l05Ok_9 c_spec_l05Ok_36
def c_spec_l05Ok_38 : ACode := .loop c_spec_l05Ok_37
def c_spec_l05Ok_39 : ACode := .block 0 c_spec_l05Ok_38
def c_spec_l05Ok_40 : ACode := .seq c_spec_l05Ok_6 c_spec_l05Ok_39
abbrev c_spec_l05Ok_o14 : List AJ := [.o ⟨(some 2), none, false, .mv (.c (.bool true)), (some [2])⟩]
def c_spec_l05Ok_41 : ACode := .region c_spec_l05Ok_o14
def c_spec_l05Ok_42 : ACode := .seq c_spec_l05Ok_41 .ret
def c_spec_l05Ok_43 : ACode := .seq c_spec_l05Ok_40 c_spec_l05Ok_42
def c_spec_l05Ok_44 : ACode := .seq c_spec_l05Ok_5 c_spec_l05Ok_43
def c_spec_l05Ok_45 : ACode := .seq c_spec_l05Ok_0 c_spec_l05Ok_44
section
variable (C : Cx) (n : Nat) (sk : List AItem) (e : Env) (h : Heap) (R : AV → Heap → Prop)
@[simp, simp ↓] theorem c_spec_l05Ok_0_r : vc2 C (n + 1) [] (.code c_spec_l05Ok_0 :: sk) e h R = (vc2 C n c_spec_l05Ok_o0 sk e h R) := nr rfl
@[simp, simp ↓] theorem c_spec_l05Ok_1_r : vc2 C (n + 1) [] (.code c_spec_l05Ok_1 :: sk) e h R = (vc2 C n c_spec_l05Ok_o1 sk e h R) := nr rfl
@[simp, simp ↓] theorem c_spec_l05Ok_2_r : vc2 C (n + 1) [] (.code c_spec_l05Ok_2 :: sk) e h R = (vc2 C n c_spec_l05Ok_o2 sk e h R) := nr rfl
@[simp, simp ↓] theorem c_spec_l05Ok_3_r : vc2 C (n + 1) [] (.code c_spec_l05Ok_3 :: sk) e h R = (vc2 C n [] (.code c_spec_l05Ok_2 :: .code .ret :: sk) e h R) := nr rfl
@[simp, simp ↓] theorem c_spec_l05Ok_4_r : vc2 C (n + 1) [] (.code c_spec_l05Ok_4 :: sk) e h R = (condK (ev e (.t 11)) (vc2 C n [] (.code c_spec_l05Ok_3 :: sk) e h R) (vc2 C n [] (.code .skip :: sk) e h R)) := nr rfl
@[simp, simp ↓] theorem c_spec_l05Ok_5_r : vc2 C (n + 1) [] (.code c_spec_l05Ok_5 :: sk) e h R = (vc2 C n [] (.code c_spec_l05Ok_1 :: .code c_spec_l05Ok_4 :: sk) e h R) := nr rfl
@[simp, simp ↓] theorem c_spec_l05Ok_6_r : vc2 C (n + 1) [] (.code c_spec_l05Ok_6 :: sk) e h R = (vc2 C n c_spec_l05Ok_o3 sk e h R) := nr rfl
@[simp, simp ↓] theorem c_spec_l05Ok_7_r : vc2 C (n + 1) [] (.code c_spec_l05Ok_7 :: sk) e h R = (vc2 C n c_spec_l05Ok_o4 sk e h R) := nr rfl
@[simp, simp ↓] theorem c_spec_l05Ok_8_r : vc2 C (n + 1) [] (.code c_spec_l05Ok_8 :: sk) e h R = (condK (ev e (.t 18)) (vc2 C n [] (.code .skip :: sk) e h R) (vc2 C n [] (.code (.exit 0) :: sk) e h R)) := nr rfl
@[simp, simp ↓] theorem c_spec_l05Ok_9_r : vc2 C (n + 1) [] (.code c_spec_l05Ok_9 :: sk) e h R = (vc2 C n [] (.code c_spec_l05Ok_7 :: .code c_spec_l05Ok_8 :: sk) e h R) := nr rfl
@[simp, simp ↓] theorem c_spec_l05Ok_10_r : vc2 C (n + 1) [] (.code c_spec_l05Ok_10 :: sk) e h R = (vc2 C n c_spec_l05Ok_o5 sk e h R) := nr rfl
@[simp, simp ↓] theorem c_spec_l05Ok_11_r : vc2 C (n + 1) [] (.code c_spec_l05Ok_11 :: sk) e h R = (vc2 C n c_spec_l05Ok_o6 sk e h R) := nr rfl
@[simp, simp ↓] theorem c_spec_l05Ok_12_r : vc2 C (n + 1) [] (.code c_spec_l05Ok_12 :: sk) e h R = (vc2 C n c_spec_l05Ok_o7 sk e h R) := nr rfl
@[simp, simp ↓] theorem c_spec_l05Ok_13_r : vc2 C (n + 1) [] (.code c_spec_l05Ok_13 :: sk) e h R = (vc2 C n [] (.code c_spec_l05Ok_12 :: .code .ret :: sk) e h R) := nr rfl
@[simp, simp ↓] theorem c_spec_l05Ok_14_r : vc2 C (n + 1) [] (.code c_spec_l05Ok_14 :: sk) e h R = (condK (ev e (.t 47)) (vc2 C n [] (.code c_spec_l05Ok_13 :: sk) e h R) (vc2 C n [] (.code .skip :: sk) e h R)) := nr rfl
@[simp, simp ↓] theorem c_spec_l05Ok_15_r : vc2 C (n + 1) [] (.code c_spec_l05Ok_15 :: sk) e h R = (vc2 C n [] (.code c_spec_l05Ok_11 :: .code c_spec_l05Ok_14 :: sk) e h R) := nr rfl
@[simp, simp ↓] theorem c_spec_l05Ok_16_r : vc2 C (n + 1) [] (.code c_spec_l05Ok_16 :: sk) e h R = (vc2 C n c_spec_l05Ok_o8 sk e h R) := nr rfl
@[simp, simp ↓] theorem c_spec_l05Ok_17_r : vc2 C (n + 1) [] (.code c_spec_l05Ok_17 :: sk) e h R = (vc2 C n c_spec_l05Ok_o9 sk e h R) := nr rfl
@[simp, simp ↓] theorem c_spec_l05Ok_18_r : vc2 C (n + 1) [] (.code c_spec_l05Ok_18 :: sk) e h R = (condK (ev e (.t 56)) (vc2 C n [] (.code .skip :: sk) e h R) (vc2 C n [] (.code (.exit 2) :: sk) e h R)) := nr rfl
@[simp, simp ↓] theorem c_spec_l05Ok_19_r : vc2 C (n + 1) [] (.code c_spec_l05Ok_19 :: sk) e h R = (vc2 C n [] (.code c_spec_l05Ok_17 :: .code c_spec_l05Ok_18 :: sk) e h R) := nr rfl
@[simp, simp ↓] theorem c_spec_l05Ok_20_r : vc2 C (n + 1) [] (.code c_spec_l05Ok_20 :: sk) e h R = (vc2 C n c_spec_l05Ok_o10 sk e h R) := nr rfl
@[simp, simp ↓] theorem c_spec_l05Ok_21_r : vc2 C (n + 1) [] (.code c_spec_l05Ok_21 :: sk) e h R = (vc2 C n c_spec_l05Ok_o11 sk e h R) := nr rfl
@[simp, simp ↓] theorem c_spec_l05Ok_22_r : vc2 C (n + 1) [] (.code c_spec_l05Ok_22 :: sk) e h R = (vc2 C n [] (.code c_spec_l05Ok_21 :: .code .ret :: sk) e h R) := nr rfl
@[simp, simp ↓] theorem c_spec_l05Ok_23_r : vc2 C (n + 1) [] (.code c_spec_l05Ok_23 :: sk) e h R = (condK (ev e (.t 64)) (vc2 C n [] (.code c_spec_l05Ok_22 :: sk) e h R) (vc2 C n [] (.code .skip :: sk) e h R)) := nr rfl
@[simp, simp ↓] theorem c_spec_l05Ok_24_r : vc2 C (n + 1) [] (.code c_spec_l05Ok_24 :: sk) e h R = (vc2 C n [] (.code c_spec_l05Ok_20 :: .code c_spec_l05Ok_23 :: sk) e h R) := nr rfl
@[simp, simp ↓] theorem c_spec_l05Ok_25_r : vc2 C (n + 1) [] (.code c_spec_l05Ok_25 :: sk) e h R = (vc2 C n [] (.code c_spec_l05Ok_24 :: .inBlock 3 :: sk) e h R) := nr rfl
@[simp, simp ↓] theorem c_spec_l05Ok_26_r : vc2 C (n + 1) [] (.code c_spec_l05Ok_26 :: sk) e h R = (vc2 C n c_spec_l05Ok_o12 sk e h R) := nr rfl
@[simp, simp ↓] theorem c_spec_l05Ok_27_r : vc2 C (n + 1) [] (.code c_spec_l05Ok_27 :: sk) e h R = (vc2 C n [] (.code c_spec_l05Ok_25 :: .code c_spec_l05Ok_26 :: sk) e h R) := nr rfl
@[simp, simp ↓] theorem c_spec_l05Ok_28_r : vc2 C (n + 1) [] (.code c_spec_l05Ok_28 :: sk) e h R = (vc2 C n [] (.code c_spec_l05Ok_19 :: .code c_spec_l05Ok_27 :: sk) e h R) := nr rfl
@[simp, simp ↓] theorem c_spec_l05Ok_29_r : vc2 C (n + 1) [] (.code c_spec_l05Ok_29 :: sk) e h R = (Run2 C (.code c_spec_l05Ok_28 :: .inLoop c_spec_l05Ok_28 :: sk) e h R) := nr rfl
@[simp, simp ↓] theorem c_spec_l05Ok_30_r : vc2 C (n + 1) [] (.code c_spec_l05Ok_30 :: sk) e h R = (vc2 C n [] (.code c_spec_l05Ok_29 :: .inBlock 2 :: sk) e h R) := nr rfl
@[simp, simp ↓] theorem c_spec_l05Ok_31_r : vc2 C (n + 1) [] (.code c_spec_l05Ok_31 :: sk) e h R = (vc2 C n [] (.code c_spec_l05Ok_16 :: .code c_spec_l05Ok_30 :: sk) e h R) := nr rfl
@[simp, simp ↓] theorem c_spec_l05Ok_32_r : vc2 C (n + 1) [] (.code c_spec_l05Ok_32 :: sk) e h R = (vc2 C n [] (.code c_spec_l05Ok_15 :: .code c_spec_l05Ok_31 :: sk) e h R) := nr rfl
@[simp, simp ↓] theorem c_spec_l05Ok_33_r : vc2 C (n + 1) [] (.code c_spec_l05Ok_33 :: sk) e h R = (vc2 C n [] (.code c_spec_l05Ok_10 :: .code c_spec_l05Ok_32 :: sk) e h R) := nr rfl
@[simp, simp ↓] theorem c_spec_l05Ok_34_r : vc2 C (n + 1) [] (.code c_spec_l05Ok_34 :: sk) e h R = (vc2 C n [] (.code c_spec_l05Ok_33 :: .inBlock 1 :: sk) e h R) := nr rfl
@[simp, simp ↓] theorem c_spec_l05Ok_35_r : vc2 C (n + 1) [] (.code c_spec_l05Ok_35 :: sk) e h R = (vc2 C n c_spec_l05Ok_o13 sk e h R) := nr rfl
@[simp, simp ↓] theorem c_spec_l05Ok_36_r : vc2 C (n + 1) [] (.code c_spec_l05Ok_36 :: sk) e h R = (vc2 C n [] (.code c_spec_l05Ok_34 :: .code c_spec_l05Ok_35 :: sk) e h R) := nr rfl
@[simp, simp ↓] theorem c_spec_l05Ok_37_r : vc2 C (n + 1) [] (.code c_spec_l05Ok_37 :: sk) e h R = (vc2 C n [] (.code c_spec_l05Ok_9 :: .code c_spec_l05Ok_36 :: sk) e h R) := nr rfl
@[simp, simp ↓] theorem c_spec_l05Ok_38_r : vc2 C (n + 1) [] (.code c_spec_l05Ok_38 :: sk) e h R = (Run2 C (.code c_spec_l05Ok_37 :: .inLoop c_spec_l05Ok_37 :: sk) e h R) := nr rfl
@[simp, simp ↓] theorem c_spec_l05Ok_39_r : vc2 C (n + 1) [] (.code c_spec_l05Ok_39 :: sk) e h R = (vc2 C n [] (.code c_spec_l05Ok_38 :: .inBlock 0 :: sk) e h R) := nr rfl
@[simp, simp ↓] theorem c_spec_l05Ok_40_r : vc2 C (n + 1) [] (.code c_spec_l05Ok_40 :: sk) e h R = (vc2 C n [] (.code c_spec_l05Ok_6 :: .code c_spec_l05Ok_39 :: sk) e h R) := nr rfl
@[simp, simp ↓] theorem c_spec_l05Ok_41_r : vc2 C (n + 1) [] (.code c_spec_l05Ok_41 :: sk) e h R = (vc2 C n c_spec_l05Ok_o14 sk e h R) := nr rfl
@[simp, simp ↓] theorem c_spec_l05Ok_42_r : vc2 C (n + 1) [] (.code c_spec_l05Ok_42 :: sk) e h R = (vc2 C n [] (.code c_spec_l05Ok_41 :: .code .ret :: sk) e h R) := nr rfl
@[simp, simp ↓] theorem c_spec_l05Ok_43_r : vc2 C (n + 1) [] (.code c_spec_l05Ok_43 :: sk) e h R = (vc2 C n [] (.code c_spec_l05Ok_40 :: .code c_spec_l05Ok_42 :: sk) e h R) := nr rfl
@[simp, simp ↓] theorem c_spec_l05Ok_44_r : vc2 C (n + 1) [] (.code c_spec_l05Ok_44 :: sk) e h R = (vc2 C n [] (.code c_spec_l05Ok_5 :: .code c_spec_l05Ok_43 :: sk) e h R) := nr rfl
@[simp, simp ↓] theorem c_spec_l05Ok_45_r : vc2 C (n + 1) [] (.code c_spec_l05Ok_45 :: sk) e h R = (vc2 C n [] (.code c_spec_l05Ok_0 :: .code c_spec_l05Ok_44 :: sk) e h R) := nr rfl
end
noncomputable def c_spec_l05Ok_C (orc : Orc) : Cx := ⟨Try.prog, [], 71, 65, [.tmp 2], orc⟩
@[simp] theorem c_spec_l05Ok_C_P (orc : Orc) : (c_spec_l05Ok_C orc).P = Try.prog := nr rfl
@[simp] theorem c_spec_l05Ok_C_o (orc : Orc) : (c_spec_l05Ok_C orc).orc = orc := nr rfl
@[simp] theorem c_spec_l05Ok_C_r (orc : Orc) : (c_spec_l05Ok_C orc).res = [.tmp 2] := nr rfl
theorem c_spec_l05Ok_of {args : List AV} {h : Heap} {R : AV → Heap → Prop} {k : Nat} (ha : args.length = k) {orc : Orc} (hp : Pure Try.prog orc) (hk : Is (c_spec_l05Ok_C orc) Try.f71 → Run2 (c_spec_l05Ok_C orc) [.code c_spec_l05Ok_45] (argEnv 0 args) h (Post R)) (hle : k ≤ 65 := by simp) : ACalls Try.prog 71 args h R :=
  contract2 [] c_spec_l05Ok_45 [.tmp 2] Try.func71 (by decide +kernel) rfl (by kernel_rfl) (by rw [ha]; exact hle) (by kernel_rfl) hp hk
theorem c_spec_l05Ok_of0 {args : List AV} {h : Heap} {R : AV → Heap → Prop} {k : Nat} (ha : args.length = k) {orc : Orc} (hp : Pure Try.prog orc) (hk : Is (c_spec_l05Ok_C orc) Try.f71 → Run2 (c_spec_l05Ok_C orc) [.code c_spec_l05Ok_45] (argEnv 0 args) h R) (hle : k ≤ 65 := by simp) : ACalls Try.prog 71 args h R :=
  contract20 [] c_spec_l05Ok_45 [.tmp 2] Try.func71 (by decide +kernel) rfl (by kernel_rfl) (by rw [ha]; exact hle) (by kernel_rfl) hp hk
theorem l05Ok_s (rs : List (List Int)) (e : List AV) (h : Heap) (hl : ssTot rs ≤ 1048576) : ACalls Try.prog 71 [.ip (.snap 1 (rs.map il) :: e)] h (fun v h' => v = .bool (decide (cxOk rs)) ∧ h' = h) := by
  have hf := fit_of_tot hl
  have hn := hf.1
  refine c_spec_l05Ok_of0 rfl orcS3_p fun I => ?_
  by_cases h48 : rs.length ≤ 48
  · have h48' : ¬ (48 : Int) < rs.length := by omega
    refine Run2.of I 1000 ?_
    simp -implicitDefEqProofs [h48']
    refine Run2.loopE (fun (i : Nat) => [(0, .ip (.snap 1 (rs.map il) :: e)), (3, .int .i64 i)]) (fun i => h) (fun i => rs.length - i) (fun i => i ≤ rs.length ∧ ∀ j (hj : j < rs.length), j < i → cxAt rs j hj) 0 (by simp) rfl ⟨Nat.zero_le _, fun _ _ h => by omega⟩ fun i hi ih => ?_
    by_cases hlt : i < rs.length
    · have hr := hf.2 _ (List.getElem_mem hlt)
      have hbad : ¬ cxAt rs i hlt → ¬ cxOk rs := fun h1 h2 => h1 (h2.1 i hlt)
      have go := fun (h1 : cxAt rs i hlt) => ih (i + 1) ⟨by omega, fun j hj hji => by
        rcases Nat.lt_or_ge j i with h | h
        · exact hi.2 j hj h
        · obtain rfl : j = i := by omega
          exact h1⟩ (by omega)
      clear ih
      by_cases h1 : smOk rs[i]
      · have h4 := h1.1.2
        have key : (0 < i → cmpS rs[i - 1] rs[i] < 0) → Run2 (c_spec_l05Ok_C (lk orcS3)) [.code c_spec_l05Ok_28, .inLoop c_spec_l05Ok_28, .inBlock 2, .inBlock 1, .code c_spec_l05Ok_35, .inLoop c_spec_l05Ok_37, .inBlock 0, .code c_spec_l05Ok_42]
            [(0, .ip (.snap 1 (rs.map il) :: e)), (3, .int .i64 i), (4, .snap 1 (rs[i].map iv)), (5, .int .i64 0)] h fun v h' => v = .bool (decide (cxOk rs)) ∧ h' = h := fun h2 => by
          have hst : cxAt rs i hlt ↔ ∀ f ∈ faces rs[i], f ∈ rs := ⟨fun h => h.2.2, fun h => ⟨h1, h2, h⟩⟩
          generalize hs : rs[i] = s at *
          by_cases hs1 : 1 < s.length
          · rw [faces_all hs1] at hst
            refine Run2.loopE (fun (k : Nat) => [(0, .ip (.snap 1 (rs.map il) :: e)), (3, .int .i64 i), (4, .snap 1 (s.map iv)), (5, .int .i64 k)]) (fun i => h) (fun k => s.length - k) (fun k => k ≤ s.length ∧ ∀ j, j < k → dropK s j ∈ rs) 0 (by simp) rfl ⟨Nat.zero_le _, fun _ h => by omega⟩ fun k hk ih => ?_
            by_cases hkl : k < s.length
            · have hdl := dropK_length hkl
              have go2 := fun (hm : dropK s k ∈ rs) => ih (k + 1) ⟨by omega, fun j hj => by
                rcases Nat.lt_or_ge j k with h | h
                · exact hk.2 j h
                · obtain rfl : j = k := by omega
                  exact hm⟩ (by omega)
              have hb := fun (hm : dropK s k ∉ rs) => hbad fun h => hm (hst.1 h k hkl)
              clear ih
              refine Run2.of I 1000 ?_
              have hs1' : (1 : Int) < s.length := by omega
              simp -implicitDefEqProofs [hkl, hs1', hr, hl, ixS_neg]
              refine ⟨fun h => hb h, fun h => ⟨by omega, by simpa using go2 h⟩⟩
            · obtain rfl : k = s.length := by omega
              have := go (hst.2 fun j hj => hk.2 j hj)
              refine Run2.of I 1000 ?_
              simp -implicitDefEqProofs [hkl]
              refine ⟨by omega, by simpa using this⟩
          · have hno : faces s = [] := by unfold faces; rw [if_neg hs1]
            have := go (hst.2 fun f hf => by rw [hno] at hf; simp at hf)
            by_cases hs0 : 0 < s.length
            · refine Run2.loopE (fun (k : Nat) => [(0, .ip (.snap 1 (rs.map il) :: e)), (3, .int .i64 i), (4, .snap 1 (s.map iv)), (5, .int .i64 k)]) (fun i => h) (fun k => 0) (fun k => k = 0) 0 (by simp) rfl rfl fun k hk ih => ?_
              subst hk
              have hs1' : ¬ (1 : Int) < s.length := by omega
              refine Run2.of I 1000 ?_
              simp -implicitDefEqProofs [hs0, hs1']
              refine ⟨by omega, by simpa using this⟩
            · exact absurd h1.1.1 (by omega)
        rcases Nat.eq_zero_or_pos i with hz | hpos
        · have hz' : ¬ 0 < i := by omega
          have key := key (fun h => by omega)
          refine Run2.of I 1000 ?_
          simp -implicitDefEqProofs [hlt, hr, h1, hz']
          exact key
        · have hlt' : i - 1 < rs.length := by omega
          have hr' := hf.2 _ (List.getElem_mem hlt')
          have hc : ((i : Int) - 1).toNat = i - 1 := by omega
          by_cases h2 : cmpS rs[i - 1] rs[i] < 0
          · have key := key (fun _ => h2)
            refine Run2.of I 1000 ?_
            simp -implicitDefEqProofs [hlt, hlt', hr, hr', h1, hc, h2, hpos]
            exact ⟨by omega, by omega, key⟩
          · have hb := hbad fun h => h2 (h.2.1 hpos)
            refine Run2.of I 1000 ?_
            simp -implicitDefEqProofs [hlt, hlt', hr, hr', h1, hc, h2, hpos, hb]
            omega
      · have hb := hbad fun h => h1 h.1
        refine Run2.of I 1000 ?_
        simp -implicitDefEqProofs [hlt, hr, h1, hb]
    · obtain rfl : i = rs.length := by omega
      have eo : cxOk rs := ⟨fun j hj => hi.2 j hj hj, h48⟩
      refine Run2.of I 1000 ?_
      simp -implicitDefEqProofs [eo]
  · have h48' : (48 : Int) < rs.length := by omega
    have eo : ¬ cxOk rs := fun h => h48 h.2
    refine Run2.of I 1000 ?_
    simp -implicitDefEqProofs [h48', eo]
noncomputable def o_l05Ok : List AV → Option (Prop × AV) := tab (fun (x : LS × List AV) => match x with | (rs, e) => [.ip (.snap 1 (rs.map il) :: e)]) (fun x => match x with | (rs, e) => ssTot rs ≤ 1048576) (fun x => match x with | (rs, e) => .bool (decide (cxOk rs)))
@[simp] theorem o_l05Ok_e (rs : LS) (e : List AV) : o_l05Ok [.ip (.snap 1 (rs.map il) :: e)] = some (ssTot rs ≤ 1048576, .bool (decide (cxOk rs))) := tab_at (enc := fun (x : LS × List AV) => match x with | (rs, e) => [.ip (.snap 1 (rs.map il) :: e)]) (fun x y h => by
  obtain ⟨rs1, e1⟩ := x; obtain ⟨rs2, e2⟩ := y; simp at h; simp [h] <;> omega) _ _ (rs, e)
theorem o_l05Ok_k : Knows Try.prog 71 o_l05Ok := tab_knows fun x hx h => by
  obtain ⟨rs, e⟩ := x; exact l05Ok_s rs e h hx
/-- The places of the faces. -/
def facesI (rs : List (List Int)) (s : List Int) : List Int := (faces s).map (ixS rs)
theorem facesI_length (rs : List (List Int)) (s : List Int) : (facesI rs s).length ≤ s.length := by
  unfold facesI; rw [List.length_map]; exact faces_length s
abbrev c_spec_l05Faces_o0 : List AJ := [.o ⟨(some 4), none, false, .mv (.c .nilsl), (some [0, 1])⟩]
def c_spec_l05Faces_0 : ACode := .region c_spec_l05Faces_o0
abbrev c_spec_l05Faces_o1 : List AJ := [.o ⟨(some 8), none, false, .mv (.t 0), none⟩, .o ⟨(some 9), none, false, .nilchk (.t 8), none⟩, .o ⟨(some 10), none, false, .fieldA 0 (.t 9), none⟩, .o ⟨(some 11), none, false, .load 1 false (.t 10), none⟩, .o ⟨(some 12), none, false, .mv (.t 1), none⟩, .o ⟨(some 13), none, false, .idxA 1 (.t 11) (.t 12), none⟩, .o ⟨(some 14), none, false, .load 1 false (.t 13), none⟩, .o ⟨(some 5), none, false, .mv (.t 14), (some [0, 5])⟩]
def c_spec_l05Faces_1 : ACode := .region c_spec_l05Faces_o1
abbrev c_spec_l05Faces_o2 : List AJ := [.e 15 1 none, .o ⟨(some 6), none, false, .mv (.t 15), (some [0, 5, 6])⟩]
def c_spec_l05Faces_2 : ACode := .region c_spec_l05Faces_o2
abbrev c_spec_l05Faces_o3 : List AJ := [.o ⟨(some 7), none, false, .mv (.c (.int .i64 0)), (some [0, 5, 6, 7])⟩]
def c_spec_l05Faces_3 : ACode := .region c_spec_l05Faces_o3
abbrev c_spec_l05Faces_o4 : List AJ := [.o ⟨(some 16), none, false, .mv (.t 7), none⟩, .o ⟨(some 17), none, false, .mv (.t 5), none⟩, .o ⟨(some 18), none, false, .len (.t 17), none⟩, .o ⟨(some 19), none, false, .bin .lss (.t 16) (.t 18), none⟩, .o ⟨(some 20), none, false, .mv (.t 19), none⟩, .o ⟨(some 21), (some (20, true)), false, .mv (.t 5), none⟩, .o ⟨(some 22), (some (20, true)), false, .len (.t 21), none⟩, .o ⟨(some 23), (some (20, true)), false, .bin .gtr (.t 22) (.c (.int .i64 1)), none⟩, .o ⟨(some 24), none, false, .pick (.t 20) (.t 23) (.c (.bool false)), (some [0, 5, 6, 7, 24])⟩]
def c_spec_l05Faces_4 : ACode := .region c_spec_l05Faces_o4
def c_spec_l05Faces_5 : ACode := .cond (.t 24) .skip (.exit 0)
def c_spec_l05Faces_6 : ACode := .seq c_spec_l05Faces_4 c_spec_l05Faces_5
abbrev c_spec_l05Faces_o5 : List AJ := [.o ⟨(some 27), none, false, .mv (.t 6), none⟩, .o ⟨(some 28), none, false, .mv (.t 0), none⟩, .o ⟨(some 29), none, false, .mv (.t 5), none⟩, .o ⟨(some 30), none, false, .mv (.t 7), none⟩, .o ⟨(some 31), none, false, .call 114 [(.t 29), (.t 30)], none⟩, .o ⟨(some 32), none, false, .call 73 [(.t 28), (.t 31)], none⟩, .o ⟨(some 33), none, false, .bsl false 1 [(.t 32)], none⟩, .o ⟨(some 34), none, false, .append 1 8 (.t 27) (.t 33), none⟩, .o ⟨(some 6), none, false, .mv (.t 34), (some [0, 5, 6, 7])⟩]
def c_spec_l05Faces_7 : ACode := .region c_spec_l05Faces_o5
def c_spec_l05Faces_8 : ACode := .block 1 c_spec_l05Faces_7
abbrev c_spec_l05Faces_o6 : List AJ := [.o ⟨(some 25), none, false, .mv (.t 7), none⟩, .o ⟨(some 26), none, true, .bin .add (.t 25) (.c (.int .i64 1)), none⟩, .o ⟨(some 7), none, false, .mv (.t 26), (some [0, 5, 6, 7])⟩]
def c_spec_l05Faces_9 : ACode := .region c_spec_l05Faces_o6
def c_spec_l05Faces_10 : ACode := .seq c_spec_l05Faces_8 c_spec_l05Faces_9
def c_spec_l05Faces_11 : ACode := .seq c_spec_l05Faces_6 c_spec_l05Faces_10
def c_spec_l05Faces_12 : ACode := .loop c_spec_l05Faces_11
def c_spec_l05Faces_13 : ACode := .block 0 c_spec_l05Faces_12
def c_spec_l05Faces_14 : ACode := .seq c_spec_l05Faces_3 c_spec_l05Faces_13
abbrev c_spec_l05Faces_o7 : List AJ := [.o ⟨(some 35), none, false, .mv (.t 6), none⟩, .o ⟨(some 4), none, false, .mv (.t 35), (some [4])⟩]
def c_spec_l05Faces_15 : ACode := .region c_spec_l05Faces_o7
def c_spec_l05Faces_16 : ACode := .seq c_spec_l05Faces_15 .ret
def c_spec_l05Faces_17 : ACode := .seq c_spec_l05Faces_14 c_spec_l05Faces_16
def c_spec_l05Faces_18 : ACode := .seq c_spec_l05Faces_2 c_spec_l05Faces_17
def c_spec_l05Faces_19 : ACode := .seq c_spec_l05Faces_1 c_spec_l05Faces_18
def c_spec_l05Faces_20 : ACode := .seq c_spec_l05Faces_0 c_spec_l05Faces_19
section
variable (C : Cx) (n : Nat) (sk : List AItem) (e : Env) (h : Heap) (R : AV → Heap → Prop)
@[simp, simp ↓] theorem c_spec_l05Faces_0_r : vc2 C (n + 1) [] (.code c_spec_l05Faces_0 :: sk) e h R = (vc2 C n c_spec_l05Faces_o0 sk e h R) := nr rfl
@[simp, simp ↓] theorem c_spec_l05Faces_1_r : vc2 C (n + 1) [] (.code c_spec_l05Faces_1 :: sk) e h R = (vc2 C n c_spec_l05Faces_o1 sk e h R) := nr rfl
@[simp, simp ↓] theorem c_spec_l05Faces_2_r : vc2 C (n + 1) [] (.code c_spec_l05Faces_2 :: sk) e h R = (vc2 C n c_spec_l05Faces_o2 sk e h R) := nr rfl
@[simp, simp ↓] theorem c_spec_l05Faces_3_r : vc2 C (n + 1) [] (.code c_spec_l05Faces_3 :: sk) e h R = (vc2 C n c_spec_l05Faces_o3 sk e h R) := nr rfl
@[simp, simp ↓] theorem c_spec_l05Faces_4_r : vc2 C (n + 1) [] (.code c_spec_l05Faces_4 :: sk) e h R = (vc2 C n c_spec_l05Faces_o4 sk e h R) := nr rfl
@[simp, simp ↓] theorem c_spec_l05Faces_5_r : vc2 C (n + 1) [] (.code c_spec_l05Faces_5 :: sk) e h R = (condK (ev e (.t 24)) (vc2 C n [] (.code .skip :: sk) e h R) (vc2 C n [] (.code (.exit 0) :: sk) e h R)) := nr rfl
@[simp, simp ↓] theorem c_spec_l05Faces_6_r : vc2 C (n + 1) [] (.code c_spec_l05Faces_6 :: sk) e h R = (vc2 C n [] (.code c_spec_l05Faces_4 :: .code c_spec_l05Faces_5 :: sk) e h R) := nr rfl
@[simp, simp ↓] theorem c_spec_l05Faces_7_r : vc2 C (n + 1) [] (.code c_spec_l05Faces_7 :: sk) e h R = (vc2 C n c_spec_l05Faces_o5 sk e h R) := nr rfl
@[simp, simp ↓] theorem c_spec_l05Faces_8_r : vc2 C (n + 1) [] (.code c_spec_l05Faces_8 :: sk) e h R = (vc2 C n [] (.code c_spec_l05Faces_7 :: .inBlock 1 :: sk) e h R) := nr rfl
@[simp, simp ↓] theorem c_spec_l05Faces_9_r : vc2 C (n + 1) [] (.code c_spec_l05Faces_9 :: sk) e h R = (vc2 C n c_spec_l05Faces_o6 sk e h R) := nr rfl
@[simp, simp ↓] theorem c_spec_l05Faces_10_r : vc2 C (n + 1) [] (.code c_spec_l05Faces_10 :: sk) e h R = (vc2 C n [] (.code c_spec_l05Faces_8 :: .code c_spec_l05Faces_9 :: sk) e h R) := nr rfl
@[simp, simp ↓] theorem c_spec_l05Faces_11_r : vc2 C (n + 1) [] (.code c_spec_l05Faces_11 :: sk) e h R = (vc2 C n [] (.code c_spec_l05Faces_6 :: .code c_spec_l05Faces_10 :: sk) e h R) := nr rfl
@[simp, simp ↓] theorem c_spec_l05Faces_12_r : vc2 C (n + 1) [] (.code c_spec_l05Faces_12 :: sk) e h R = (Run2 C (.code c_spec_l05Faces_11 :: .inLoop c_spec_l05Faces_11 :: sk) e h R) := nr rfl
@[simp, simp ↓] theorem c_spec_l05Faces_13_r : vc2 C (n + 1) [] (.code c_spec_l05Faces_13 :: sk) e h R = (vc2 C n [] (.code c_spec_l05Faces_12 :: .inBlock 0 :: sk) e h R) := nr rfl
@[simp, simp ↓] theorem c_spec_l05Faces_14_r : vc2 C (n + 1) [] (.code c_spec_l05Faces_14 :: sk) e h R = (vc2 C n [] (.code c_spec_l05Faces_3 :: .code c_spec_l05Faces_13 :: sk) e h R) := nr rfl
@[simp, simp ↓] theorem c_spec_l05Faces_15_r : vc2 C (n + 1) [] (.code c_spec_l05Faces_15 :: sk) e h R = (vc2 C n c_spec_l05Faces_o7 sk e h R) := nr rfl
@[simp, simp ↓] theorem c_spec_l05Faces_16_r : vc2 C (n + 1) [] (.code c_spec_l05Faces_16 :: sk) e h R = (vc2 C n [] (.code c_spec_l05Faces_15 :: .code .ret :: sk) e h R) := nr rfl
@[simp, simp ↓] theorem c_spec_l05Faces_17_r : vc2 C (n + 1) [] (.code c_spec_l05Faces_17 :: sk) e h R = (vc2 C n [] (.code c_spec_l05Faces_14 :: .code c_spec_l05Faces_16 :: sk) e h R) := nr rfl
@[simp, simp ↓] theorem c_spec_l05Faces_18_r : vc2 C (n + 1) [] (.code c_spec_l05Faces_18 :: sk) e h R = (vc2 C n [] (.code c_spec_l05Faces_2 :: .code c_spec_l05Faces_17 :: sk) e h R) := nr rfl
@[simp, simp ↓] theorem c_spec_l05Faces_19_r : vc2 C (n + 1) [] (.code c_spec_l05Faces_19 :: sk) e h R = (vc2 C n [] (.code c_spec_l05Faces_1 :: .code c_spec_l05Faces_18 :: sk) e h R) := nr rfl
@[simp, simp ↓] theorem c_spec_l05Faces_20_r : vc2 C (n + 1) [] (.code c_spec_l05Faces_20 :: sk) e h R = (vc2 C n [] (.code c_spec_l05Faces_0 :: .code c_spec_l05Faces_19 :: sk) e h R) := nr rfl
end
noncomputable def c_spec_l05Faces_C (orc : Orc) : Cx := ⟨Try.prog, [15], 99, 36, [.tmp 4], orc⟩
@[simp] theorem c_spec_l05Faces_C_P (orc : Orc) : (c_spec_l05Faces_C orc).P = Try.prog := nr rfl
@[simp] theorem c_spec_l05Faces_C_o (orc : Orc) : (c_spec_l05Faces_C orc).orc = orc := nr rfl
@[simp] theorem c_spec_l05Faces_C_r (orc : Orc) : (c_spec_l05Faces_C orc).res = [.tmp 4] := nr rfl
theorem c_spec_l05Faces_of {args : List AV} {h : Heap} {R : AV → Heap → Prop} {k : Nat} (ha : args.length = k) {orc : Orc} (hp : Pure Try.prog orc) (hk : Is (c_spec_l05Faces_C orc) Try.f99 → Run2 (c_spec_l05Faces_C orc) [.code c_spec_l05Faces_20] (argEnv 0 args) h (Post R)) (hle : k ≤ 36 := by simp) : ACalls Try.prog 99 args h R :=
  contract2 [15] c_spec_l05Faces_20 [.tmp 4] Try.func99 (by decide +kernel) rfl (by kernel_rfl) (by rw [ha]; exact hle) (by kernel_rfl) hp hk
theorem c_spec_l05Faces_of0 {args : List AV} {h : Heap} {R : AV → Heap → Prop} {k : Nat} (ha : args.length = k) {orc : Orc} (hp : Pure Try.prog orc) (hk : Is (c_spec_l05Faces_C orc) Try.f99 → Run2 (c_spec_l05Faces_C orc) [.code c_spec_l05Faces_20] (argEnv 0 args) h R) (hle : k ≤ 36 := by simp) : ACalls Try.prog 99 args h R :=
  contract20 [15] c_spec_l05Faces_20 [.tmp 4] Try.func99 (by decide +kernel) rfl (by kernel_rfl) (by rw [ha]; exact hle) (by kernel_rfl) hp hk
theorem l05Faces_s (rs : List (List Int)) (e : List AV) (i : Nat) (h : Heap) (hl : ssTot rs ≤ 1048576) (hi : i < rs.length) : ACalls Try.prog 99 [.ip (.snap 1 (rs.map il) :: e), .int .i64 i] h (fun v h' => v = .snap 1 ((facesI rs rs[i]).map iv) ∧ h' = h) := by
  have hf := fit_of_tot hl
  have hr := hf.2 _ (List.getElem_mem hi)
  refine c_spec_l05Faces_of rfl orcS3_p fun I => ?_
  refine Run2.of I 1000 ?_
  simp -implicitDefEqProofs [hi]
  generalize hs : rs[i] = s at *
  by_cases hs1 : 1 < s.length
  · have hs1' : (1 : Int) < s.length := by omega
    refine Run2.loopE (α := Nat × AV × Heap) (fun p => [(0, .ip (.snap 1 (rs.map il) :: e)), (5, .snap 1 (s.map iv)), (6, p.2.1), (7, .int .i64 (p.1 : Nat))]) (fun p => p.2.2 ++ h) (fun p => s.length - p.1) (fun p => p.1 ≤ s.length ∧ Grow 1 p.2.1 (((List.range p.1).map fun k => ixS rs (dropK s k)).map iv) p.2.2) (0, .emp, []) (by simp) rfl ⟨Nat.zero_le _, by simpa using Grow.emp⟩ ?_
    rintro ⟨k, w, hp⟩ ⟨hk, hg⟩ ih
    simp only at hk hg
    have hcell := hg.cell
    by_cases hlt : k < s.length
    · have go := fun w' hp' (g : Grow 1 w' (((List.range k).map fun k => ixS rs (dropK s k)).map iv ++ [iv (ixS rs (dropK s k))]) hp') => ih (k + 1, w', hp') ⟨hlt, by
        simp only
        rw [List.range_succ, List.map_append, List.map_append]
        exact g⟩ (by simp; omega)
      clear ih
      refine Run2.of I 1000 ?_
      simp -implicitDefEqProofs [hlt, hs1', hcell, hr, hl]
      refine hg.app (by simp; omega) (by simp) fun w' hp' hg' => ?_
      have hcell' := hg'.cell
      have := go w' hp' hg'
      simp -implicitDefEqProofs [hcell']
      refine ⟨by omega, ?_⟩
      simpa using this
    · obtain rfl : k = s.length := by omega
      refine Run2.of I 1000 ?_
      simp -implicitDefEqProofs [hlt, hcell]
      refine hg.froze (fun x => x) (fun _ _ _ => rfl) (fun _ _ h => h) (.base ⟨?_, rfl⟩)
      simp [facesI, faces, hs1]
  · have hno : facesI rs s = [] := by unfold facesI faces; rw [if_neg hs1]; rfl
    refine Run2.loopE (fun (k : Nat) => [(0, .ip (.snap 1 (rs.map il) :: e)), (5, .snap 1 (s.map iv)), (6, .emp), (7, .int .i64 (k : Nat))]) (fun i => h) (fun k => 0) (fun k => k = 0) 0 (by simp) rfl rfl fun k hk ih => ?_
    subst hk
    have hs1' : ¬ (1 : Int) < s.length := by omega
    refine Run2.of I 1000 ?_
    by_cases hs0 : 0 < s.length
    · simp -implicitDefEqProofs [hs0, hs1', hno]
      exact .wk (Wk.emp 1) (.base ⟨rfl, rfl⟩)
    · simp -implicitDefEqProofs [hs0, hs1', hno]
      exact .wk (Wk.emp 1) (.base ⟨rfl, rfl⟩)
noncomputable def o_l05Faces : List AV → Option (Prop × AV) := tab (fun (x : LS × List AV × Nat) => match x with | (rs, e, i) => [.ip (.snap 1 (rs.map il) :: e), .int .i64 i]) (fun x => match x with | (rs, e, i) => (ssTot rs ≤ 1048576 ∧ i < rs.length)) (fun x => match x with | (rs, e, i) => .snap 1 ((facesI rs (rs.getD i [])).map iv))
@[simp] theorem o_l05Faces_e (rs : LS) (e : List AV) (i : Nat) : o_l05Faces [.ip (.snap 1 (rs.map il) :: e), .int .i64 i] = some ((ssTot rs ≤ 1048576 ∧ i < rs.length), .snap 1 ((facesI rs (rs.getD i [])).map iv)) := tab_at (enc := fun (x : LS × List AV × Nat) => match x with | (rs, e, i) => [.ip (.snap 1 (rs.map il) :: e), .int .i64 i]) (fun x y h => by
  obtain ⟨rs1, e1, i1⟩ := x; obtain ⟨rs2, e2, i2⟩ := y; simp at h; simp [h] <;> omega) _ _ (rs, e, i)
theorem o_l05Faces_k : Knows Try.prog 99 o_l05Faces := tab_knows fun x hx h => by
  obtain ⟨rs, e, i⟩ := x; exact by have := l05Faces_s rs e i h hx.1 hx.2; simpa [hx.2] using this
def colOk (l : List Int) (n p : Int) : Prop := (l.length : Int) = n ∧ ∀ t ∈ l, 0 ≤ t ∧ t ≤ p - 1
noncomputable instance (l : List Int) (n p : Int) : Decidable (colOk l n p) := Classical.propDecidable _
abbrev c_spec_l03Column_o0 : List AJ := [.o ⟨(some 6), none, false, .mv (.c (.bool false)), (some [0, 1, 2])⟩]
def c_spec_l03Column_0 : ACode := .region c_spec_l03Column_o0
abbrev c_spec_l03Column_o1 : List AJ := [.o ⟨(some 7), none, false, .mv (.c (.int .i64 0)), (some [0, 1, 2, 7])⟩]
def c_spec_l03Column_1 : ACode := .region c_spec_l03Column_o1
abbrev c_spec_l03Column_o2 : List AJ := [.o ⟨(some 8), none, false, .mv (.t 7), none⟩, .o ⟨(some 9), none, false, .mv (.t 0), none⟩, .o ⟨(some 10), none, false, .len (.t 9), none⟩, .o ⟨(some 11), none, false, .bin .lss (.t 8) (.t 10), (some [0, 1, 2, 7, 11])⟩]
def c_spec_l03Column_2 : ACode := .region c_spec_l03Column_o2
def c_spec_l03Column_3 : ACode := .cond (.t 11) .skip (.exit 0)
def c_spec_l03Column_4 : ACode := .seq c_spec_l03Column_2 c_spec_l03Column_3
abbrev c_spec_l03Column_o3 : List AJ := [.o ⟨(some 14), none, false, .mv (.t 0), none⟩, .o ⟨(some 15), none, false, .mv (.t 7), none⟩, .o ⟨(some 16), none, false, .idxA 1 (.t 14) (.t 15), none⟩, .o ⟨(some 17), none, false, .load 1 false (.t 16), none⟩, .o ⟨(some 18), none, false, .mv (.t 2), none⟩, .o ⟨(some 19), none, true, .bin .sub (.t 18) (.c (.int .i64 1)), none⟩, .o ⟨(some 20), none, false, .call 67 [(.t 17), (.c (.int .i64 0)), (.t 19)], none⟩, .o ⟨(some 21), none, false, .un .not (.t 20), (some [0, 1, 2, 7, 21])⟩]
def c_spec_l03Column_5 : ACode := .region c_spec_l03Column_o3
abbrev c_spec_l03Column_o4 : List AJ := [.o ⟨(some 6), none, false, .mv (.c (.bool false)), (some [6])⟩]
def c_spec_l03Column_6 : ACode := .region c_spec_l03Column_o4
def c_spec_l03Column_7 : ACode := .seq c_spec_l03Column_6 .ret
def c_spec_l03Column_8 : ACode := .cond (.t 21) c_spec_l03Column_7 .skip
def c_spec_l03Column_9 : ACode := .seq c_spec_l03Column_5 c_spec_l03Column_8
def c_spec_l03Column_10 : ACode := .block 1 c_spec_l03Column_9
abbrev c_spec_l03Column_o5 : List AJ := [.o ⟨(some 12), none, false, .mv (.t 7), none⟩, .o ⟨(some 13), none, true, .bin .add (.t 12) (.c (.int .i64 1)), none⟩, .o ⟨(some 7), none, false, .mv (.t 13), (some [0, 1, 2, 7])⟩]
def c_spec_l03Column_11 : ACode := .region c_spec_l03Column_o5
def c_spec_l03Column_12 : ACode := .seq c_spec_l03Column_10 c_spec_l03Column_11
def c_spec_l03Column_13 : ACode := .seq c_spec_l03Column_4 c_spec_l03Column_12
def c_spec_l03Column_14 : ACode := .loop c_spec_l03Column_13
def c_spec_l03Column_15 : ACode := .block 0 c_spec_l03Column_14
def c_spec_l03Column_16 : ACode := .seq c_spec_l03Column_1 c_spec_l03Column_15
abbrev c_spec_l03Column_o6 : List AJ := [.o ⟨(some 22), none, false, .mv (.t 0), none⟩, .o ⟨(some 23), none, false, .len (.t 22), none⟩, .o ⟨(some 24), none, false, .mv (.t 1), none⟩, .o ⟨(some 25), none, false, .bin .eql (.t 23) (.t 24), none⟩, .o ⟨(some 6), none, false, .mv (.t 25), (some [6])⟩]
def c_spec_l03Column_17 : ACode := .region c_spec_l03Column_o6
def c_spec_l03Column_18 : ACode := .seq c_spec_l03Column_17 .ret
def c_spec_l03Column_19 : ACode := .seq c_spec_l03Column_16 c_spec_l03Column_18
def c_spec_l03Column_20 : ACode := .seq c_spec_l03Column_0 c_spec_l03Column_19
section
variable (C : Cx) (n : Nat) (sk : List AItem) (e : Env) (h : Heap) (R : AV → Heap → Prop)
@[simp, simp ↓] theorem c_spec_l03Column_0_r : vc2 C (n + 1) [] (.code c_spec_l03Column_0 :: sk) e h R = (vc2 C n c_spec_l03Column_o0 sk e h R) := nr rfl
@[simp, simp ↓] theorem c_spec_l03Column_1_r : vc2 C (n + 1) [] (.code c_spec_l03Column_1 :: sk) e h R = (vc2 C n c_spec_l03Column_o1 sk e h R) := nr rfl
@[simp, simp ↓] theorem c_spec_l03Column_2_r : vc2 C (n + 1) [] (.code c_spec_l03Column_2 :: sk) e h R = (vc2 C n c_spec_l03Column_o2 sk e h R) := nr rfl
@[simp, simp ↓] theorem c_spec_l03Column_3_r : vc2 C (n + 1) [] (.code c_spec_l03Column_3 :: sk) e h R = (condK (ev e (.t 11)) (vc2 C n [] (.code .skip :: sk) e h R) (vc2 C n [] (.code (.exit 0) :: sk) e h R)) := nr rfl
@[simp, simp ↓] theorem c_spec_l03Column_4_r : vc2 C (n + 1) [] (.code c_spec_l03Column_4 :: sk) e h R = (vc2 C n [] (.code c_spec_l03Column_2 :: .code c_spec_l03Column_3 :: sk) e h R) := nr rfl
@[simp, simp ↓] theorem c_spec_l03Column_5_r : vc2 C (n + 1) [] (.code c_spec_l03Column_5 :: sk) e h R = (vc2 C n c_spec_l03Column_o3 sk e h R) := nr rfl
@[simp, simp ↓] theorem c_spec_l03Column_6_r : vc2 C (n + 1) [] (.code c_spec_l03Column_6 :: sk) e h R = (vc2 C n c_spec_l03Column_o4 sk e h R) := nr rfl
@[simp, simp ↓] theorem c_spec_l03Column_7_r : vc2 C (n + 1) [] (.code c_spec_l03Column_7 :: sk) e h R = (vc2 C n [] (.code c_spec_l03Column_6 :: .code .ret :: sk) e h R) := nr rfl
@[simp, simp ↓] theorem c_spec_l03Column_8_r : vc2 C (n + 1) [] (.code c_spec_l03Column_8 :: sk) e h R = (condK (ev e (.t 21)) (vc2 C n [] (.code c_spec_l03Column_7 :: sk) e h R) (vc2 C n [] (.code .skip :: sk) e h R)) := nr rfl
@[simp, simp ↓] theorem c_spec_l03Column_9_r : vc2 C (n + 1) [] (.code c_spec_l03Column_9 :: sk) e h R = (vc2 C n [] (.code c_spec_l03Column_5 :: .code c_spec_l03Column_8 :: sk) e h R) := nr rfl
@[simp, simp ↓] theorem c_spec_l03Column_10_r : vc2 C (n + 1) [] (.code c_spec_l03Column_10 :: sk) e h R = (vc2 C n [] (.code c_spec_l03Column_9 :: .inBlock 1 :: sk) e h R) := nr rfl
@[simp, simp ↓] theorem c_spec_l03Column_11_r : vc2 C (n + 1) [] (.code c_spec_l03Column_11 :: sk) e h R = (vc2 C n c_spec_l03Column_o5 sk e h R) := nr rfl
@[simp, simp ↓] theorem c_spec_l03Column_12_r : vc2 C (n + 1) [] (.code c_spec_l03Column_12 :: sk) e h R = (vc2 C n [] (.code c_spec_l03Column_10 :: .code c_spec_l03Column_11 :: sk) e h R) := nr rfl
@[simp, simp ↓] theorem c_spec_l03Column_13_r : vc2 C (n + 1) [] (.code c_spec_l03Column_13 :: sk) e h R = (vc2 C n [] (.code c_spec_l03Column_4 :: .code c_spec_l03Column_12 :: sk) e h R) := nr rfl
@[simp, simp ↓] theorem c_spec_l03Column_14_r : vc2 C (n + 1) [] (.code c_spec_l03Column_14 :: sk) e h R = (Run2 C (.code c_spec_l03Column_13 :: .inLoop c_spec_l03Column_13 :: sk) e h R) := nr rfl
@[simp, simp ↓] theorem c_spec_l03Column_15_r : vc2 C (n + 1) [] (.code c_spec_l03Column_15 :: sk) e h R = (vc2 C n [] (.code c_spec_l03Column_14 :: .inBlock 0 :: sk) e h R) := nr rfl
@[simp, simp ↓] theorem c_spec_l03Column_16_r : vc2 C (n + 1) [] (.code c_spec_l03Column_16 :: sk) e h R = (vc2 C n [] (.code c_spec_l03Column_1 :: .code c_spec_l03Column_15 :: sk) e h R) := nr rfl
@[simp, simp ↓] theorem c_spec_l03Column_17_r : vc2 C (n + 1) [] (.code c_spec_l03Column_17 :: sk) e h R = (vc2 C n c_spec_l03Column_o6 sk e h R) := nr rfl
@[simp, simp ↓] theorem c_spec_l03Column_18_r : vc2 C (n + 1) [] (.code c_spec_l03Column_18 :: sk) e h R = (vc2 C n [] (.code c_spec_l03Column_17 :: .code .ret :: sk) e h R) := nr rfl
@[simp, simp ↓] theorem c_spec_l03Column_19_r : vc2 C (n + 1) [] (.code c_spec_l03Column_19 :: sk) e h R = (vc2 C n [] (.code c_spec_l03Column_16 :: .code c_spec_l03Column_18 :: sk) e h R) := nr rfl
@[simp, simp ↓] theorem c_spec_l03Column_20_r : vc2 C (n + 1) [] (.code c_spec_l03Column_20 :: sk) e h R = (vc2 C n [] (.code c_spec_l03Column_0 :: .code c_spec_l03Column_19 :: sk) e h R) := nr rfl
end
noncomputable def c_spec_l03Column_C (orc : Orc) : Cx := ⟨Try.prog, [], 98, 26, [.tmp 6], orc⟩
@[simp] theorem c_spec_l03Column_C_P (orc : Orc) : (c_spec_l03Column_C orc).P = Try.prog := nr rfl
@[simp] theorem c_spec_l03Column_C_o (orc : Orc) : (c_spec_l03Column_C orc).orc = orc := nr rfl
@[simp] theorem c_spec_l03Column_C_r (orc : Orc) : (c_spec_l03Column_C orc).res = [.tmp 6] := nr rfl
theorem c_spec_l03Column_of {args : List AV} {h : Heap} {R : AV → Heap → Prop} {k : Nat} (ha : args.length = k) {orc : Orc} (hp : Pure Try.prog orc) (hk : Is (c_spec_l03Column_C orc) Try.f98 → Run2 (c_spec_l03Column_C orc) [.code c_spec_l03Column_20] (argEnv 0 args) h (Post R)) (hle : k ≤ 26 := by simp) : ACalls Try.prog 98 args h R :=
  contract2 [] c_spec_l03Column_20 [.tmp 6] Try.func98 (by decide +kernel) rfl (by kernel_rfl) (by rw [ha]; exact hle) (by kernel_rfl) hp hk
theorem c_spec_l03Column_of0 {args : List AV} {h : Heap} {R : AV → Heap → Prop} {k : Nat} (ha : args.length = k) {orc : Orc} (hp : Pure Try.prog orc) (hk : Is (c_spec_l03Column_C orc) Try.f98 → Run2 (c_spec_l03Column_C orc) [.code c_spec_l03Column_20] (argEnv 0 args) h R) (hle : k ≤ 26 := by simp) : ACalls Try.prog 98 args h R :=
  contract20 [] c_spec_l03Column_20 [.tmp 6] Try.func98 (by decide +kernel) rfl (by kernel_rfl) (by rw [ha]; exact hle) (by kernel_rfl) hp hk
theorem l03Column_s (l : List Int) (n p : Int) (h : Heap) (hl : l.length ≤ 1048576) (hp : 0 ≤ p ∧ p ≤ 1048576) : ACalls Try.prog 98 [.snap 1 (l.map iv), .int .i64 n, .int .i64 p] h (fun v h' => v = .bool (decide (colOk l n p)) ∧ h' = h) := by
  refine c_spec_l03Column_of0 rfl orcS1_p fun I => ?_
  refine Run2.of I 1000 ?_
  simp -implicitDefEqProofs
  refine Run2.loopE (fun (i : Nat) => [(0, .snap 1 (l.map iv)), (1, .int .i64 n), (2, .int .i64 p), (7, .int .i64 i)]) (fun i => h) (fun i => l.length - i) (fun i => i ≤ l.length ∧ ∀ j (hj : j < l.length), j < i → 0 ≤ l[j] ∧ l[j] ≤ p - 1) 0 (by simp) rfl ⟨Nat.zero_le _, fun _ _ h => by omega⟩ fun i hi ih => ?_
  by_cases hlt : i < l.length
  · have go := fun (h1 : 0 ≤ l[i] ∧ l[i] ≤ p - 1) => ih (i + 1) ⟨by omega, fun j hj hji => by
      rcases Nat.lt_or_ge j i with h | h
      · exact hi.2 j hj h
      · obtain rfl : j = i := by omega
        exact h1⟩ (by omega)
    have hb := fun (h1 : ¬ (0 ≤ l[i] ∧ l[i] ≤ p - 1)) => show ¬ colOk l n p from fun h => h1 (h.2 _ (List.getElem_mem hlt))
    clear ih
    by_cases h1 : 0 ≤ l[i] ∧ l[i] ≤ p - 1
    · have := go h1
      refine Run2.of I 1000 ?_
      simp -implicitDefEqProofs [hlt, h1.1, h1.2]
      refine ⟨by omega, by omega, by simpa using this⟩
    · have hb := hb h1
      have h1' : (decide (0 ≤ l[i]) && decide (l[i] ≤ p - 1)) = false := by rw [Bool.eq_false_iff]; simpa using h1
      refine Run2.of I 1000 ?_
      simp -implicitDefEqProofs [hlt, h1', hb]
      omega
  · obtain rfl : i = l.length := by omega
    have h1 : ∀ t ∈ l, 0 ≤ t ∧ t ≤ p - 1 := fun t ht => by
      obtain ⟨j, hj, rfl⟩ := List.mem_iff_getElem.1 ht
      exact hi.2 j hj hj
    have e : colOk l n p ↔ (l.length : Int) = n := ⟨fun h => h.1, fun h => ⟨h, h1⟩⟩
    refine Run2.of I 1000 ?_
    simp -implicitDefEqProofs [e]
noncomputable def o_l03Column : List AV → Option (Prop × AV) := tab (fun (x : List Int × Int × Int) => match x with | (l, n, p) => [.snap 1 (l.map iv), .int .i64 n, .int .i64 p]) (fun x => match x with | (l, n, p) => (l.length ≤ 1048576 ∧ 0 ≤ p ∧ p ≤ 1048576)) (fun x => match x with | (l, n, p) => .bool (decide (colOk l n p)))
@[simp] theorem o_l03Column_e (l : List Int) (n : Int) (p : Int) : o_l03Column [.snap 1 (l.map iv), .int .i64 n, .int .i64 p] = some ((l.length ≤ 1048576 ∧ 0 ≤ p ∧ p ≤ 1048576), .bool (decide (colOk l n p))) := tab_at (enc := fun (x : List Int × Int × Int) => match x with | (l, n, p) => [.snap 1 (l.map iv), .int .i64 n, .int .i64 p]) (fun x y h => by
  obtain ⟨l1, n1, p1⟩ := x; obtain ⟨l2, n2, p2⟩ := y; simp at h; simp [h] <;> omega) _ _ (l, n, p)
theorem o_l03Column_k : Knows Try.prog 98 o_l03Column := tab_knows fun x hx h => by
  obtain ⟨l, n, p⟩ := x; exact l03Column_s l n p h hx.1 hx.2
noncomputable def orcS4 : List (Nat × (List AV → Option (Prop × AV))) := (71, o_l05Ok) :: (99, o_l05Faces) :: (98, o_l03Column) :: orcS3
theorem orcS4_p : Pure Try.prog (lk orcS4) := (lk_pure o_l05Ok_k (lk_pure o_l05Faces_k (lk_pure o_l03Column_k orcS3_p)))
@[simp] theorem orcS4_l (g : FuncId) (l : List AV) : lk orcS4 g l = if g = 71 then o_l05Ok l else if g = 99 then o_l05Faces l else if g = 98 then o_l03Column l else lk orcS3 g l := nr rfl
def Fil.valid' (x : Fil) : Prop := cxOk x.rs ∧ colOk x.ts x.rs.length 1001 ∧ ∀ k (h : k < x.rs.length), x.faceOk k h
theorem Fil.valid_iff (x : Fil) : x.valid ↔ x.valid' := by
  unfold Fil.valid Fil.valid' colOk
  constructor
  · rintro ⟨h1, ⟨h2, h3⟩, h4⟩; exact ⟨h1, ⟨by omega, fun t ht => by have := h3 t ht; omega⟩, h4⟩
  · rintro ⟨h1, ⟨h2, h3⟩, h4⟩; exact ⟨h1, ⟨by omega, fun t ht => by have := h3 t ht; omega⟩, h4⟩
theorem faceOk_iff (x : Fil) (k : Nat) (h : k < x.rs.length) : x.faceOk k h ↔ ∀ j (hj : j < (facesI x.rs x.rs[k]).length), x.ts.getD ((facesI x.rs x.rs[k])[j]).toNat 0 ≤ x.ts.getD k 0 := by
  unfold Fil.faceOk facesI
  constructor
  · intro h1 j hj
    have := h1 ((faces x.rs[k])[j]'(by simpa using hj)) (List.getElem_mem _)
    simpa using this
  · intro h1 f hf
    obtain ⟨j, hj, rfl⟩ := List.mem_iff_getElem.1 hf
    have := h1 j (by simpa using hj)
    simpa using this
theorem facesI_in {rs : List (List Int)} (h : cxOk rs) {i : Nat} (hi : i < rs.length) : ∀ k ∈ facesI rs rs[i], 0 ≤ k ∧ k < rs.length := by
  intro k hk
  unfold facesI at hk
  obtain ⟨f, hf, rfl⟩ := List.mem_map.1 hk
  obtain ⟨j, hj, _, e⟩ := ixS_mem ((h.1 i hi).2.2 f hf)
  omega
abbrev c_spec_l21Ok_o0 : List AJ := [.o ⟨(some 2), none, false, .mv (.c (.bool false)), (some [0])⟩]
def c_spec_l21Ok_0 : ACode := .region c_spec_l21Ok_o0
abbrev c_spec_l21Ok_o1 : List AI := [⟨(some 6), none, false, .mv (.t 0), none⟩, ⟨(some 7), none, false, .nilchk (.t 6), none⟩, ⟨(some 8), none, false, .fieldA 0 (.t 7), none⟩, ⟨(some 9), none, false, .call 71 [(.t 8)], none⟩, ⟨(some 10), none, false, .un .not (.t 9), none⟩, ⟨(some 11), none, false, .mv (.t 10), none⟩, ⟨(some 12), (some (11, false)), false, .mv (.t 0), none⟩, ⟨(some 13), (some (11, false)), false, .nilchk (.t 12), none⟩, ⟨(some 14), (some (11, false)), false, .fieldA 1 (.t 13), none⟩, ⟨(some 15), (some (11, false)), false, .load 1 false (.t 14), (some [0, 11, 15])⟩, ⟨(some 16), (some (11, false)), false, .mv (.t 0), none⟩, ⟨(some 17), (some (11, false)), false, .nilchk (.t 16), none⟩, ⟨(some 18), (some (11, false)), false, .fieldA 0 (.t 17), none⟩, ⟨(some 19), (some (11, false)), false, .fieldA 0 (.t 18), none⟩, ⟨(some 20), (some (11, false)), false, .load 1 false (.t 19), none⟩, ⟨(some 21), (some (11, false)), false, .len (.t 20), none⟩, ⟨(some 22), (some (11, false)), false, .call 98 [(.t 15), (.t 21), (.c (.int .i64 1001))], (some [0, 11, 22])⟩, ⟨(some 23), (some (11, false)), false, .un .not (.t 22), none⟩, ⟨(some 24), none, false, .pick (.t 11) (.c (.bool true)) (.t 23), (some [0, 24])⟩]
def c_spec_l21Ok_1 : ACode := .draw c_spec_l21Ok_o1 [] rfl
abbrev c_spec_l21Ok_o2 : List AJ := [.o ⟨(some 2), none, false, .mv (.c (.bool false)), (some [2])⟩]
def c_spec_l21Ok_2 : ACode := .region c_spec_l21Ok_o2
def c_spec_l21Ok_3 : ACode := .seq c_spec_l21Ok_2 .ret
def c_spec_l21Ok_4 : ACode := .cond (.t 24) c_spec_l21Ok_3 .skip
def c_spec_l21Ok_5 : ACode := .seq c_spec_l21Ok_1 c_spec_l21Ok_4
abbrev c_spec_l21Ok_o3 : List AJ := [.o ⟨(some 3), none, false, .mv (.c (.int .i64 0)), (some [0, 3])⟩]
def c_spec_l21Ok_6 : ACode := .region c_spec_l21Ok_o3
abbrev c_spec_l21Ok_o4 : List AJ := [.o ⟨(some 25), none, false, .mv (.t 3), none⟩, .o ⟨(some 26), none, false, .mv (.t 0), none⟩, .o ⟨(some 27), none, false, .nilchk (.t 26), none⟩, .o ⟨(some 28), none, false, .fieldA 1 (.t 27), none⟩, .o ⟨(some 29), none, false, .load 1 false (.t 28), none⟩, .o ⟨(some 30), none, false, .len (.t 29), none⟩, .o ⟨(some 31), none, false, .bin .lss (.t 25) (.t 30), (some [0, 3, 31])⟩]
def c_spec_l21Ok_7 : ACode := .region c_spec_l21Ok_o4
def c_spec_l21Ok_8 : ACode := .cond (.t 31) .skip (.exit 0)
def c_spec_l21Ok_9 : ACode := .seq c_spec_l21Ok_7 c_spec_l21Ok_8
abbrev c_spec_l21Ok_o5 : List AJ := [.o ⟨(some 34), none, false, .mv (.t 0), none⟩, .o ⟨(some 35), none, false, .nilchk (.t 34), none⟩, .o ⟨(some 36), none, false, .fieldA 0 (.t 35), none⟩, .o ⟨(some 37), none, false, .mv (.t 3), none⟩, .o ⟨(some 38), none, false, .call 99 [(.t 36), (.t 37)], none⟩, .o ⟨(some 4), none, false, .mv (.t 38), (some [0, 3, 4])⟩]
def c_spec_l21Ok_10 : ACode := .region c_spec_l21Ok_o5
abbrev c_spec_l21Ok_o6 : List AJ := [.o ⟨(some 5), none, false, .mv (.c (.int .i64 0)), (some [0, 3, 4, 5])⟩]
def c_spec_l21Ok_11 : ACode := .region c_spec_l21Ok_o6
abbrev c_spec_l21Ok_o7 : List AJ := [.o ⟨(some 39), none, false, .mv (.t 5), none⟩, .o ⟨(some 40), none, false, .mv (.t 4), none⟩, .o ⟨(some 41), none, false, .len (.t 40), none⟩, .o ⟨(some 42), none, false, .bin .lss (.t 39) (.t 41), (some [0, 3, 4, 5, 42])⟩]
def c_spec_l21Ok_12 : ACode := .region c_spec_l21Ok_o7
def c_spec_l21Ok_13 : ACode := .cond (.t 42) .skip (.exit 2)
def c_spec_l21Ok_14 : ACode := .seq c_spec_l21Ok_12 c_spec_l21Ok_13
abbrev c_spec_l21Ok_o8 : List AI := [⟨(some 45), none, false, .mv (.t 0), none⟩, ⟨(some 46), none, false, .nilchk (.t 45), none⟩, ⟨(some 47), none, false, .fieldA 1 (.t 46), none⟩, ⟨(some 48), none, false, .load 1 false (.t 47), none⟩, ⟨(some 49), none, false, .mv (.t 4), none⟩, ⟨(some 50), none, false, .mv (.t 5), none⟩, ⟨(some 51), none, false, .idxA 1 (.t 49) (.t 50), none⟩, ⟨(some 52), none, false, .load 1 false (.t 51), none⟩, ⟨(some 53), none, false, .idxA 1 (.t 48) (.t 52), none⟩, ⟨(some 54), none, false, .load 1 false (.t 53), none⟩, ⟨(some 55), none, false, .mv (.t 0), none⟩, ⟨(some 56), none, false, .nilchk (.t 55), none⟩, ⟨(some 57), none, false, .fieldA 1 (.t 56), none⟩, ⟨(some 58), none, false, .load 1 false (.t 57), (some [0, 3, 4, 5, 54, 58])⟩, ⟨(some 59), none, false, .mv (.t 3), none⟩, ⟨(some 60), none, false, .idxA 1 (.t 58) (.t 59), none⟩, ⟨(some 61), none, false, .load 1 false (.t 60), none⟩, ⟨(some 62), none, false, .bin .gtr (.t 54) (.t 61), (some [0, 3, 4, 5, 62])⟩]
def c_spec_l21Ok_15 : ACode := .draw c_spec_l21Ok_o8 [] rfl
abbrev c_spec_l21Ok_o9 : List AJ := [.o ⟨(some 2), none, false, .mv (.c (.bool false)), (some [2])⟩]
def c_spec_l21Ok_16 : ACode := .region c_spec_l21Ok_o9
def c_spec_l21Ok_17 : ACode := .seq c_spec_l21Ok_16 .ret
def c_spec_l21Ok_18 : ACode := .cond (.t 62) c_spec_l21Ok_17 .skip
def c_spec_l21Ok_19 : ACode := .seq c_spec_l21Ok_15 c_spec_l21Ok_18
def c_spec_l21Ok_20 : ACode := .block 3 c_spec_l21Ok_19
abbrev c_spec_l21Ok_o10 : List AJ := [.o ⟨(some 43), none, false, .mv (.t 5), none⟩, .o ⟨(some 44), none, true, .bin .add (.t 43) (.c (.int .i64 1)), none⟩, .o ⟨(some 5), none, false, .mv (.t 44), (some [0, 3, 4, 5])⟩]
def c_spec_l21Ok_21 : ACode := .region c_spec_l21Ok_o10
def c_spec_l21Ok_22 : ACode := .seq c_spec_l21Ok_20 c_spec_l21Ok_21
def c_spec_l21Ok_23 : ACode := .seq c_spec_l21Ok_14 c_spec_l21Ok_22
def c_spec_l21Ok_24 : ACode := .loop c_spec_l21Ok_23
def c_spec_l21Ok_25 : ACode := .block 2 c_spec_l21Ok_24
def c_spec_l21Ok_26 : ACode := .seq c_spec_l21Ok_11 c_spec_l21Ok_25
def c_spec_l21Ok_27 : ACode := .seq c_spec_l21Ok_10 c_spec_l21Ok_26
def c_spec_l21Ok_28 : ACode := .block 1 c_spec_l21Ok_27
abbrev c_spec_l21Ok_o11 : List AJ := [.o ⟨(some 32), none, false, .mv (.t 3), none⟩, .o ⟨(some 33), none, true, .bin .add (.t 32) (.c (.int .i64 1)), none⟩, .o ⟨(some 3), none, false, .mv (.t 33), (some [0, 3])⟩]
def c_spec_l21Ok_29 : ACode := .region c_spec_l21Ok_o11
def c_spec_l21Ok_30 : ACode := .seq c_spec_l21Ok_28 c_spec_l21Ok_29
def c_spec_l21Ok_31 : ACode := .seq c_spec_l21Ok_9 c_spec_l21Ok_30
def c_spec_l21Ok_32 : ACode := .loop c_spec_l21Ok_31
def c_spec_l21Ok_33 : ACode := .block 0 c_spec_l21Ok_32
def c_spec_l21Ok_34 : ACode := .seq c_spec_l21Ok_6 c_spec_l21Ok_33
abbrev c_spec_l21Ok_o12 : List AJ := [.o ⟨(some 2), none, false, .mv (.c (.bool true)), (some [2])⟩]
def c_spec_l21Ok_35 : ACode := .region c_spec_l21Ok_o12
def c_spec_l21Ok_36 : ACode := .seq c_spec_l21Ok_35 .ret
def c_spec_l21Ok_37 : ACode := .seq c_spec_l21Ok_34 c_spec_l21Ok_36
def c_spec_l21Ok_38 : ACode := .seq c_spec_l21Ok_5 c_spec_l21Ok_37
def c_spec_l21Ok_39 : ACode := .seq c_spec_l21Ok_0 c_spec_l21Ok_38
section
variable (C : Cx) (n : Nat) (sk : List AItem) (e : Env) (h : Heap) (R : AV → Heap → Prop)
@[simp, simp ↓] theorem c_spec_l21Ok_0_r : vc2 C (n + 1) [] (.code c_spec_l21Ok_0 :: sk) e h R = (vc2 C n c_spec_l21Ok_o0 sk e h R) := nr rfl
@[simp, simp ↓] theorem c_spec_l21Ok_1_r : vc2 C (n + 1) [] (.code c_spec_l21Ok_1 :: sk) e h R = (draw2 C h (vK C n [] sk R h) c_spec_l21Ok_o1 e) := nr rfl
@[simp, simp ↓] theorem c_spec_l21Ok_2_r : vc2 C (n + 1) [] (.code c_spec_l21Ok_2 :: sk) e h R = (vc2 C n c_spec_l21Ok_o2 sk e h R) := nr rfl
@[simp, simp ↓] theorem c_spec_l21Ok_3_r : vc2 C (n + 1) [] (.code c_spec_l21Ok_3 :: sk) e h R = (vc2 C n [] (.code c_spec_l21Ok_2 :: .code .ret :: sk) e h R) := nr rfl
@[simp, simp ↓] theorem c_spec_l21Ok_4_r : vc2 C (n + 1) [] (.code c_spec_l21Ok_4 :: sk) e h R = (condK (ev e (.t 24)) (vc2 C n [] (.code c_spec_l21Ok_3 :: sk) e h R) (vc2 C n [] (.code .skip :: sk) e h R)) := nr rfl
@[simp, simp ↓] theorem c_spec_l21Ok_5_r : vc2 C (n + 1) [] (.code c_spec_l21Ok_5 :: sk) e h R = (vc2 C n [] (.code c_spec_l21Ok_1 :: .code c_spec_l21Ok_4 :: sk) e h R) := nr rfl
@[simp, simp ↓] theorem c_spec_l21Ok_6_r : vc2 C (n + 1) [] (.code c_spec_l21Ok_6 :: sk) e h R = (vc2 C n c_spec_l21Ok_o3 sk e h R) := nr rfl
@[simp, simp ↓] theorem c_spec_l21Ok_7_r : vc2 C (n + 1) [] (.code c_spec_l21Ok_7 :: sk) e h R = (vc2 C n c_spec_l21Ok_o4 sk e h R) := nr rfl
@[simp, simp ↓] theorem c_spec_l21Ok_8_r : vc2 C (n + 1) [] (.code c_spec_l21Ok_8 :: sk) e h R = (condK (ev e (.t 31)) (vc2 C n [] (.code .skip :: sk) e h R) (vc2 C n [] (.code (.exit 0) :: sk) e h R)) := nr rfl
@[simp, simp ↓] theorem c_spec_l21Ok_9_r : vc2 C (n + 1) [] (.code c_spec_l21Ok_9 :: sk) e h R = (vc2 C n [] (.code c_spec_l21Ok_7 :: .code c_spec_l21Ok_8 :: sk) e h R) := nr rfl
@[simp, simp ↓] theorem c_spec_l21Ok_10_r : vc2 C (n + 1) [] (.code c_spec_l21Ok_10 :: sk) e h R = (vc2 C n c_spec_l21Ok_o5 sk e h R) := nr rfl
@[simp, simp ↓] theorem c_spec_l21Ok_11_r : vc2 C (n + 1) [] (.code c_spec_l21Ok_11 :: sk) e h R = (vc2 C n c_spec_l21Ok_o6 sk e h R) := nr rfl
@[simp, simp ↓] theorem c_spec_l21Ok_12_r : vc2 C (n + 1) [] (.code c_spec_l21Ok_12 :: sk) e h R = (vc2 C n c_spec_l21Ok_o7 sk e h R) := nr rfl
@[simp, simp ↓] theorem c_spec_l21Ok_13_r : vc2 C (n + 1) [] (.code c_spec_l21Ok_13 :: sk) e h R = (condK (ev e (.t 42)) (vc2 C n [] (.code .skip :: sk) e h R) (vc2 C n [] (.code (.exit 2) :: sk) e h R)) := nr rfl
@[simp, simp ↓] theorem c_spec_l21Ok_14_r : vc2 C (n + 1) [] (.code c_spec_l21Ok_14 :: sk) e h R = (vc2 C n [] (.code c_spec_l21Ok_12 :: .code c_spec_l21Ok_13 :: sk) e h R) := nr rfl
@[simp, simp ↓] theorem c_spec_l21Ok_15_r : vc2 C (n + 1) [] (.code c_spec_l21Ok_15 :: sk) e h R = (draw2 C h (vK C n [] sk R h) c_spec_l21Ok_o8 e) := nr rfl
@[simp, simp ↓] theorem c_spec_l21Ok_16_r : vc2 C (n + 1) [] (.code c_spec_l21Ok_16 :: sk) e h R = (vc2 C n c_spec_l21Ok_o9 sk e h R) := nr rfl
@[simp, simp ↓] theorem c_spec_l21Ok_17_r : vc2 C (n + 1) [] (.code c_spec_l21Ok_17 :: sk) e h R = (vc2 C n [] (.code c_spec_l21Ok_16 :: .code .ret :: sk) e h R) := nr rfl
@[simp, simp ↓] theorem c_spec_l21Ok_18_r : vc2 C (n + 1) [] (.code c_spec_l21Ok_18 :: sk) e h R = (condK (ev e (.t 62)) (vc2 C n [] (.code c_spec_l21Ok_17 :: sk) e h R) (vc2 C n [] (.code .skip :: sk) e h R)) := nr rfl
@[simp, simp ↓] theorem c_spec_l21Ok_19_r : vc2 C (n + 1) [] (.code c_spec_l21Ok_19 :: sk) e h R = (vc2 C n [] (.code c_spec_l21Ok_15 :: .code c_spec_l21Ok_18 :: sk) e h R) := nr rfl
@[simp, simp ↓] theorem c_spec_l21Ok_20_r : vc2 C (n + 1) [] (.code c_spec_l21Ok_20 :: sk) e h R = (vc2 C n [] (.code c_spec_l21Ok_19 :: .inBlock 3 :: sk) e h R) := nr rfl
@[simp, simp ↓] theorem c_spec_l21Ok_21_r : vc2 C (n + 1) [] (.code c_spec_l21Ok_21 :: sk) e h R = (vc2 C n c_spec_l21Ok_o10 sk e h R) := nr rfl
@[simp, simp ↓] theorem c_spec_l21Ok_22_r : vc2 C (n + 1) [] (.code c_spec_l21Ok_22 :: sk) e h R = (vc2 C n [] (.code c_spec_l21Ok_20 :: .code c_spec_l21Ok_21 :: sk) e h R) := nr rfl
@[simp, simp ↓] theorem c_spec_l21Ok_23_r : vc2 C (n + 1) [] (.code c_spec_l21Ok_23 :: sk) e h R = (vc2 C n [] (.code c_spec_l21Ok_14 :: .code c_spec_l21Ok_22 :: sk) e h R) := nr rfl
@[simp, simp ↓] theorem c_spec_l21Ok_24_r : vc2 C (n + 1) [] (.code c_spec_l21Ok_24 :: sk) e h R = (Run2 C (.code c_spec_l21Ok_23 :: .inLoop c_spec_l21Ok_23 :: sk) e h R) := nr rfl
@[simp, simp ↓] theorem c_spec_l21Ok_25_r : vc2 C (n + 1) [] (.code c_spec_l21Ok_25 :: sk) e h R = (vc2 C n [] (.code c_spec_l21Ok_24 :: .inBlock 2 :: sk) e h R) := nr rfl
@[simp, simp ↓] theorem c_spec_l21Ok_26_r : vc2 C (n + 1) [] (.code c_spec_l21Ok_26 :: sk) e h R = (vc2 C n [] (.code c_spec_l21Ok_11 :: .code c_spec_l21Ok_25 :: sk) e h R) := nr rfl
@[simp, simp ↓] theorem c_spec_l21Ok_27_r : vc2 C (n + 1) [] (.code c_spec_l21Ok_27 :: sk) e h R = (vc2 C n [] (.code c_spec_l21Ok_10 :: .code c_spec_l21Ok_26 :: sk) e h R) := nr rfl
@[simp, simp ↓] theorem c_spec_l21Ok_28_r : vc2 C (n + 1) [] (.code c_spec_l21Ok_28 :: sk) e h R = (vc2 C n [] (.code c_spec_l21Ok_27 :: .inBlock 1 :: sk) e h R) := nr rfl
@[simp, simp ↓] theorem c_spec_l21Ok_29_r : vc2 C (n + 1) [] (.code c_spec_l21Ok_29 :: sk) e h R = (vc2 C n c_spec_l21Ok_o11 sk e h R) := nr rfl
@[simp, simp ↓] theorem c_spec_l21Ok_30_r : vc2 C (n + 1) [] (.code c_spec_l21Ok_30 :: sk) e h R = (vc2 C n [] (.code c_spec_l21Ok_28 :: .code c_spec_l21Ok_29 :: sk) e h R) := nr rfl
@[simp, simp ↓] theorem c_spec_l21Ok_31_r : vc2 C (n + 1) [] (.code c_spec_l21Ok_31 :: sk) e h R = (vc2 C n [] (.code c_spec_l21Ok_9 :: .code c_spec_l21Ok_30 :: sk) e h R) := nr rfl
@[simp, simp ↓] theorem c_spec_l21Ok_32_r : vc2 C (n + 1) [] (.code c_spec_l21Ok_32 :: sk) e h R = (Run2 C (.code c_spec_l21Ok_31 :: .inLoop c_spec_l21Ok_31 :: sk) e h R) := nr rfl
@[simp, simp ↓] theorem c_spec_l21Ok_33_r : vc2 C (n + 1) [] (.code c_spec_l21Ok_33 :: sk) e h R = (vc2 C n [] (.code c_spec_l21Ok_32 :: .inBlock 0 :: sk) e h R) := nr rfl
@[simp, simp ↓] theorem c_spec_l21Ok_34_r : vc2 C (n + 1) [] (.code c_spec_l21Ok_34 :: sk) e h R = (vc2 C n [] (.code c_spec_l21Ok_6 :: .code c_spec_l21Ok_33 :: sk) e h R) := nr rfl
@[simp, simp ↓] theorem c_spec_l21Ok_35_r : vc2 C (n + 1) [] (.code c_spec_l21Ok_35 :: sk) e h R = (vc2 C n c_spec_l21Ok_o12 sk e h R) := nr rfl
@[simp, simp ↓] theorem c_spec_l21Ok_36_r : vc2 C (n + 1) [] (.code c_spec_l21Ok_36 :: sk) e h R = (vc2 C n [] (.code c_spec_l21Ok_35 :: .code .ret :: sk) e h R) := nr rfl
@[simp, simp ↓] theorem c_spec_l21Ok_37_r : vc2 C (n + 1) [] (.code c_spec_l21Ok_37 :: sk) e h R = (vc2 C n [] (.code c_spec_l21Ok_34 :: .code c_spec_l21Ok_36 :: sk) e h R) := nr rfl
@[simp, simp ↓] theorem c_spec_l21Ok_38_r : vc2 C (n + 1) [] (.code c_spec_l21Ok_38 :: sk) e h R = (vc2 C n [] (.code c_spec_l21Ok_5 :: .code c_spec_l21Ok_37 :: sk) e h R) := nr rfl
@[simp, simp ↓] theorem c_spec_l21Ok_39_r : vc2 C (n + 1) [] (.code c_spec_l21Ok_39 :: sk) e h R = (vc2 C n [] (.code c_spec_l21Ok_0 :: .code c_spec_l21Ok_38 :: sk) e h R) := nr rfl
end
noncomputable def c_spec_l21Ok_C (orc : Orc) : Cx := ⟨Try.prog, [], 53, 63, [.tmp 2], orc⟩
@[simp] theorem c_spec_l21Ok_C_P (orc : Orc) : (c_spec_l21Ok_C orc).P = Try.prog := nr rfl
@[simp] theorem c_spec_l21Ok_C_o (orc : Orc) : (c_spec_l21Ok_C orc).orc = orc := nr rfl
@[simp] theorem c_spec_l21Ok_C_r (orc : Orc) : (c_spec_l21Ok_C orc).res = [.tmp 2] := nr rfl
theorem c_spec_l21Ok_of {args : List AV} {h : Heap} {R : AV → Heap → Prop} {k : Nat} (ha : args.length = k) {orc : Orc} (hp : Pure Try.prog orc) (hk : Is (c_spec_l21Ok_C orc) Try.f53 → Run2 (c_spec_l21Ok_C orc) [.code c_spec_l21Ok_39] (argEnv 0 args) h (Post R)) (hle : k ≤ 63 := by simp) : ACalls Try.prog 53 args h R :=
  contract2 [] c_spec_l21Ok_39 [.tmp 2] Try.func53 (by decide +kernel) rfl (by kernel_rfl) (by rw [ha]; exact hle) (by kernel_rfl) hp hk
theorem c_spec_l21Ok_of0 {args : List AV} {h : Heap} {R : AV → Heap → Prop} {k : Nat} (ha : args.length = k) {orc : Orc} (hp : Pure Try.prog orc) (hk : Is (c_spec_l21Ok_C orc) Try.f53 → Run2 (c_spec_l21Ok_C orc) [.code c_spec_l21Ok_39] (argEnv 0 args) h R) (hle : k ≤ 63 := by simp) : ACalls Try.prog 53 args h R :=
  contract20 [] c_spec_l21Ok_39 [.tmp 2] Try.func53 (by decide +kernel) rfl (by kernel_rfl) (by rw [ha]; exact hle) (by kernel_rfl) hp hk
theorem l21Ok_s (x : Fil) (h : Heap) (hl : x.tot ≤ 1048576) : ACalls Try.prog 53 [.ip [.snap 1 (x.rs.map il), .snap 1 (x.ts.map iv)]] h (fun v h' => v = .bool (decide x.valid) ∧ h' = h) := by
  obtain ⟨hl1, hl2⟩ := x.lens hl
  have hn := (fit_of_tot hl1).1
  refine c_spec_l21Ok_of0 rfl orcS4_p fun I => ?_
  have hv := x.valid_iff
  unfold Fil.valid' at hv
  by_cases h1 : cxOk x.rs
  · by_cases h2 : colOk x.ts x.rs.length 1001
    · have hv : x.valid ↔ ∀ k (h : k < x.rs.length), x.faceOk k h := by rw [hv]; simp [h1, h2]
      have htl : x.ts.length = x.rs.length := by have := h2.1; omega
      refine Run2.of I 1000 ?_
      simp -implicitDefEqProofs [hl1, hl2, h1, h2]
      refine Run2.loopE (fun (i : Nat) => [(0, .ip [.snap 1 (x.rs.map il), .snap 1 (x.ts.map iv)]), (3, .int .i64 i)]) (fun i => h) (fun i => x.ts.length - i) (fun i => i ≤ x.ts.length ∧ ∀ j (hj : j < x.rs.length), j < i → x.faceOk j hj) 0 (by simp) rfl ⟨Nat.zero_le _, fun _ _ h => by omega⟩ fun i hi ih => ?_
      by_cases hlt : i < x.ts.length
      · have hlt' : i < x.rs.length := by omega
        have hget : x.rs.getD i [] = x.rs[i] := by simp [hlt']
        have hin := facesI_in h1 hlt'
        have hfo := faceOk_iff x i hlt'
        have go := fun (h1 : x.faceOk i hlt') => ih (i + 1) ⟨by omega, fun j hj hji => by
          rcases Nat.lt_or_ge j i with h | h
          · exact hi.2 j hj h
          · obtain rfl : j = i := by omega
            exact h1⟩ (by omega)
        have hbad : ¬ x.faceOk i hlt' → ¬ x.valid := fun h1 h2 => h1 (hv.1 h2 i hlt')
        have hfl := facesI_length x.rs x.rs[i]
        have hr := (fit_of_tot hl1).2 _ (List.getElem_mem hlt')
        rw [hfo] at go hbad
        have hti : x.ts.getD i 0 = x.ts[i] := by simp [hlt]
        rw [hti] at go hbad
        clear ih hfo
        refine Run2.of I 1000 ?_
        simp -implicitDefEqProofs [hlt, hlt', hl1, hget]
        generalize facesI x.rs x.rs[i] = fs at *
        refine Run2.loopE (fun (k : Nat) => [(0, .ip [.snap 1 (x.rs.map il), .snap 1 (x.ts.map iv)]), (3, .int .i64 i), (4, .snap 1 (fs.map iv)), (5, .int .i64 k)]) (fun i => h) (fun k => fs.length - k) (fun k => k ≤ fs.length ∧ ∀ j (hj : j < fs.length), j < k → x.ts.getD fs[j].toNat 0 ≤ x.ts[i]) 0 (by simp) rfl ⟨Nat.zero_le _, fun _ _ h => by omega⟩ fun k hk ih => ?_
        by_cases hkl : k < fs.length
        · have hfk := hin _ (List.getElem_mem hkl)
          obtain ⟨m, hm⟩ := Int.eq_ofNat_of_zero_le hfk.1
          rw [hm] at hfk
          have hml : m < x.ts.length := by omega
          have htm : x.ts.getD fs[k].toNat 0 = x.ts[m] := by rw [hm]; simp [hml]
          have go2 := fun (hm2 : x.ts[m] ≤ x.ts[i]) => ih (k + 1) ⟨by omega, fun j hj hjk => by
            rcases Nat.lt_or_ge j k with h | h
            · exact hk.2 j hj h
            · obtain rfl : j = k := by omega
              rw [htm]; exact hm2⟩ (by omega)
          have hb := fun (hm : x.ts[i] < x.ts[m]) => hbad fun h => by have := h k hkl; rw [htm] at this; omega
          clear ih
          refine Run2.of I 1000 ?_
          simp -implicitDefEqProofs [hkl, hm, hml, hlt]
          refine ⟨fun h => hb h, fun h => ⟨by omega, by simpa using go2 h⟩⟩
        · obtain rfl : k = fs.length := by omega
          have := go fun j hj => hk.2 j hj hj
          refine Run2.of I 1000 ?_
          simp -implicitDefEqProofs [hkl]
          refine ⟨by omega, by simpa using this⟩
      · obtain rfl : i = x.ts.length := by omega
        have eo : x.valid := hv.2 fun k hk => hi.2 k hk (by omega)
        refine Run2.of I 1000 ?_
        simp -implicitDefEqProofs [eo]
    · have hb : ¬ x.valid := fun h => h2 (hv.1 h).2.1
      refine Run2.of I 1000 ?_
      simp -implicitDefEqProofs [hl1, hl2, h1, h2, hb]
  · have hb : ¬ x.valid := fun h => h1 (hv.1 h).1
    refine Run2.of I 1000 ?_
    simp -implicitDefEqProofs [hl1, hl2, h1, hb]
noncomputable def o_l21Ok : List AV → Option (Prop × AV) := tab (fun (x : LS × List Int) => match x with | (rs, ts) => [.ip [.snap 1 (rs.map il), .snap 1 (ts.map iv)]]) (fun x => match x with | (rs, ts) => (⟨rs, ts⟩ : Fil).tot ≤ 1048576) (fun x => match x with | (rs, ts) => .bool (decide (⟨rs, ts⟩ : Fil).valid))
@[simp] theorem o_l21Ok_e (rs : LS) (ts : List Int) : o_l21Ok [.ip [.snap 1 (rs.map il), .snap 1 (ts.map iv)]] = some ((⟨rs, ts⟩ : Fil).tot ≤ 1048576, .bool (decide (⟨rs, ts⟩ : Fil).valid)) := tab_at (enc := fun (x : LS × List Int) => match x with | (rs, ts) => [.ip [.snap 1 (rs.map il), .snap 1 (ts.map iv)]]) (fun x y h => by
  obtain ⟨rs1, ts1⟩ := x; obtain ⟨rs2, ts2⟩ := y; simp at h; simp [h] <;> omega) _ _ (rs, ts)
theorem o_l21Ok_k : Knows Try.prog 53 o_l21Ok := tab_knows fun x hx h => by
  obtain ⟨rs, ts⟩ := x; exact l21Ok_s ⟨rs, ts⟩ h hx
@[simp] theorem Fil_eta (x : Fil) : (⟨x.rs, x.ts⟩ : Fil) = x := rfl
end Go.AG
