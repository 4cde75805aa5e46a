/- What ValidGraph and its counterpart of the reference ask of a graph. No statement is made here. -/
import Derived.Test.YtlncpnefkpfojaaGrV
namespace Go.AG
open Go.Proofs Go.Proofs.Ytlncpnefkpfojaa
set_option linter.unusedSimpArgs false
set_option linter.unusedVariables false
set_option maxRecDepth 4000
/-- One edge is as it must be. -/
def Gr.el (x : Gr) (t : T) : Prop := 0 ≤ t.f ∧ t.f < t.t ∧ t.t < x.n ∧ 1 ≤ t.s ∧ t.s ≤ 9
/-- The first i edges are as they must be, in order. -/
def Gr.good (x : Gr) (i : Nat) : Prop := ∀ j, (hj : j < x.ts.length) → j < i → x.el x.ts[j] ∧ (0 < j → (x.ts[j - 1]).lt x.ts[j])
def Gr.valid (x : Gr) : Prop := 1 ≤ x.n ∧ x.n ≤ 12 ∧ x.good x.ts.length ∧ x.ts.length ≤ 24
noncomputable instance (x : Gr) : Decidable x.valid := Classical.propDecidable _
theorem Gr.good_succ {x : Gr} {i : Nat} (hi : i < x.ts.length) : x.good (i + 1) ↔ x.good i ∧ x.el x.ts[i] ∧ (0 < i → (x.ts[i - 1]).lt x.ts[i]) := by
  constructor
  · intro h
    exact ⟨fun j hj hji => h j hj (by omega), h i hi (by omega)⟩
  · rintro ⟨h1, h2⟩ j hj hji
    rcases Nat.lt_or_ge j i with h | h
    · exact h1 j hj h
    · obtain rfl : j = i := by omega
      exact h2
theorem Gr.good_mono {x : Gr} {i j : Nat} (h : x.good j) (hij : i ≤ j) : x.good i := fun k hk hki => h k hk (by omega)
theorem Gr.not_valid {x : Gr} {i : Nat} (hi : i < x.ts.length) (h : ¬ (x.el x.ts[i] ∧ (0 < i → (x.ts[i - 1]).lt x.ts[i]))) : ¬ x.valid := fun hv =>
  h ((Gr.good_succ hi).1 (Gr.good_mono hv.2.2.1 (by omega))).2
theorem Gr.valid.el {x : Gr} (h : x.valid) {t : T} (ht : t ∈ x.ts) : x.el t := by
  obtain ⟨i, hi, rfl⟩ := List.mem_iff_getElem.1 ht
  exact (h.2.2.1 i hi hi).1
abbrev c_spec_l16Ok_o0 : List AJ := [.o ⟨(some 2), none, false, .mv (.c (.bool false)), (some [0])⟩]
def c_spec_l16Ok_0 : ACode := .region c_spec_l16Ok_o0
abbrev c_spec_l16Ok_o1 : List AJ := [.o ⟨(some 5), none, false, .mv (.t 0), none⟩, .o ⟨(some 6), none, false, .nilchk (.t 5), none⟩, .o ⟨(some 7), none, false, .fieldA 0 (.t 6), none⟩, .o ⟨(some 8), none, false, .load 1 false (.t 7), none⟩, .o ⟨(some 9), none, false, .call 69 [(.t 8), (.c (.int .i64 1)), (.c (.int .i64 12))], none⟩, .o ⟨(some 10), none, false, .un .not (.t 9), (some [0, 10])⟩]
def c_spec_l16Ok_1 : ACode := .region c_spec_l16Ok_o1
abbrev c_spec_l16Ok_o2 : List AJ := [.o ⟨(some 2), none, false, .mv (.c (.bool false)), (some [2])⟩]
def c_spec_l16Ok_2 : ACode := .region c_spec_l16Ok_o2
def c_spec_l16Ok_3 : ACode := .seq c_spec_l16Ok_2 .ret
def c_spec_l16Ok_4 : ACode := .cond (.t 10) c_spec_l16Ok_3 .skip
def c_spec_l16Ok_5 : ACode := .seq c_spec_l16Ok_1 c_spec_l16Ok_4
abbrev c_spec_l16Ok_o3 : List AJ := [.o ⟨(some 3), none, false, .mv (.c (.int .i64 0)), (some [0, 3])⟩]
def c_spec_l16Ok_6 : ACode := .region c_spec_l16Ok_o3
abbrev c_spec_l16Ok_o4 : List AJ := [.o ⟨(some 11), none, false, .mv (.t 3), none⟩, .o ⟨(some 12), none, false, .mv (.t 0), none⟩, .o ⟨(some 13), none, false, .nilchk (.t 12), none⟩, .o ⟨(some 14), none, false, .fieldA 1 (.t 13), none⟩, .o ⟨(some 15), none, false, .load 1 false (.t 14), none⟩, .o ⟨(some 16), none, false, .len (.t 15), none⟩, .o ⟨(some 17), none, false, .bin .lss (.t 11) (.t 16), (some [0, 3, 17])⟩]
def c_spec_l16Ok_7 : ACode := .region c_spec_l16Ok_o4
def c_spec_l16Ok_8 : ACode := .cond (.t 17) .skip (.exit 0)
def c_spec_l16Ok_9 : ACode := .seq c_spec_l16Ok_7 c_spec_l16Ok_8
abbrev c_spec_l16Ok_o5 : List AJ := [.o ⟨(some 20), none, false, .mv (.t 0), none⟩, .o ⟨(some 21), none, false, .nilchk (.t 20), none⟩, .o ⟨(some 22), none, false, .fieldA 1 (.t 21), none⟩, .o ⟨(some 23), none, false, .load 1 false (.t 22), none⟩, .o ⟨(some 24), none, false, .mv (.t 3), none⟩, .o ⟨(some 25), none, false, .idxA 3 (.t 23) (.t 24), none⟩, .o ⟨(some 26), none, false, .load 3 true (.t 25), none⟩, .v 4 3 (.agg [(.int .i64 0), (.int .i64 0), (.int .i64 0)]) [] (.t 26) (some [0, 3, 4])]
def c_spec_l16Ok_10 : ACode := .region c_spec_l16Ok_o5
abbrev c_spec_l16Ok_o6 : List AI := [⟨(some 27), none, false, .fieldA 1 (.t 4), none⟩, ⟨(some 28), none, false, .load 1 false (.t 27), none⟩, ⟨(some 29), none, false, .mv (.t 0), none⟩, ⟨(some 30), none, false, .nilchk (.t 29), none⟩, ⟨(some 31), none, false, .fieldA 0 (.t 30), none⟩, ⟨(some 32), none, false, .load 1 false (.t 31), none⟩, ⟨(some 33), none, true, .bin .sub (.t 32) (.c (.int .i64 1)), none⟩, ⟨(some 34), none, false, .call 69 [(.t 28), (.c (.int .i64 0)), (.t 33)], none⟩, ⟨(some 35), none, false, .un .not (.t 34), none⟩, ⟨(some 36), none, false, .mv (.t 35), none⟩, ⟨(some 37), (some (36, false)), false, .fieldA 0 (.t 4), none⟩, ⟨(some 38), (some (36, false)), false, .load 1 false (.t 37), (some [0, 3, 4, 36, 38])⟩, ⟨(some 39), (some (36, false)), false, .fieldA 1 (.t 4), none⟩, ⟨(some 40), (some (36, false)), false, .load 1 false (.t 39), none⟩, ⟨(some 41), (some (36, false)), true, .bin .sub (.t 40) (.c (.int .i64 1)), none⟩, ⟨(some 42), (some (36, false)), false, .call 69 [(.t 38), (.c (.int .i64 0)), (.t 41)], none⟩, ⟨(some 43), (some (36, false)), false, .un .not (.t 42), none⟩, ⟨(some 44), none, false, .pick (.t 36) (.c (.bool true)) (.t 43), none⟩, ⟨(some 45), none, false, .mv (.t 44), none⟩, ⟨(some 46), (some (45, false)), false, .fieldA 2 (.t 4), (some [0, 3, 4, 45, 46])⟩, ⟨(some 47), (some (45, false)), false, .load 1 false (.t 46), none⟩, ⟨(some 48), (some (45, false)), false, .call 69 [(.t 47), (.c (.int .i64 1)), (.c (.int .i64 9))], none⟩, ⟨(some 49), (some (45, false)), false, .un .not (.t 48), none⟩, ⟨(some 50), none, false, .pick (.t 45) (.c (.bool true)) (.t 49), (some [0, 3, 4, 50])⟩]
def c_spec_l16Ok_11 : ACode := .draw c_spec_l16Ok_o6 [] rfl
abbrev c_spec_l16Ok_o7 : List AJ := [.o ⟨(some 2), none, false, .mv (.c (.bool false)), (some [2])⟩]
def c_spec_l16Ok_12 : ACode := .region c_spec_l16Ok_o7
def c_spec_l16Ok_13 : ACode := .seq c_spec_l16Ok_12 .ret
def c_spec_l16Ok_14 : ACode := .cond (.t 50) c_spec_l16Ok_13 .skip
def c_spec_l16Ok_15 : ACode := .seq c_spec_l16Ok_11 c_spec_l16Ok_14
abbrev c_spec_l16Ok_o8 : List AI := [⟨(some 51), none, false, .mv (.t 3), none⟩, ⟨(some 52), none, false, .bin .gtr (.t 51) (.c (.int .i64 0)), none⟩, ⟨(some 53), none, false, .mv (.t 52), none⟩, ⟨(some 54), (some (53, true)), false, .mv (.t 0), none⟩, ⟨(some 55), (some (53, true)), false, .nilchk (.t 54), none⟩, ⟨(some 56), (some (53, true)), false, .fieldA 1 (.t 55), none⟩, ⟨(some 57), (some (53, true)), false, .load 1 false (.t 56), none⟩, ⟨(some 58), (some (53, true)), false, .mv (.t 3), none⟩, ⟨(some 59), (some (53, true)), true, .bin .sub (.t 58) (.c (.int .i64 1)), (some [0, 3, 4, 53, 57, 59])⟩, ⟨(some 60), (some (53, true)), false, .idxA 3 (.t 57) (.t 59), none⟩, ⟨(some 61), (some (53, true)), false, .fieldA 0 (.t 60), none⟩, ⟨(some 62), (some (53, true)), false, .load 1 false (.t 61), none⟩, ⟨(some 63), (some (53, true)), false, .fieldA 0 (.t 4), none⟩, ⟨(some 64), (some (53, true)), false, .load 1 false (.t 63), none⟩, ⟨(some 65), (some (53, true)), false, .bin .gtr (.t 62) (.t 64), none⟩, ⟨(some 66), (some (53, true)), false, .mv (.t 65), (some [0, 3, 4, 53, 66])⟩, ⟨(some 67), (some (66, false)), false, .mv (.t 0), none⟩, ⟨(some 68), (some (66, false)), false, .nilchk (.t 67), none⟩, ⟨(some 69), (some (66, false)), false, .fieldA 1 (.t 68), none⟩, ⟨(some 70), (some (66, false)), false, .load 1 false (.t 69), none⟩, ⟨(some 71), (some (66, false)), false, .mv (.t 3), none⟩, ⟨(some 72), (some (66, false)), true, .bin .sub (.t 71) (.c (.int .i64 1)), none⟩, ⟨(some 73), (some (66, false)), false, .idxA 3 (.t 70) (.t 72), (some [0, 3, 4, 53, 66, 73])⟩, ⟨(some 74), (some (66, false)), false, .fieldA 0 (.t 73), none⟩, ⟨(some 75), (some (66, false)), false, .load 1 false (.t 74), none⟩, ⟨(some 76), (some (66, false)), false, .fieldA 0 (.t 4), none⟩, ⟨(some 77), (some (66, false)), false, .load 1 false (.t 76), none⟩, ⟨(some 78), (some (66, false)), false, .bin .eql (.t 75) (.t 77), none⟩, ⟨(some 79), (some (66, false)), false, .mv (.t 78), none⟩, ⟨(some 80), (some (79, true)), false, .mv (.t 0), (some [0, 3, 4, 53, 66, 79, 80])⟩, ⟨(some 81), (some (79, true)), false, .nilchk (.t 80), none⟩, ⟨(some 82), (some (79, true)), false, .fieldA 1 (.t 81), none⟩, ⟨(some 83), (some (79, true)), false, .load 1 false (.t 82), none⟩, ⟨(some 84), (some (79, true)), false, .mv (.t 3), none⟩, ⟨(some 85), (some (79, true)), true, .bin .sub (.t 84) (.c (.int .i64 1)), none⟩, ⟨(some 86), (some (79, true)), false, .idxA 3 (.t 83) (.t 85), none⟩, ⟨(some 87), (some (79, true)), false, .fieldA 1 (.t 86), (some [0, 3, 4, 53, 66, 79, 87])⟩, ⟨(some 88), (some (79, true)), false, .load 1 false (.t 87), none⟩, ⟨(some 89), (some (79, true)), false, .fieldA 1 (.t 4), none⟩, ⟨(some 90), (some (79, true)), false, .load 1 false (.t 89), none⟩, ⟨(some 91), (some (79, true)), false, .bin .geq (.t 88) (.t 90), none⟩, ⟨(some 92), (some (66, false)), false, .pick (.t 79) (.t 91) (.c (.bool false)), none⟩, ⟨(some 93), (some (53, true)), false, .pick (.t 66) (.c (.bool true)) (.t 92), none⟩, ⟨(some 94), none, false, .pick (.t 53) (.t 93) (.c (.bool false)), (some [0, 3, 94])⟩]
def c_spec_l16Ok_16 : ACode := .draw c_spec_l16Ok_o8 [] rfl
abbrev c_spec_l16Ok_o9 : List AJ := [.o ⟨(some 2), none, false, .mv (.c (.bool false)), (some [2])⟩]
def c_spec_l16Ok_17 : ACode := .region c_spec_l16Ok_o9
def c_spec_l16Ok_18 : ACode := .seq c_spec_l16Ok_17 .ret
def c_spec_l16Ok_19 : ACode := .cond (.t 94) c_spec_l16Ok_18 .skip
def c_spec_l16Ok_20 : ACode := .seq c_spec_l16Ok_16 c_spec_l16Ok_19
def c_spec_l16Ok_21 : ACode := .seq c_spec_l16Ok_15 c_spec_l16Ok_20
def c_spec_l16Ok_22 : ACode := .seq c_spec_l16Ok_10 c_spec_l16Ok_21
def c_spec_l16Ok_23 : ACode := .block 1 c_spec_l16Ok_22
abbrev c_spec_l16Ok_o10 : List AJ := [.o ⟨(some 18), none, false, .mv (.t 3), none⟩, .o ⟨(some 19), none, true, .bin .add (.t 18) (.c (.int .i64 1)), none⟩, .o ⟨(some 3), none, false, .mv (.t 19), (some [0, 3])⟩]
def c_spec_l16Ok_24 : ACode := .region c_spec_l16Ok_o10
def c_spec_l16Ok_25 : ACode := .seq c_spec_l16Ok_23 c_spec_l16Ok_24
def c_spec_l16Ok_26 : ACode := .seq c_spec_l16Ok_9 c_spec_l16Ok_25
def c_spec_l16Ok_27 : ACode := .loop c_spec_l16Ok_26
def c_spec_l16Ok_28 : ACode := .block 0 c_spec_l16Ok_27
def c_spec_l16Ok_29 : ACode := .seq c_spec_l16Ok_6 c_spec_l16Ok_28
abbrev c_spec_l16Ok_o11 : List AJ := [.o ⟨(some 95), none, false, .mv (.t 0), none⟩, .o ⟨(some 96), none, false, .nilchk (.t 95), none⟩, .o ⟨(some 97), none, false, .fieldA 1 (.t 96), none⟩, .o ⟨(some 98), none, false, .load 1 false (.t 97), none⟩, .o ⟨(some 99), none, false, .len (.t 98), none⟩, .o ⟨(some 100), none, false, .bin .leq (.t 99) (.c (.int .i64 24)), none⟩, .o ⟨(some 2), none, false, .mv (.t 100), (some [2])⟩]
def c_spec_l16Ok_30 : ACode := .region c_spec_l16Ok_o11
def c_spec_l16Ok_31 : ACode := .seq c_spec_l16Ok_30 .ret
def c_spec_l16Ok_32 : ACode := .seq c_spec_l16Ok_29 c_spec_l16Ok_31
def c_spec_l16Ok_33 : ACode := .seq c_spec_l16Ok_5 c_spec_l16Ok_32
def c_spec_l16Ok_34 : ACode := .seq c_spec_l16Ok_0 c_spec_l16Ok_33
section
variable (C : Cx) (n : Nat) (sk : List AItem) (e : Env) (h : Heap) (R : AV → Heap → Prop)
@[simp, simp ↓] theorem c_spec_l16Ok_0_r : vc2 C (n + 1) [] (.code c_spec_l16Ok_0 :: sk) e h R = (vc2 C n c_spec_l16Ok_o0 sk e h R) := nr rfl
@[simp, simp ↓] theorem c_spec_l16Ok_1_r : vc2 C (n + 1) [] (.code c_spec_l16Ok_1 :: sk) e h R = (vc2 C n c_spec_l16Ok_o1 sk e h R) := nr rfl
@[simp, simp ↓] theorem c_spec_l16Ok_2_r : vc2 C (n + 1) [] (.code c_spec_l16Ok_2 :: sk) e h R = (vc2 C n c_spec_l16Ok_o2 sk e h R) := nr rfl
@[simp, simp ↓] theorem c_spec_l16Ok_3_r : vc2 C (n + 1) [] (.code c_spec_l16Ok_3 :: sk) e h R = (vc2 C n [] (.code c_spec_l16Ok_2 :: .code .ret :: sk) e h R) := nr rfl
@[simp, simp ↓] theorem c_spec_l16Ok_4_r : vc2 C (n + 1) [] (.code c_spec_l16Ok_4 :: sk) e h R = (condK (ev e (.t 10)) (vc2 C n [] (.code c_spec_l16Ok_3 :: sk) e h R) (vc2 C n [] (.code .skip :: sk) e h R)) := nr rfl
@[simp, simp ↓] theorem c_spec_l16Ok_5_r : vc2 C (n + 1) [] (.code c_spec_l16Ok_5 :: sk) e h R = (vc2 C n [] (.code c_spec_l16Ok_1 :: .code c_spec_l16Ok_4 :: sk) e h R) := nr rfl
@[simp, simp ↓] theorem c_spec_l16Ok_6_r : vc2 C (n + 1) [] (.code c_spec_l16Ok_6 :: sk) e h R = (vc2 C n c_spec_l16Ok_o3 sk e h R) := nr rfl
@[simp, simp ↓] theorem c_spec_l16Ok_7_r : vc2 C (n + 1) [] (.code c_spec_l16Ok_7 :: sk) e h R = (vc2 C n c_spec_l16Ok_o4 sk e h R) := nr rfl
@[simp, simp ↓] theorem c_spec_l16Ok_8_r : vc2 C (n + 1) [] (.code c_spec_l16Ok_8 :: sk) e h R = (condK (ev e (.t 17)) (vc2 C n [] (.code .skip :: sk) e h R) (vc2 C n [] (.code (.exit 0) :: sk) e h R)) := nr rfl
@[simp, simp ↓] theorem c_spec_l16Ok_9_r : vc2 C (n + 1) [] (.code c_spec_l16Ok_9 :: sk) e h R = (vc2 C n [] (.code c_spec_l16Ok_7 :: .code c_spec_l16Ok_8 :: sk) e h R) := nr rfl
@[simp, simp ↓] theorem c_spec_l16Ok_10_r : vc2 C (n + 1) [] (.code c_spec_l16Ok_10 :: sk) e h R = (vc2 C n c_spec_l16Ok_o5 sk e h R) := nr rfl
@[simp, simp ↓] theorem c_spec_l16Ok_11_r : vc2 C (n + 1) [] (.code c_spec_l16Ok_11 :: sk) e h R = (draw2 C h (vK C n [] sk R h) c_spec_l16Ok_o6 e) := nr rfl
@[simp, simp ↓] theorem c_spec_l16Ok_12_r : vc2 C (n + 1) [] (.code c_spec_l16Ok_12 :: sk) e h R = (vc2 C n c_spec_l16Ok_o7 sk e h R) := nr rfl
@[simp, simp ↓] theorem c_spec_l16Ok_13_r : vc2 C (n + 1) [] (.code c_spec_l16Ok_13 :: sk) e h R = (vc2 C n [] (.code c_spec_l16Ok_12 :: .code .ret :: sk) e h R) := nr rfl
@[simp, simp ↓] theorem c_spec_l16Ok_14_r : vc2 C (n + 1) [] (.code c_spec_l16Ok_14 :: sk) e h R = (condK (ev e (.t 50)) (vc2 C n [] (.code c_spec_l16Ok_13 :: sk) e h R) (vc2 C n [] (.code .skip :: sk) e h R)) := nr rfl
@[simp, simp ↓] theorem c_spec_l16Ok_15_r : vc2 C (n + 1) [] (.code c_spec_l16Ok_15 :: sk) e h R = (vc2 C n [] (.code c_spec_l16Ok_11 :: .code c_spec_l16Ok_14 :: sk) e h R) := nr rfl
@[simp, simp ↓] theorem c_spec_l16Ok_16_r : vc2 C (n + 1) [] (.code c_spec_l16Ok_16 :: sk) e h R = (draw2 C h (vK C n [] sk R h) c_spec_l16Ok_o8 e) := nr rfl
@[simp, simp ↓] theorem c_spec_l16Ok_17_r : vc2 C (n + 1) [] (.code c_spec_l16Ok_17 :: sk) e h R = (vc2 C n c_spec_l16Ok_o9 sk e h R) := nr rfl
@[simp, simp ↓] theorem c_spec_l16Ok_18_r : vc2 C (n + 1) [] (.code c_spec_l16Ok_18 :: sk) e h R = (vc2 C n [] (.code c_spec_l16Ok_17 :: .code .ret :: sk) e h R) := nr rfl
@[simp, simp ↓] theorem c_spec_l16Ok_19_r : vc2 C (n + 1) [] (.code c_spec_l16Ok_19 :: sk) e h R = (condK (ev e (.t 94)) (vc2 C n [] (.code c_spec_l16Ok_18 :: sk) e h R) (vc2 C n [] (.code .skip :: sk) e h R)) := nr rfl
@[simp, simp ↓] theorem c_spec_l16Ok_20_r : vc2 C (n + 1) [] (.code c_spec_l16Ok_20 :: sk) e h R = (vc2 C n [] (.code c_spec_l16Ok_16 :: .code c_spec_l16Ok_19 :: sk) e h R) := nr rfl
@[simp, simp ↓] theorem c_spec_l16Ok_21_r : vc2 C (n + 1) [] (.code c_spec_l16Ok_21 :: sk) e h R = (vc2 C n [] (.code c_spec_l16Ok_15 :: .code c_spec_l16Ok_20 :: sk) e h R) := nr rfl
@[simp, simp ↓] theorem c_spec_l16Ok_22_r : vc2 C (n + 1) [] (.code c_spec_l16Ok_22 :: sk) e h R = (vc2 C n [] (.code c_spec_l16Ok_10 :: .code c_spec_l16Ok_21 :: sk) e h R) := nr rfl
@[simp, simp ↓] theorem c_spec_l16Ok_23_r : vc2 C (n + 1) [] (.code c_spec_l16Ok_23 :: sk) e h R = (vc2 C n [] (.code c_spec_l16Ok_22 :: .inBlock 1 :: sk) e h R) := nr rfl
@[simp, simp ↓] theorem c_spec_l16Ok_24_r : vc2 C (n + 1) [] (.code c_spec_l16Ok_24 :: sk) e h R = (vc2 C n c_spec_l16Ok_o10 sk e h R) := nr rfl
@[simp, simp ↓] theorem c_spec_l16Ok_25_r : vc2 C (n + 1) [] (.code c_spec_l16Ok_25 :: sk) e h R = (vc2 C n [] (.code c_spec_l16Ok_23 :: .code c_spec_l16Ok_24 :: sk) e h R) := nr rfl
@[simp, simp ↓] theorem c_spec_l16Ok_26_r : vc2 C (n + 1) [] (.code c_spec_l16Ok_26 :: sk) e h R = (vc2 C n [] (.code c_spec_l16Ok_9 :: .code c_spec_l16Ok_25 :: sk) e h R) := nr rfl
@[simp, simp ↓] theorem c_spec_l16Ok_27_r : vc2 C (n + 1) [] (.code c_spec_l16Ok_27 :: sk) e h R = (Run2 C (.code c_spec_l16Ok_26 :: .inLoop c_spec_l16Ok_26 :: sk) e h R) := nr rfl
@[simp, simp ↓] theorem c_spec_l16Ok_28_r : vc2 C (n + 1) [] (.code c_spec_l16Ok_28 :: sk) e h R = (vc2 C n [] (.code c_spec_l16Ok_27 :: .inBlock 0 :: sk) e h R) := nr rfl
@[simp, simp ↓] theorem c_spec_l16Ok_29_r : vc2 C (n + 1) [] (.code c_spec_l16Ok_29 :: sk) e h R = (vc2 C n [] (.code c_spec_l16Ok_6 :: .code c_spec_l16Ok_28 :: sk) e h R) := nr rfl
@[simp, simp ↓] theorem c_spec_l16Ok_30_r : vc2 C (n + 1) [] (.code c_spec_l16Ok_30 :: sk) e h R = (vc2 C n c_spec_l16Ok_o11 sk e h R) := nr rfl
@[simp, simp ↓] theorem c_spec_l16Ok_31_r : vc2 C (n + 1) [] (.code c_spec_l16Ok_31 :: sk) e h R = (vc2 C n [] (.code c_spec_l16Ok_30 :: .code .ret :: sk) e h R) := nr rfl
@[simp, simp ↓] theorem c_spec_l16Ok_32_r : vc2 C (n + 1) [] (.code c_spec_l16Ok_32 :: sk) e h R = (vc2 C n [] (.code c_spec_l16Ok_29 :: .code c_spec_l16Ok_31 :: sk) e h R) := nr rfl
@[simp, simp ↓] theorem c_spec_l16Ok_33_r : vc2 C (n + 1) [] (.code c_spec_l16Ok_33 :: sk) e h R = (vc2 C n [] (.code c_spec_l16Ok_5 :: .code c_spec_l16Ok_32 :: sk) e h R) := nr rfl
@[simp, simp ↓] theorem c_spec_l16Ok_34_r : vc2 C (n + 1) [] (.code c_spec_l16Ok_34 :: sk) e h R = (vc2 C n [] (.code c_spec_l16Ok_0 :: .code c_spec_l16Ok_33 :: sk) e h R) := nr rfl
end
noncomputable def c_spec_l16Ok_C (orc : Orc) : Cx := ⟨Try.prog, [4], 57, 101, [.tmp 2], orc⟩
@[simp] theorem c_spec_l16Ok_C_P (orc : Orc) : (c_spec_l16Ok_C orc).P = Try.prog := nr rfl
@[simp] theorem c_spec_l16Ok_C_o (orc : Orc) : (c_spec_l16Ok_C orc).orc = orc := nr rfl
@[simp] theorem c_spec_l16Ok_C_r (orc : Orc) : (c_spec_l16Ok_C orc).res = [.tmp 2] := nr rfl
theorem c_spec_l16Ok_of {args : List AV} {h : Heap} {R : AV → Heap → Prop} {k : Nat} (ha : args.length = k) {orc : Orc} (hp : Pure Try.prog orc) (hk : Is (c_spec_l16Ok_C orc) Try.f57 → Run2 (c_spec_l16Ok_C orc) [.code c_spec_l16Ok_34] (argEnv 0 args) h (Post R)) (hle : k ≤ 101 := by simp) : ACalls Try.prog 57 args h R :=
  contract2 [4] c_spec_l16Ok_34 [.tmp 2] Try.func57 (by decide +kernel) rfl (by kernel_rfl) (by rw [ha]; exact hle) (by kernel_rfl) hp hk
theorem c_spec_l16Ok_of0 {args : List AV} {h : Heap} {R : AV → Heap → Prop} {k : Nat} (ha : args.length = k) {orc : Orc} (hp : Pure Try.prog orc) (hk : Is (c_spec_l16Ok_C orc) Try.f57 → Run2 (c_spec_l16Ok_C orc) [.code c_spec_l16Ok_34] (argEnv 0 args) h R) (hle : k ≤ 101 := by simp) : ACalls Try.prog 57 args h R :=
  contract20 [4] c_spec_l16Ok_34 [.tmp 2] Try.func57 (by decide +kernel) rfl (by kernel_rfl) (by rw [ha]; exact hle) (by kernel_rfl) hp hk
theorem l16Ok_c (x : Gr) (h : Heap) (hl : x.ts.length ≤ 1048576) (ok : x.ok) : ACalls Try.prog 57 [.ip [.int .i64 x.n, .snap 3 (x.ts.map T.av)]] h (fun v h' => v = .bool (decide x.valid) ∧ h' = h) := by
  refine c_spec_l16Ok_of0 rfl orc3_p fun I => ?_
  by_cases hn : 1 ≤ x.n ∧ x.n ≤ 12
  · refine Run2.of I 1000 ?_
    simp -implicitDefEqProofs [hn.1, hn.2]
    refine Run2.loop (fun i => [(0, .ip [.int .i64 x.n, .snap 3 (x.ts.map T.av)]), (3, .int .i64 (i : Nat))]) (fun i => h) (fun i => x.ts.length - i) (fun i => i ≤ x.ts.length ∧ x.good i) 0 ⟨Nat.zero_le _, fun _ _ h => absurd h (Nat.not_lt_zero _)⟩ fun i hi ih => ?_
    by_cases hlt : i < x.ts.length
    · have hok := ok.2 _ (List.getElem_mem hlt)
      have hbad := Gr.not_valid hlt
      have go := fun h1 => ih (i + 1) ⟨by omega, (Gr.good_succ hlt).2 ⟨hi.2, h1⟩⟩ (by omega)
      clear ih
      refine Run2.of I 1000 ?_
      cases i with
      | zero =>
        simp -implicitDefEqProofs [hlt]
        simp [Gr.el] at go hbad
        repeat' (first | refine And.intro ?_ ?_ | intro _)
        all_goals first | omega | (unfold in64; omega) | grind
      | succ i =>
        have hlt' : i < x.ts.length := by omega
        have hc : ((i : Int) + 1 - 1).toNat = i := by omega
        simp -implicitDefEqProofs [hlt, hlt', hc]
        simp [Gr.el, T.lt] at go hbad
        repeat' (first | refine And.intro ?_ ?_ | intro _)
        all_goals first | omega | (unfold in64; omega) | grind
    · obtain rfl : i = x.ts.length := by omega
      refine Run2.of I 1000 ?_
      simp -implicitDefEqProofs
      simp [Gr.valid, hn, hi.2]
      omega
  · have : ¬ x.valid := fun h => hn ⟨h.1, h.2.1⟩
    refine Run2.of I 1000 ?_
    simp -implicitDefEqProofs [this]
    omega
abbrev c_impl_ValidGraph_o0 : List AJ := [.o ⟨(some 1), none, false, .box false 2 (.t 0), none⟩, .o ⟨(some 2), none, false, .mv (.c (.bool false)), (some [1])⟩]
def c_impl_ValidGraph_0 : ACode := .region c_impl_ValidGraph_o0
abbrev c_impl_ValidGraph_o1 : List AJ := [.o ⟨(some 5), none, false, .fieldA 1 (.t 1), none⟩, .o ⟨(some 6), none, false, .load 1 false (.t 5), none⟩, .o ⟨(some 7), none, false, .len (.t 6), none⟩, .o ⟨(some 8), none, false, .mv (.c (.int .i64 0)), (some [1, 6, 7, 8])⟩]
def c_impl_ValidGraph_1 : ACode := .region c_impl_ValidGraph_o1
abbrev c_impl_ValidGraph_o2 : List AJ := [.o ⟨(some 9), none, false, .bin .lss (.t 8) (.t 7), (some [1, 6, 7, 8, 9])⟩]
def c_impl_ValidGraph_2 : ACode := .region c_impl_ValidGraph_o2
def c_impl_ValidGraph_3 : ACode := .cond (.t 9) .skip (.exit 0)
abbrev c_impl_ValidGraph_o3 : List AJ := [.o ⟨(some 10), none, false, .mv (.t 8), none⟩, .o ⟨(some 11), none, false, .idxA 3 (.t 6) (.t 8), none⟩, .o ⟨(some 12), none, false, .load 3 true (.t 11), none⟩, .v 4 3 (.agg [(.int .i64 0), (.int .i64 0), (.int .i64 0)]) [(3, (.t 10))] (.t 12) (some [1, 3, 4, 6, 7, 8])]
def c_impl_ValidGraph_4 : ACode := .region c_impl_ValidGraph_o3
abbrev c_impl_ValidGraph_o4 : List AI := [⟨(some 13), none, false, .fieldA 0 (.t 4), none⟩, ⟨(some 14), none, false, .load 1 false (.t 13), none⟩, ⟨(some 15), none, false, .bin .lss (.t 14) (.c (.int .i64 0)), none⟩, ⟨(some 16), none, false, .mv (.t 15), none⟩, ⟨(some 17), (some (16, false)), false, .fieldA 0 (.t 4), none⟩, ⟨(some 18), (some (16, false)), false, .load 1 false (.t 17), none⟩, ⟨(some 19), (some (16, false)), false, .fieldA 1 (.t 4), none⟩, ⟨(some 20), (some (16, false)), false, .load 1 false (.t 19), none⟩, ⟨(some 21), (some (16, false)), false, .bin .geq (.t 18) (.t 20), (some [1, 3, 4, 6, 7, 8, 16, 21])⟩, ⟨(some 22), none, false, .pick (.t 16) (.c (.bool true)) (.t 21), none⟩, ⟨(some 23), none, false, .mv (.t 22), none⟩, ⟨(some 24), (some (23, false)), false, .fieldA 1 (.t 4), none⟩, ⟨(some 25), (some (23, false)), false, .load 1 false (.t 24), none⟩, ⟨(some 26), (some (23, false)), false, .fieldA 0 (.t 1), none⟩, ⟨(some 27), (some (23, false)), false, .load 1 false (.t 26), none⟩, ⟨(some 28), (some (23, false)), false, .bin .geq (.t 25) (.t 27), none⟩, ⟨(some 29), none, false, .pick (.t 23) (.c (.bool true)) (.t 28), none⟩, ⟨(some 30), none, false, .mv (.t 29), (some [1, 3, 4, 6, 7, 8, 30])⟩, ⟨(some 31), (some (30, false)), false, .fieldA 2 (.t 4), none⟩, ⟨(some 32), (some (30, false)), false, .load 1 false (.t 31), none⟩, ⟨(some 33), (some (30, false)), false, .call 104 [(.t 32), (.c (.int .i64 1)), (.c (.int .i64 9))], none⟩, ⟨(some 34), (some (30, false)), false, .un .not (.t 33), none⟩, ⟨(some 35), none, false, .pick (.t 30) (.c (.bool true)) (.t 34), none⟩, ⟨(some 36), none, false, .mv (.t 35), none⟩, ⟨(some 37), (some (36, false)), false, .mv (.t 3), none⟩, ⟨(some 38), (some (36, false)), false, .bin .gtr (.t 37) (.c (.int .i64 0)), (some [1, 3, 4, 6, 7, 8, 36, 38])⟩, ⟨(some 39), (some (36, false)), false, .mv (.t 38), none⟩, ⟨(some 40), (some (39, true)), false, .fieldA 1 (.t 1), none⟩, ⟨(some 41), (some (39, true)), false, .load 1 false (.t 40), none⟩, ⟨(some 42), (some (39, true)), false, .mv (.t 3), none⟩, ⟨(some 43), (some (39, true)), true, .bin .sub (.t 42) (.c (.int .i64 1)), none⟩, ⟨(some 44), (some (39, true)), false, .idxA 3 (.t 41) (.t 43), none⟩, ⟨(some 45), (some (39, true)), false, .load 3 true (.t 44), (some [1, 4, 6, 7, 8, 36, 39, 45])⟩, ⟨(some 46), (some (39, true)), false, .load 3 true (.t 4), none⟩, ⟨(some 47), (some (39, true)), false, .call 105 [(.t 45), (.t 46)], none⟩, ⟨(some 48), (some (39, true)), false, .bin .geq (.t 47) (.c (.int .i64 0)), none⟩, ⟨(some 49), (some (36, false)), false, .pick (.t 39) (.t 48) (.c (.bool false)), none⟩, ⟨(some 50), none, false, .pick (.t 36) (.c (.bool true)) (.t 49), (some [1, 6, 7, 8, 50])⟩]
def c_impl_ValidGraph_5 : ACode := .draw c_impl_ValidGraph_o4 [] rfl
abbrev c_impl_ValidGraph_o5 : List AJ := [.o ⟨(some 2), none, false, .mv (.c (.bool false)), (some [2])⟩]
def c_impl_ValidGraph_6 : ACode := .region c_impl_ValidGraph_o5
def c_impl_ValidGraph_7 : ACode := .seq c_impl_ValidGraph_6 .ret
def c_impl_ValidGraph_8 : ACode := .cond (.t 50) c_impl_ValidGraph_7 .skip
def c_impl_ValidGraph_9 : ACode := .seq c_impl_ValidGraph_5 c_impl_ValidGraph_8
def c_impl_ValidGraph_10 : ACode := .seq c_impl_ValidGraph_4 c_impl_ValidGraph_9
def c_impl_ValidGraph_11 : ACode := .block 1 c_impl_ValidGraph_10
abbrev c_impl_ValidGraph_o6 : List AJ := [.o ⟨(some 51), none, true, .bin .add (.t 8) (.c (.int .i64 1)), none⟩, .o ⟨(some 8), none, false, .mv (.t 51), (some [1, 6, 7, 8])⟩]
def c_impl_ValidGraph_12 : ACode := .region c_impl_ValidGraph_o6
def c_impl_ValidGraph_13 : ACode := .seq c_impl_ValidGraph_11 c_impl_ValidGraph_12
def c_impl_ValidGraph_14 : ACode := .seq c_impl_ValidGraph_3 c_impl_ValidGraph_13
def c_impl_ValidGraph_15 : ACode := .seq c_impl_ValidGraph_2 c_impl_ValidGraph_14
def c_impl_ValidGraph_16 : ACode := .loop c_impl_ValidGraph_15
def c_impl_ValidGraph_17 : ACode := .block 0 c_impl_ValidGraph_16
def c_impl_ValidGraph_18 : ACode := .seq c_impl_ValidGraph_1 c_impl_ValidGraph_17
abbrev c_impl_ValidGraph_o7 : List AJ := [.o ⟨(some 52), none, false, .fieldA 0 (.t 1), none⟩, .o ⟨(some 53), none, false, .load 1 false (.t 52), none⟩, .o ⟨(some 54), none, false, .call 104 [(.t 53), (.c (.int .i64 1)), (.c (.int .i64 12))], none⟩, .o ⟨(some 55), none, false, .mv (.t 54), none⟩, .o ⟨(some 56), (some (55, true)), false, .fieldA 1 (.t 1), none⟩, .o ⟨(some 57), (some (55, true)), false, .load 1 false (.t 56), none⟩, .o ⟨(some 58), (some (55, true)), false, .len (.t 57), none⟩, .o ⟨(some 59), (some (55, true)), false, .bin .leq (.t 58) (.c (.int .i64 24)), none⟩, .o ⟨(some 60), none, false, .pick (.t 55) (.t 59) (.c (.bool false)), none⟩, .o ⟨(some 2), none, false, .mv (.t 60), (some [2])⟩]
def c_impl_ValidGraph_19 : ACode := .region c_impl_ValidGraph_o7
def c_impl_ValidGraph_20 : ACode := .seq c_impl_ValidGraph_19 .ret
def c_impl_ValidGraph_21 : ACode := .seq c_impl_ValidGraph_18 c_impl_ValidGraph_20
def c_impl_ValidGraph_22 : ACode := .seq c_impl_ValidGraph_0 c_impl_ValidGraph_21
section
variable (C : Cx) (n : Nat) (sk : List AItem) (e : Env) (h : Heap) (R : AV → Heap → Prop)
@[simp, simp ↓] theorem c_impl_ValidGraph_0_r : vc2 C (n + 1) [] (.code c_impl_ValidGraph_0 :: sk) e h R = (vc2 C n c_impl_ValidGraph_o0 sk e h R) := nr rfl
@[simp, simp ↓] theorem c_impl_ValidGraph_1_r : vc2 C (n + 1) [] (.code c_impl_ValidGraph_1 :: sk) e h R = (vc2 C n c_impl_ValidGraph_o1 sk e h R) := nr rfl
@[simp, simp ↓] theorem c_impl_ValidGraph_2_r : vc2 C (n + 1) [] (.code c_impl_ValidGraph_2 :: sk) e h R = (vc2 C n c_impl_ValidGraph_o2 sk e h R) := nr rfl
@[simp, simp ↓] theorem c_impl_ValidGraph_3_r : vc2 C (n + 1) [] (.code c_impl_ValidGraph_3 :: sk) e h R = (condK (ev e (.t 9)) (vc2 C n [] (.code .skip :: sk) e h R) (vc2 C n [] (.code (.exit 0) :: sk) e h R)) := nr rfl
@[simp, simp ↓] theorem c_impl_ValidGraph_4_r : vc2 C (n + 1) [] (.code c_impl_ValidGraph_4 :: sk) e h R = (vc2 C n c_impl_ValidGraph_o3 sk e h R) := nr rfl
@[simp, simp ↓] theorem c_impl_ValidGraph_5_r : vc2 C (n + 1) [] (.code c_impl_ValidGraph_5 :: sk) e h R = (draw2 C h (vK C n [] sk R h) c_impl_ValidGraph_o4 e) := nr rfl
@[simp, simp ↓] theorem c_impl_ValidGraph_6_r : vc2 C (n + 1) [] (.code c_impl_ValidGraph_6 :: sk) e h R = (vc2 C n c_impl_ValidGraph_o5 sk e h R) := nr rfl
@[simp, simp ↓] theorem c_impl_ValidGraph_7_r : vc2 C (n + 1) [] (.code c_impl_ValidGraph_7 :: sk) e h R = (vc2 C n [] (.code c_impl_ValidGraph_6 :: .code .ret :: sk) e h R) := nr rfl
@[simp, simp ↓] theorem c_impl_ValidGraph_8_r : vc2 C (n + 1) [] (.code c_impl_ValidGraph_8 :: sk) e h R = (condK (ev e (.t 50)) (vc2 C n [] (.code c_impl_ValidGraph_7 :: sk) e h R) (vc2 C n [] (.code .skip :: sk) e h R)) := nr rfl
@[simp, simp ↓] theorem c_impl_ValidGraph_9_r : vc2 C (n + 1) [] (.code c_impl_ValidGraph_9 :: sk) e h R = (vc2 C n [] (.code c_impl_ValidGraph_5 :: .code c_impl_ValidGraph_8 :: sk) e h R) := nr rfl
@[simp, simp ↓] theorem c_impl_ValidGraph_10_r : vc2 C (n + 1) [] (.code c_impl_ValidGraph_10 :: sk) e h R = (vc2 C n [] (.code c_impl_ValidGraph_4 :: .code c_impl_ValidGraph_9 :: sk) e h R) := nr rfl
@[simp, simp ↓] theorem c_impl_ValidGraph_11_r : vc2 C (n + 1) [] (.code c_impl_ValidGraph_11 :: sk) e h R = (vc2 C n [] (.code c_impl_ValidGraph_10 :: .inBlock 1 :: sk) e h R) := nr rfl
@[simp, simp ↓] theorem c_impl_ValidGraph_12_r : vc2 C (n + 1) [] (.code c_impl_ValidGraph_12 :: sk) e h R = (vc2 C n c_impl_ValidGraph_o6 sk e h R) := nr rfl
@[simp, simp ↓] theorem c_impl_ValidGraph_13_r : vc2 C (n + 1) [] (.code c_impl_ValidGraph_13 :: sk) e h R = (vc2 C n [] (.code c_impl_ValidGraph_11 :: .code c_impl_ValidGraph_12 :: sk) e h R) := nr rfl
@[simp, simp ↓] theorem c_impl_ValidGraph_14_r : vc2 C (n + 1) [] (.code c_impl_ValidGraph_14 :: sk) e h R = (vc2 C n [] (.code c_impl_ValidGraph_3 :: .code c_impl_ValidGraph_13 :: sk) e h R) := nr rfl
@[simp, simp ↓] theorem c_impl_ValidGraph_15_r : vc2 C (n + 1) [] (.code c_impl_ValidGraph_15 :: sk) e h R = (vc2 C n [] (.code c_impl_ValidGraph_2 :: .code c_impl_ValidGraph_14 :: sk) e h R) := nr rfl
@[simp, simp ↓] theorem c_impl_ValidGraph_16_r : vc2 C (n + 1) [] (.code c_impl_ValidGraph_16 :: sk) e h R = (Run2 C (.code c_impl_ValidGraph_15 :: .inLoop c_impl_ValidGraph_15 :: sk) e h R) := nr rfl
@[simp, simp ↓] theorem c_impl_ValidGraph_17_r : vc2 C (n + 1) [] (.code c_impl_ValidGraph_17 :: sk) e h R = (vc2 C n [] (.code c_impl_ValidGraph_16 :: .inBlock 0 :: sk) e h R) := nr rfl
@[simp, simp ↓] theorem c_impl_ValidGraph_18_r : vc2 C (n + 1) [] (.code c_impl_ValidGraph_18 :: sk) e h R = (vc2 C n [] (.code c_impl_ValidGraph_1 :: .code c_impl_ValidGraph_17 :: sk) e h R) := nr rfl
@[simp, simp ↓] theorem c_impl_ValidGraph_19_r : vc2 C (n + 1) [] (.code c_impl_ValidGraph_19 :: sk) e h R = (vc2 C n c_impl_ValidGraph_o7 sk e h R) := nr rfl
@[simp, simp ↓] theorem c_impl_ValidGraph_20_r : vc2 C (n + 1) [] (.code c_impl_ValidGraph_20 :: sk) e h R = (vc2 C n [] (.code c_impl_ValidGraph_19 :: .code .ret :: sk) e h R) := nr rfl
@[simp, simp ↓] theorem c_impl_ValidGraph_21_r : vc2 C (n + 1) [] (.code c_impl_ValidGraph_21 :: sk) e h R = (vc2 C n [] (.code c_impl_ValidGraph_18 :: .code c_impl_ValidGraph_20 :: sk) e h R) := nr rfl
@[simp, simp ↓] theorem c_impl_ValidGraph_22_r : vc2 C (n + 1) [] (.code c_impl_ValidGraph_22 :: sk) e h R = (vc2 C n [] (.code c_impl_ValidGraph_0 :: .code c_impl_ValidGraph_21 :: sk) e h R) := nr rfl
end
noncomputable def c_impl_ValidGraph_C (orc : Orc) : Cx := ⟨Try.prog, [4], 59, 61, [.tmp 2], orc⟩
@[simp] theorem c_impl_ValidGraph_C_P (orc : Orc) : (c_impl_ValidGraph_C orc).P = Try.prog := nr rfl
@[simp] theorem c_impl_ValidGraph_C_o (orc : Orc) : (c_impl_ValidGraph_C orc).orc = orc := nr rfl
@[simp] theorem c_impl_ValidGraph_C_r (orc : Orc) : (c_impl_ValidGraph_C orc).res = [.tmp 2] := nr rfl
theorem c_impl_ValidGraph_of {args : List AV} {h : Heap} {R : AV → Heap → Prop} {k : Nat} (ha : args.length = k) {orc : Orc} (hp : Pure Try.prog orc) (hk : Is (c_impl_ValidGraph_C orc) Try.f59 → Run2 (c_impl_ValidGraph_C orc) [.code c_impl_ValidGraph_22] (argEnv 0 args) h (Post R)) (hle : k ≤ 61 := by simp) : ACalls Try.prog 59 args h R :=
  contract2 [4] c_impl_ValidGraph_22 [.tmp 2] Try.func59 (by decide +kernel) rfl (by kernel_rfl) (by rw [ha]; exact hle) (by kernel_rfl) hp hk
theorem c_impl_ValidGraph_of0 {args : List AV} {h : Heap} {R : AV → Heap → Prop} {k : Nat} (ha : args.length = k) {orc : Orc} (hp : Pure Try.prog orc) (hk : Is (c_impl_ValidGraph_C orc) Try.f59 → Run2 (c_impl_ValidGraph_C orc) [.code c_impl_ValidGraph_22] (argEnv 0 args) h R) (hle : k ≤ 61 := by simp) : ACalls Try.prog 59 args h R :=
  contract20 [4] c_impl_ValidGraph_22 [.tmp 2] Try.func59 (by decide +kernel) rfl (by kernel_rfl) (by rw [ha]; exact hle) (by kernel_rfl) hp hk
theorem valid_c (x : Gr) (h : Heap) (hl : x.ts.length ≤ 1048576) (ok : x.ok) : ACalls Try.prog 59 [x.av] h (fun v h' => v = .bool (decide x.valid) ∧ h' = h) := by
  refine c_impl_ValidGraph_of0 rfl orc3_p fun I => ?_
  refine Run2.of I 1000 ?_
  simp -implicitDefEqProofs
  refine Run2.loop (fun i => [(1, .ip [.int .i64 x.n, .snap 3 (x.ts.map T.av)]), (6, .snap 3 (x.ts.map T.av)), (7, .int .i64 x.ts.length), (8, .int .i64 (i : Nat))]) (fun i => h) (fun i => x.ts.length - i) (fun i => i ≤ x.ts.length ∧ x.good i) 0 ⟨Nat.zero_le _, fun _ _ h => absurd h (Nat.not_lt_zero _)⟩ fun i hi ih => ?_
  by_cases hlt : i < x.ts.length
  · have hbad := Gr.not_valid hlt
    have go := fun h1 => ih (i + 1) ⟨by omega, (Gr.good_succ hlt).2 ⟨hi.2, h1⟩⟩ (by omega)
    clear ih
    refine Run2.of I 1000 ?_
    cases i with
    | zero =>
      simp -implicitDefEqProofs [hlt]
      simp [Gr.el] at go hbad
      repeat' (first | refine And.intro ?_ ?_ | intro _)
      all_goals first | omega | grind
    | succ i =>
      have hlt' : i < x.ts.length := by omega
      have hc : ((i : Int) + 1 - 1).toNat = i := by omega
      simp -implicitDefEqProofs [hlt, hlt', hc]
      simp only [orI2, orI2']
      simp [Gr.el, T.lt] at go hbad
      repeat' (first | refine And.intro ?_ ?_ | intro _)
      all_goals first | omega | grind
  · obtain rfl : i = x.ts.length := by omega
    refine Run2.of I 1000 ?_
    simp -implicitDefEqProofs
    unfold Gr.valid
    grind
noncomputable def o_l16Ok : List AV → Option (Prop × AV) := tab (fun (x : Int × List T) => match x with | (n, ts) => [.ip [.int .i64 n, .snap 3 (ts.map T.av)]]) (fun x => match x with | (n, ts) => (ts.length ≤ 1048576 ∧ Gr.ok ⟨n, ts⟩)) (fun x => match x with | (n, ts) => .bool (decide (Gr.valid ⟨n, ts⟩)))
@[simp] theorem o_l16Ok_e (n : Int) (ts : List T) : o_l16Ok [.ip [.int .i64 n, .snap 3 (ts.map T.av)]] = some ((ts.length ≤ 1048576 ∧ Gr.ok ⟨n, ts⟩), .bool (decide (Gr.valid ⟨n, ts⟩))) := tab_at (enc := fun (x : Int × List T) => match x with | (n, ts) => [.ip [.int .i64 n, .snap 3 (ts.map T.av)]]) (fun x y h => by
  obtain ⟨n1, ts1⟩ := x; obtain ⟨n2, ts2⟩ := y; simp at h; simp [h]) _ _ (n, ts)
theorem o_l16Ok_k : Knows Try.prog 57 o_l16Ok := tab_knows fun x hx h => by
  obtain ⟨n, ts⟩ := x; exact l16Ok_c ⟨n, ts⟩ h hx.1 hx.2
noncomputable def o_valid : List AV → Option (Prop × AV) := tab (fun (x : Int × List T) => match x with | (n, ts) => [.agg [.int .i64 n, .snap 3 (ts.map T.av)]]) (fun x => match x with | (n, ts) => (ts.length ≤ 1048576 ∧ Gr.ok ⟨n, ts⟩)) (fun x => match x with | (n, ts) => .bool (decide (Gr.valid ⟨n, ts⟩)))
@[simp] theorem o_valid_e (n : Int) (ts : List T) : o_valid [.agg [.int .i64 n, .snap 3 (ts.map T.av)]] = some ((ts.length ≤ 1048576 ∧ Gr.ok ⟨n, ts⟩), .bool (decide (Gr.valid ⟨n, ts⟩))) := tab_at (enc := fun (x : Int × List T) => match x with | (n, ts) => [.agg [.int .i64 n, .snap 3 (ts.map T.av)]]) (fun x y h => by
  obtain ⟨n1, ts1⟩ := x; obtain ⟨n2, ts2⟩ := y; simp at h; simp [h]) _ _ (n, ts)
theorem o_valid_k : Knows Try.prog 59 o_valid := tab_knows fun x hx h => by
  obtain ⟨n, ts⟩ := x; exact valid_c ⟨n, ts⟩ h hx.1 hx.2
noncomputable def orcV : List (Nat × (List AV → Option (Prop × AV))) := (57, o_l16Ok) :: (59, o_valid) :: orc3
theorem orcV_p : Pure Try.prog (lk orcV) := (lk_pure o_l16Ok_k (lk_pure o_valid_k orc3_p))
@[simp] theorem orcV_l (g : FuncId) (l : List AV) : lk orcV g l = if g = 57 then o_l16Ok l else if g = 59 then o_valid l else lk orc3 g l := nr rfl
end Go.AG
