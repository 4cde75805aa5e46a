/- The time until all know of all: the reference's search. No statement is made here. -/
import Derived.Test.YtlncpnefkpfojaaCtGoS
import Derived.Test.YtlncpnefkpfojaaCtRot
namespace Go.AG
open Go.Proofs Go.Proofs.Ytlncpnefkpfojaa
set_option linter.unusedSimpArgs false
set_option linter.unusedVariables false
set_option maxRecDepth 4000
theorem Gr.kn_rot {x : Gr} {rs : List (List Int)} {k : Nat} (hk : k < rs.length) (t : Nat) : x.kn (rotL rs k) (t + 1) = runR x talk (x.kn (rotL rs k) t) (rs.getD ((k + t) % rs.length) []) := by
  have hne : rotL rs k ≠ [] := fun e => by
    have := congrArg List.length e
    simp at this
    subst this; simp at hk
  unfold Gr.kn
  rw [runT_succ x talk hne, rotL_length, rotL_at hk]
/-- All bits of the first rows. -/
def allB (n : Nat) (a : List Nat) (i : Nat) : Bool := (a.take i).all fun m => (List.range n).all fun u => m.testBit u
def allU (m u : Nat) : Bool := (List.range u).all fun u => m.testBit u
theorem allU_succ (m u : Nat) : allU m (u + 1) = (allU m u && m.testBit u) := by simp [allU, List.range_succ]
theorem allB_succ {n : Nat} {a : List Nat} {i : Nat} (h : i < a.length) : allB n a (i + 1) = (allB n a i && allU a[i] n) := by
  unfold allB allU
  rw [List.take_succ_eq_append_getElem h, List.all_append]
  simp
theorem allB_full {n : Nat} {a : List Nat} (h : knOk n a) : allB n a n = decide (fullK n a) := by
  rw [Bool.eq_iff_iff, decide_eq_true_iff]
  unfold allB fullK
  rw [List.take_of_length_le (by have := h.1; omega)]
  simp only [List.all_eq_true, List.mem_range]
  constructor
  · intro hh m hm
    apply Nat.eq_of_testBit_eq
    intro u
    rw [Nat.testBit_two_pow_sub_one]
    by_cases hu : u < n
    · simp [hh m hm u hu, hu]
    · have : m.testBit u = false := Nat.testBit_lt_two_pow (Nat.lt_of_lt_of_le (h.2 m hm) (Nat.pow_le_pow_right (by omega) (by omega)))
      simp [this, hu]
  · intro hh m hm u hu
    rw [hh m hm, Nat.testBit_two_pow_sub_one]
    simpa using hu
abbrev c_spec_l24Gossip_o0 : List AJ := [.o ⟨(some 6), none, false, .mv (.c (.int .i64 0)), (some [0, 1, 2])⟩]
def c_spec_l24Gossip_0 : ACode := .region c_spec_l24Gossip_o0
abbrev c_spec_l24Gossip_o1 : List AJ := [.o ⟨(some 12), none, false, .mv (.t 0), none⟩, .o ⟨(some 13), none, false, .nilchk (.t 12), none⟩, .o ⟨(some 14), none, false, .fieldA 0 (.t 13), none⟩, .o ⟨(some 15), none, false, .load 1 false (.t 14), none⟩, .o ⟨(some 16), none, false, .call 88 [(.t 15)], none⟩, .o ⟨(some 7), none, false, .mv (.t 16), (some [0, 1, 2, 7])⟩]
def c_spec_l24Gossip_1 : ACode := .region c_spec_l24Gossip_o1
abbrev c_spec_l24Gossip_o2 : List AJ := [.o ⟨(some 8), none, false, .mv (.c (.int .i64 0)), (some [0, 1, 2, 7, 8])⟩]
def c_spec_l24Gossip_2 : ACode := .region c_spec_l24Gossip_o2
abbrev c_spec_l24Gossip_o3 : List AJ := [.o ⟨(some 9), none, false, .mv (.c (.bool true)), (some [0, 1, 2, 7, 8, 9])⟩]
def c_spec_l24Gossip_3 : ACode := .region c_spec_l24Gossip_o3
abbrev c_spec_l24Gossip_o4 : List AJ := [.o ⟨(some 10), none, false, .mv (.c (.int .i64 0)), (some [0, 1, 2, 7, 8, 9, 10])⟩]
def c_spec_l24Gossip_4 : ACode := .region c_spec_l24Gossip_o4
abbrev c_spec_l24Gossip_o5 : List AJ := [.o ⟨(some 17), none, false, .mv (.t 10), none⟩, .o ⟨(some 18), none, false, .mv (.t 0), none⟩, .o ⟨(some 19), none, false, .nilchk (.t 18), none⟩, .o ⟨(some 20), none, false, .fieldA 0 (.t 19), none⟩, .o ⟨(some 21), none, false, .load 1 false (.t 20), none⟩, .o ⟨(some 22), none, false, .bin .lss (.t 17) (.t 21), (some [0, 1, 2, 7, 8, 9, 10, 22])⟩]
def c_spec_l24Gossip_5 : ACode := .region c_spec_l24Gossip_o5
def c_spec_l24Gossip_6 : ACode := .cond (.t 22) .skip (.exit 2)
def c_spec_l24Gossip_7 : ACode := .seq c_spec_l24Gossip_5 c_spec_l24Gossip_6
abbrev c_spec_l24Gossip_o6 : List AJ := [.o ⟨(some 11), none, false, .mv (.c (.int .i64 0)), (some [0, 1, 2, 7, 8, 9, 10, 11])⟩]
def c_spec_l24Gossip_8 : ACode := .region c_spec_l24Gossip_o6
abbrev c_spec_l24Gossip_o7 : List AJ := [.o ⟨(some 25), none, false, .mv (.t 11), none⟩, .o ⟨(some 26), none, false, .mv (.t 0), none⟩, .o ⟨(some 27), none, false, .nilchk (.t 26), none⟩, .o ⟨(some 28), none, false, .fieldA 0 (.t 27), none⟩, .o ⟨(some 29), none, false, .load 1 false (.t 28), none⟩, .o ⟨(some 30), none, false, .bin .lss (.t 25) (.t 29), (some [0, 1, 2, 7, 8, 9, 10, 11, 30])⟩]
def c_spec_l24Gossip_9 : ACode := .region c_spec_l24Gossip_o7
def c_spec_l24Gossip_10 : ACode := .cond (.t 30) .skip (.exit 4)
def c_spec_l24Gossip_11 : ACode := .seq c_spec_l24Gossip_9 c_spec_l24Gossip_10
abbrev c_spec_l24Gossip_o8 : List AJ := [.o ⟨(some 33), none, false, .mv (.t 9), none⟩, .o ⟨(some 34), none, false, .mv (.t 33), none⟩, .o ⟨(some 35), (some (34, true)), false, .mv (.t 7), none⟩, .o ⟨(some 36), (some (34, true)), false, .mv (.t 10), none⟩, .o ⟨(some 37), (some (34, true)), false, .idxA 1 (.t 35) (.t 36), none⟩, .o ⟨(some 38), (some (34, true)), false, .load 1 false (.t 37), none⟩, .o ⟨(some 39), (some (34, true)), false, .mv (.t 11), none⟩, .o ⟨(some 40), (some (34, true)), false, .idxA 1 (.t 38) (.t 39), (some [0, 1, 2, 7, 8, 10, 11, 34, 40])⟩, .o ⟨(some 41), (some (34, true)), false, .load 1 false (.t 40), none⟩, .o ⟨(some 42), none, false, .pick (.t 34) (.t 41) (.c (.bool false)), none⟩, .o ⟨(some 9), none, false, .mv (.t 42), (some [0, 1, 2, 7, 8, 9, 10, 11])⟩]
def c_spec_l24Gossip_12 : ACode := .region c_spec_l24Gossip_o8
def c_spec_l24Gossip_13 : ACode := .block 5 c_spec_l24Gossip_12
abbrev c_spec_l24Gossip_o9 : List AJ := [.o ⟨(some 31), none, false, .mv (.t 11), none⟩, .o ⟨(some 32), none, true, .bin .add (.t 31) (.c (.int .i64 1)), none⟩, .o ⟨(some 11), none, false, .mv (.t 32), (some [0, 1, 2, 7, 8, 9, 10, 11])⟩]
def c_spec_l24Gossip_14 : ACode := .region c_spec_l24Gossip_o9
def c_spec_l24Gossip_15 : ACode := .seq c_spec_l24Gossip_13 c_spec_l24Gossip_14
def c_spec_l24Gossip_16 : ACode := .seq c_spec_l24Gossip_11 c_spec_l24Gossip_15
def c_spec_l24Gossip_17 : ACode := .loop c_spec_l24Gossip_16
def c_spec_l24Gossip_18 : ACode := .block 4 c_spec_l24Gossip_17
def c_spec_l24Gossip_19 : ACode := .seq c_spec_l24Gossip_8 c_spec_l24Gossip_18
def c_spec_l24Gossip_20 : ACode := .block 3 c_spec_l24Gossip_19
abbrev c_spec_l24Gossip_o10 : List AJ := [.o ⟨(some 23), none, false, .mv (.t 10), none⟩, .o ⟨(some 24), none, true, .bin .add (.t 23) (.c (.int .i64 1)), none⟩, .o ⟨(some 10), none, false, .mv (.t 24), (some [0, 1, 2, 7, 8, 9, 10])⟩]
def c_spec_l24Gossip_21 : ACode := .region c_spec_l24Gossip_o10
def c_spec_l24Gossip_22 : ACode := .seq c_spec_l24Gossip_20 c_spec_l24Gossip_21
def c_spec_l24Gossip_23 : ACode := .seq c_spec_l24Gossip_7 c_spec_l24Gossip_22
def c_spec_l24Gossip_24 : ACode := .loop c_spec_l24Gossip_23
def c_spec_l24Gossip_25 : ACode := .block 2 c_spec_l24Gossip_24
def c_spec_l24Gossip_26 : ACode := .seq c_spec_l24Gossip_4 c_spec_l24Gossip_25
abbrev c_spec_l24Gossip_o11 : List AJ := [.o ⟨(some 43), none, false, .mv (.t 9), (some [0, 1, 2, 7, 8, 43])⟩]
def c_spec_l24Gossip_27 : ACode := .region c_spec_l24Gossip_o11
abbrev c_spec_l24Gossip_o12 : List AJ := [.o ⟨(some 44), none, false, .mv (.t 8), none⟩, .o ⟨(some 6), none, false, .mv (.t 44), (some [6])⟩]
def c_spec_l24Gossip_28 : ACode := .region c_spec_l24Gossip_o12
def c_spec_l24Gossip_29 : ACode := .seq c_spec_l24Gossip_28 .ret
def c_spec_l24Gossip_30 : ACode := .cond (.t 43) c_spec_l24Gossip_29 .skip
def c_spec_l24Gossip_31 : ACode := .seq c_spec_l24Gossip_27 c_spec_l24Gossip_30
abbrev c_spec_l24Gossip_o13 : List AJ := [.o ⟨(some 45), none, false, .mv (.t 0), none⟩, .o ⟨(some 46), none, false, .mv (.t 1), none⟩, .o ⟨(some 47), none, false, .mv (.t 2), none⟩, .o ⟨(some 48), none, false, .mv (.t 8), none⟩, .o ⟨(some 49), none, true, .bin .add (.t 47) (.t 48), none⟩, .o ⟨(some 50), none, false, .mv (.t 1), none⟩, .o ⟨(some 51), none, false, .len (.t 50), none⟩, .o ⟨(some 52), none, false, .bin .rem (.t 49) (.t 51), none⟩, .o ⟨(some 53), none, false, .idxA 1 (.t 46) (.t 52), none⟩, .o ⟨(some 54), none, false, .load 1 false (.t 53), none⟩, .o ⟨(some 55), none, false, .mv (.t 7), none⟩, .o ⟨(some 56), none, false, .call 89 [(.t 45), (.t 54), (.t 55)], (some [0, 1, 2, 7, 8])⟩]
def c_spec_l24Gossip_32 : ACode := .region c_spec_l24Gossip_o13
abbrev c_spec_l24Gossip_o14 : List AJ := [.o ⟨(some 57), none, false, .mv (.t 8), none⟩, .o ⟨(some 58), none, true, .bin .add (.t 57) (.c (.int .i64 1)), none⟩, .o ⟨(some 8), none, false, .mv (.t 58), (some [0, 1, 2, 7, 8])⟩]
def c_spec_l24Gossip_33 : ACode := .region c_spec_l24Gossip_o14
def c_spec_l24Gossip_34 : ACode := .seq c_spec_l24Gossip_32 c_spec_l24Gossip_33
def c_spec_l24Gossip_35 : ACode := .seq c_spec_l24Gossip_31 c_spec_l24Gossip_34
def c_spec_l24Gossip_36 : ACode := .seq c_spec_l24Gossip_26 c_spec_l24Gossip_35
def c_spec_l24Gossip_37 : ACode := .seq c_spec_l24Gossip_3 c_spec_l24Gossip_36
def c_spec_l24Gossip_38 : ACode := .block 1 c_spec_l24Gossip_37
def c_spec_l24Gossip_39 : ACode := .loop c_spec_l24Gossip_38
def c_spec_l24Gossip_40 : ACode := .block 0 c_spec_l24Gossip_39
def c_spec_l24Gossip_41 : ACode := .seq c_spec_l24Gossip_2 c_spec_l24Gossip_40
def c_spec_l24Gossip_42 : ACode := .seq c_spec_l24Gossip_1 c_spec_l24Gossip_41
def c_spec_l24Gossip_43 : ACode := .seq c_spec_l24Gossip_0 c_spec_l24Gossip_42
section
variable (C : Cx) (n : Nat) (sk : List AItem) (e : Env) (h : Heap) (R : AV → Heap → Prop)
@[simp, simp ↓] theorem c_spec_l24Gossip_0_r : vc2 C (n + 1) [] (.code c_spec_l24Gossip_0 :: sk) e h R = (vc2 C n c_spec_l24Gossip_o0 sk e h R) := nr rfl
@[simp, simp ↓] theorem c_spec_l24Gossip_1_r : vc2 C (n + 1) [] (.code c_spec_l24Gossip_1 :: sk) e h R = (vc2 C n c_spec_l24Gossip_o1 sk e h R) := nr rfl
@[simp, simp ↓] theorem c_spec_l24Gossip_2_r : vc2 C (n + 1) [] (.code c_spec_l24Gossip_2 :: sk) e h R = (vc2 C n c_spec_l24Gossip_o2 sk e h R) := nr rfl
@[simp, simp ↓] theorem c_spec_l24Gossip_3_r : vc2 C (n + 1) [] (.code c_spec_l24Gossip_3 :: sk) e h R = (vc2 C n c_spec_l24Gossip_o3 sk e h R) := nr rfl
@[simp, simp ↓] theorem c_spec_l24Gossip_4_r : vc2 C (n + 1) [] (.code c_spec_l24Gossip_4 :: sk) e h R = (vc2 C n c_spec_l24Gossip_o4 sk e h R) := nr rfl
@[simp, simp ↓] theorem c_spec_l24Gossip_5_r : vc2 C (n + 1) [] (.code c_spec_l24Gossip_5 :: sk) e h R = (vc2 C n c_spec_l24Gossip_o5 sk e h R) := nr rfl
@[simp, simp ↓] theorem c_spec_l24Gossip_6_r : vc2 C (n + 1) [] (.code c_spec_l24Gossip_6 :: sk) e h R = (condK (ev e (.t 22)) (vc2 C n [] (.code .skip :: sk) e h R) (vc2 C n [] (.code (.exit 2) :: sk) e h R)) := nr rfl
@[simp, simp ↓] theorem c_spec_l24Gossip_7_r : vc2 C (n + 1) [] (.code c_spec_l24Gossip_7 :: sk) e h R = (vc2 C n [] (.code c_spec_l24Gossip_5 :: .code c_spec_l24Gossip_6 :: sk) e h R) := nr rfl
@[simp, simp ↓] theorem c_spec_l24Gossip_8_r : vc2 C (n + 1) [] (.code c_spec_l24Gossip_8 :: sk) e h R = (vc2 C n c_spec_l24Gossip_o6 sk e h R) := nr rfl
@[simp, simp ↓] theorem c_spec_l24Gossip_9_r : vc2 C (n + 1) [] (.code c_spec_l24Gossip_9 :: sk) e h R = (vc2 C n c_spec_l24Gossip_o7 sk e h R) := nr rfl
@[simp, simp ↓] theorem c_spec_l24Gossip_10_r : vc2 C (n + 1) [] (.code c_spec_l24Gossip_10 :: sk) e h R = (condK (ev e (.t 30)) (vc2 C n [] (.code .skip :: sk) e h R) (vc2 C n [] (.code (.exit 4) :: sk) e h R)) := nr rfl
@[simp, simp ↓] theorem c_spec_l24Gossip_11_r : vc2 C (n + 1) [] (.code c_spec_l24Gossip_11 :: sk) e h R = (vc2 C n [] (.code c_spec_l24Gossip_9 :: .code c_spec_l24Gossip_10 :: sk) e h R) := nr rfl
@[simp, simp ↓] theorem c_spec_l24Gossip_12_r : vc2 C (n + 1) [] (.code c_spec_l24Gossip_12 :: sk) e h R = (vc2 C n c_spec_l24Gossip_o8 sk e h R) := nr rfl
@[simp, simp ↓] theorem c_spec_l24Gossip_13_r : vc2 C (n + 1) [] (.code c_spec_l24Gossip_13 :: sk) e h R = (vc2 C n [] (.code c_spec_l24Gossip_12 :: .inBlock 5 :: sk) e h R) := nr rfl
@[simp, simp ↓] theorem c_spec_l24Gossip_14_r : vc2 C (n + 1) [] (.code c_spec_l24Gossip_14 :: sk) e h R = (vc2 C n c_spec_l24Gossip_o9 sk e h R) := nr rfl
@[simp, simp ↓] theorem c_spec_l24Gossip_15_r : vc2 C (n + 1) [] (.code c_spec_l24Gossip_15 :: sk) e h R = (vc2 C n [] (.code c_spec_l24Gossip_13 :: .code c_spec_l24Gossip_14 :: sk) e h R) := nr rfl
@[simp, simp ↓] theorem c_spec_l24Gossip_16_r : vc2 C (n + 1) [] (.code c_spec_l24Gossip_16 :: sk) e h R = (vc2 C n [] (.code c_spec_l24Gossip_11 :: .code c_spec_l24Gossip_15 :: sk) e h R) := nr rfl
@[simp, simp ↓] theorem c_spec_l24Gossip_17_r : vc2 C (n + 1) [] (.code c_spec_l24Gossip_17 :: sk) e h R = (Run2 C (.code c_spec_l24Gossip_16 :: .inLoop c_spec_l24Gossip_16 :: sk) e h R) := nr rfl
@[simp, simp ↓] theorem c_spec_l24Gossip_18_r : vc2 C (n + 1) [] (.code c_spec_l24Gossip_18 :: sk) e h R = (vc2 C n [] (.code c_spec_l24Gossip_17 :: .inBlock 4 :: sk) e h R) := nr rfl
@[simp, simp ↓] theorem c_spec_l24Gossip_19_r : vc2 C (n + 1) [] (.code c_spec_l24Gossip_19 :: sk) e h R = (vc2 C n [] (.code c_spec_l24Gossip_8 :: .code c_spec_l24Gossip_18 :: sk) e h R) := nr rfl
@[simp, simp ↓] theorem c_spec_l24Gossip_20_r : vc2 C (n + 1) [] (.code c_spec_l24Gossip_20 :: sk) e h R = (vc2 C n [] (.code c_spec_l24Gossip_19 :: .inBlock 3 :: sk) e h R) := nr rfl
@[simp, simp ↓] theorem c_spec_l24Gossip_21_r : vc2 C (n + 1) [] (.code c_spec_l24Gossip_21 :: sk) e h R = (vc2 C n c_spec_l24Gossip_o10 sk e h R) := nr rfl
@[simp, simp ↓] theorem c_spec_l24Gossip_22_r : vc2 C (n + 1) [] (.code c_spec_l24Gossip_22 :: sk) e h R = (vc2 C n [] (.code c_spec_l24Gossip_20 :: .code c_spec_l24Gossip_21 :: sk) e h R) := nr rfl
@[simp, simp ↓] theorem c_spec_l24Gossip_23_r : vc2 C (n + 1) [] (.code c_spec_l24Gossip_23 :: sk) e h R = (vc2 C n [] (.code c_spec_l24Gossip_7 :: .code c_spec_l24Gossip_22 :: sk) e h R) := nr rfl
@[simp, simp ↓] theorem c_spec_l24Gossip_24_r : vc2 C (n + 1) [] (.code c_spec_l24Gossip_24 :: sk) e h R = (Run2 C (.code c_spec_l24Gossip_23 :: .inLoop c_spec_l24Gossip_23 :: sk) e h R) := nr rfl
@[simp, simp ↓] theorem c_spec_l24Gossip_25_r : vc2 C (n + 1) [] (.code c_spec_l24Gossip_25 :: sk) e h R = (vc2 C n [] (.code c_spec_l24Gossip_24 :: .inBlock 2 :: sk) e h R) := nr rfl
@[simp, simp ↓] theorem c_spec_l24Gossip_26_r : vc2 C (n + 1) [] (.code c_spec_l24Gossip_26 :: sk) e h R = (vc2 C n [] (.code c_spec_l24Gossip_4 :: .code c_spec_l24Gossip_25 :: sk) e h R) := nr rfl
@[simp, simp ↓] theorem c_spec_l24Gossip_27_r : vc2 C (n + 1) [] (.code c_spec_l24Gossip_27 :: sk) e h R = (vc2 C n c_spec_l24Gossip_o11 sk e h R) := nr rfl
@[simp, simp ↓] theorem c_spec_l24Gossip_28_r : vc2 C (n + 1) [] (.code c_spec_l24Gossip_28 :: sk) e h R = (vc2 C n c_spec_l24Gossip_o12 sk e h R) := nr rfl
@[simp, simp ↓] theorem c_spec_l24Gossip_29_r : vc2 C (n + 1) [] (.code c_spec_l24Gossip_29 :: sk) e h R = (vc2 C n [] (.code c_spec_l24Gossip_28 :: .code .ret :: sk) e h R) := nr rfl
@[simp, simp ↓] theorem c_spec_l24Gossip_30_r : vc2 C (n + 1) [] (.code c_spec_l24Gossip_30 :: sk) e h R = (condK (ev e (.t 43)) (vc2 C n [] (.code c_spec_l24Gossip_29 :: sk) e h R) (vc2 C n [] (.code .skip :: sk) e h R)) := nr rfl
@[simp, simp ↓] theorem c_spec_l24Gossip_31_r : vc2 C (n + 1) [] (.code c_spec_l24Gossip_31 :: sk) e h R = (vc2 C n [] (.code c_spec_l24Gossip_27 :: .code c_spec_l24Gossip_30 :: sk) e h R) := nr rfl
@[simp, simp ↓] theorem c_spec_l24Gossip_32_r : vc2 C (n + 1) [] (.code c_spec_l24Gossip_32 :: sk) e h R = (vc2 C n c_spec_l24Gossip_o13 sk e h R) := nr rfl
@[simp, simp ↓] theorem c_spec_l24Gossip_33_r : vc2 C (n + 1) [] (.code c_spec_l24Gossip_33 :: sk) e h R = (vc2 C n c_spec_l24Gossip_o14 sk e h R) := nr rfl
@[simp, simp ↓] theorem c_spec_l24Gossip_34_r : vc2 C (n + 1) [] (.code c_spec_l24Gossip_34 :: sk) e h R = (vc2 C n [] (.code c_spec_l24Gossip_32 :: .code c_spec_l24Gossip_33 :: sk) e h R) := nr rfl
@[simp, simp ↓] theorem c_spec_l24Gossip_35_r : vc2 C (n + 1) [] (.code c_spec_l24Gossip_35 :: sk) e h R = (vc2 C n [] (.code c_spec_l24Gossip_31 :: .code c_spec_l24Gossip_34 :: sk) e h R) := nr rfl
@[simp, simp ↓] theorem c_spec_l24Gossip_36_r : vc2 C (n + 1) [] (.code c_spec_l24Gossip_36 :: sk) e h R = (vc2 C n [] (.code c_spec_l24Gossip_26 :: .code c_spec_l24Gossip_35 :: sk) e h R) := nr rfl
@[simp, simp ↓] theorem c_spec_l24Gossip_37_r : vc2 C (n + 1) [] (.code c_spec_l24Gossip_37 :: sk) e h R = (vc2 C n [] (.code c_spec_l24Gossip_3 :: .code c_spec_l24Gossip_36 :: sk) e h R) := nr rfl
@[simp, simp ↓] theorem c_spec_l24Gossip_38_r : vc2 C (n + 1) [] (.code c_spec_l24Gossip_38 :: sk) e h R = (vc2 C n [] (.code c_spec_l24Gossip_37 :: .inBlock 1 :: sk) e h R) := nr rfl
@[simp, simp ↓] theorem c_spec_l24Gossip_39_r : vc2 C (n + 1) [] (.code c_spec_l24Gossip_39 :: sk) e h R = (Run2 C (.code c_spec_l24Gossip_38 :: .inLoop c_spec_l24Gossip_38 :: sk) e h R) := nr rfl
@[simp, simp ↓] theorem c_spec_l24Gossip_40_r : vc2 C (n + 1) [] (.code c_spec_l24Gossip_40 :: sk) e h R = (vc2 C n [] (.code c_spec_l24Gossip_39 :: .inBlock 0 :: sk) e h R) := nr rfl
@[simp, simp ↓] theorem c_spec_l24Gossip_41_r : vc2 C (n + 1) [] (.code c_spec_l24Gossip_41 :: sk) e h R = (vc2 C n [] (.code c_spec_l24Gossip_2 :: .code c_spec_l24Gossip_40 :: sk) e h R) := nr rfl
@[simp, simp ↓] theorem c_spec_l24Gossip_42_r : vc2 C (n + 1) [] (.code c_spec_l24Gossip_42 :: sk) e h R = (vc2 C n [] (.code c_spec_l24Gossip_1 :: .code c_spec_l24Gossip_41 :: sk) e h R) := nr rfl
@[simp, simp ↓] theorem c_spec_l24Gossip_43_r : vc2 C (n + 1) [] (.code c_spec_l24Gossip_43 :: sk) e h R = (vc2 C n [] (.code c_spec_l24Gossip_0 :: .code c_spec_l24Gossip_42 :: sk) e h R) := nr rfl
end
noncomputable def c_spec_l24Gossip_C (orc : Orc) : Cx := ⟨Try.prog, [], 95, 59, [.tmp 6], orc⟩
@[simp] theorem c_spec_l24Gossip_C_P (orc : Orc) : (c_spec_l24Gossip_C orc).P = Try.prog := nr rfl
@[simp] theorem c_spec_l24Gossip_C_o (orc : Orc) : (c_spec_l24Gossip_C orc).orc = orc := nr rfl
@[simp] theorem c_spec_l24Gossip_C_r (orc : Orc) : (c_spec_l24Gossip_C orc).res = [.tmp 6] := nr rfl
theorem c_spec_l24Gossip_of {args : List AV} {h : Heap} {R : AV → Heap → Prop} {k : Nat} (ha : args.length = k) {orc : Orc} (hp : Pure Try.prog orc) (hk : Is (c_spec_l24Gossip_C orc) Try.f95 → Run2 (c_spec_l24Gossip_C orc) [.code c_spec_l24Gossip_43] (argEnv 0 args) h (Post R)) (hle : k ≤ 59 := by simp) : ACalls Try.prog 95 args h R :=
  contract2 [] c_spec_l24Gossip_43 [.tmp 6] Try.func95 (by decide +kernel) rfl (by kernel_rfl) (by rw [ha]; exact hle) (by kernel_rfl) hp hk
theorem c_spec_l24Gossip_of0 {args : List AV} {h : Heap} {R : AV → Heap → Prop} {k : Nat} (ha : args.length = k) {orc : Orc} (hp : Pure Try.prog orc) (hk : Is (c_spec_l24Gossip_C orc) Try.f95 → Run2 (c_spec_l24Gossip_C orc) [.code c_spec_l24Gossip_43] (argEnv 0 args) h R) (hle : k ≤ 59 := by simp) : ACalls Try.prog 95 args h R :=
  contract20 [] c_spec_l24Gossip_43 [.tmp 6] Try.func95 (by decide +kernel) rfl (by kernel_rfl) (by rw [ha]; exact hle) (by kernel_rfl) hp hk
theorem l24Gossip_c (x : Gr) (rs : List (List Int)) (k : Nat) (h : Heap) (hr : ssTot rs ≤ 1048576) (hv : x.valid) (hok : x.rsOk rs) (hc : x.conn) (hk : rs ≠ [] → k < rs.length) : ACalls Try.prog 95 [.ip [.int .i64 x.n, .snap 3 (x.ts.map T.av)], .snap 1 (rs.map il), .int .i64 k] h (fun v h' => v = .int .i64 (x.gT (rotL rs k)) ∧ h' = h) := by
  have hn1 := hv.1
  have hn2 := hv.2.1
  have hrn := (fit_of_tot hr).1
  have hokR := hok.rot k
  obtain ⟨g1, g2, g3⟩ := Gr.gT_spec hv hokR hc
  have hin : ∀ r ∈ rs, ∀ k ∈ r, x.inR k := fun r hr k hk => (hok.1 r hr).2.2.1 k hk
  obtain ⟨n, hn⟩ : ∃ n : Nat, x.n.toNat = n := ⟨_, rfl⟩
  have hal := l24Alone_w n (by omega) h
  rw [show (n : Int) = x.n by omega] at hal
  refine c_spec_l24Gossip_of rfl noPure fun I => ?_
  refine Run2.of I 1000 ?_
  simp -implicitDefEqProofs
  refine hal.mono ?_
  rintro v h' ⟨idw, ids, rfl, hi, nd, hwi, rfl⟩
  refine gK.go ?_
  simp -implicitDefEqProofs
  refine Run2.loopE (fun (t : Nat) => [(0, .ip [.int .i64 x.n, .snap 3 (x.ts.map T.av)]), (1, .snap 1 (rs.map il)), (2, .int .i64 k), (7, .sl idw 1 0 n none), (8, .int .i64 t)]) (fun t => KH idw n ids ((x.kn (rotL rs k) t).map (rowB n)) h) (fun t => x.gT (rotL rs k) - t) (fun t => t ≤ x.gT (rotL rs k)) 0 (by simp) (by rw [Gr.kn, runT_zero, hn]; rfl) (Nat.zero_le _) fun t ht ih => ?_
  have hkn := Gr.kn_ok hv hokR t
  rw [hn] at hkn
  have hal2 := allB_full hkn
  have htail : ¬ fullK n (x.kn (rotL rs k) t) → (rs ≠ []) := fun hf e => by
    have er : rotL rs k = [] := by rw [e]; simp [rotL]
    refine hf ?_
    rw [er, hn, Gr.kn, runT_nil] at g2
    rw [er, Gr.kn, runT_nil]
    exact g2
  have hfull : fullK n (x.kn (rotL rs k) t) → x.gT (rotL rs k) = t := fun hf => Gr.gT_eq hv hokR hc (by rw [hn]; exact hf) fun s hs => g3 s (by omega)
  have hnf : ¬ fullK n (x.kn (rotL rs k) t) → t < x.gT (rotL rs k) := fun hf => by
    rcases Nat.lt_or_ge t (x.gT (rotL rs k)) with h | h
    · exact h
    · exfalso
      have : t = x.gT (rotL rs k) := by omega
      rw [hn, ← this] at g2
      exact hf g2
  have go := fun (h1 : t < x.gT (rotL rs k)) => ih (t + 1) (by omega) (by omega)
  clear ih
  have hkr := fun (h1 : rs ≠ []) => Gr.kn_rot (x := x) (hk h1) t
  generalize hA : x.kn (rotL rs k) t = a at *
  refine Run2.of I 1000 ?_
  simp -implicitDefEqProofs
  have hKl : (a.map (rowB n)).length = n := by rw [List.length_map, hkn.1]
  refine Run2.loopE (fun (i : Nat) => [(0, .ip [.int .i64 x.n, .snap 3 (x.ts.map T.av)]), (1, .snap 1 (rs.map il)), (2, .int .i64 k), (7, .sl idw 1 0 n none), (8, .int .i64 t), (9, .bool (allB n a i)), (10, .int .i64 i)]) (fun i => KH idw n ids (a.map (rowB n)) h) (fun i => n - i) (fun i => i ≤ n) 0 (by simp [allB]) rfl (Nat.zero_le _) fun i hi2 ihi => ?_
  by_cases hlt : i < n
  · have hltx : (i : Int) < x.n := by omega
    have goi := ihi (i + 1) (by omega) (by omega)
    have hil : i < ids.length := by omega
    have hKi : i < a.length := by have := hkn.1; omega
    have hip : ids[i]? = some ids[i] := by simp [hil]
    have hwp : ¬ idw = ids[i] := fun e' => hwi (e' ▸ List.getElem_mem hil)
    have gg1 := rowsH_get (R := a.map (rowB n)) (by rw [hKl, hi]) nd hil (by simpa using hKi) h
    rw [List.getElem_map] at gg1
    rw [allB_succ hKi] at goi
    clear ihi go
    generalize hp0 : ids[i] = p at *
    generalize allB n a i = B at *
    refine Run2.of I 1000 ?_
    simp -implicitDefEqProofs [hltx]
    refine Run2.loopE (fun (u : Nat) => [(0, .ip [.int .i64 x.n, .snap 3 (x.ts.map T.av)]), (1, .snap 1 (rs.map il)), (2, .int .i64 k), (7, .sl idw 1 0 n none), (8, .int .i64 t), (9, .bool (B && allU a[i] u)), (10, .int .i64 i), (11, .int .i64 u)]) (fun u => KH idw n ids (a.map (rowB n)) h) (fun u => n - u) (fun u => u ≤ n) 0 (by simp [allU]) rfl (Nat.zero_le _) fun u hu ihu => ?_
    by_cases hlt2 : u < n
    · have hltu : (u : Int) < x.n := by omega
      have gou := ihu (u + 1) (by omega) (by omega)
      rw [allU_succ] at gou
      clear ihu
      have hb := rowB_get (m := a[i]) hlt2
      have hb2 : (rowB n a[i])[u]? = some (.bool (a[i].testBit u)) := by simp [hlt2, hb]
      replace hb : ∀ hh : u < (rowB n a[i]).length, (rowB n a[i])[u] = .bool (a[i].testBit u) := fun _ => hb
      generalize hBr : rowB n a[i] = R at *
      have hBl : R.length = n := by rw [← hBr]; simp
      generalize a[i].testBit u = bt at *
      generalize allU a[i] u = au at *
      cases B <;> cases au
      all_goals
        simp only [Bool.false_and, Bool.true_and] at gou
        refine Run2.of I 1000 ?_
        simp -implicitDefEqProofs [hltu, hlt, hlt2, hip, hp0, hwp, gg1, hb, hb2, hi, hBl]
        refine ⟨by omega, ?_⟩
        simpa using gou
    · obtain rfl : n = u := by omega
      have hltu : ¬ (n : Int) < x.n := by omega
      refine Run2.of I 1000 ?_
      simp -implicitDefEqProofs [hltu]
      refine ⟨by omega, ?_⟩
      simpa using goi
  · obtain rfl : n = i := by omega
    have hltx : ¬ (n : Int) < x.n := by omega
    rw [hal2]
    clear ihi
    by_cases hf : fullK n a
    · have hgt := hfull hf
      refine Run2.of I 1000 ?_
      simp -implicitDefEqProofs [hltx, hf]
      exact Post.dropAll (L := (idw, ⟨1, ids.map (slK n)⟩) :: rowsH ids (a.map (rowB n))) (by simp [cold]) (.base ⟨by rw [hgt], rfl⟩)
    · have hne := htail hf
      have hps : 0 < rs.length := List.length_pos_iff.2 hne
      have hkl := hk hne
      have hm : (k + t) % rs.length < rs.length := Nat.mod_lt _ hps
      have htm : ((k : Int) + t).tmod rs.length = (((k + t) % rs.length : Nat) : Int) := by
        rw [show (k : Int) + t = ((k + t : Nat) : Int) by omega, Int.tmod_eq_emod_of_nonneg (by omega)]; rfl
      have hgd : rs.getD ((k + t) % rs.length) [] = rs[(k + t) % rs.length] := by simp [hm]
      have hrl := (fit_of_tot hr).2 _ (List.getElem_mem hm)
      have hri := hin _ (List.getElem_mem hm)
      have hks := hkr hne
      rw [hgd] at hks
      have go2 := go (hnf hf)
      rw [hks] at go2
      clear go
      have htn : (((k : Int) + t) % (rs.length : Int)).toNat = (k + t) % rs.length := by
        rw [show (k : Int) + t = ((k + t : Nat) : Int) by omega]; rfl
      generalize hr0 : rs[(k + t) % rs.length] = r at *
      have htk := l24Talk_c x r a n idw ids h hrl hv hn hri hkn.1 hi nd hwi
      have ht30 := hnf hf
      refine Run2.of I 1000 ?_
      simp -implicitDefEqProofs [hltx, hf, hps, htm, htn, hm, hr0, hne]
      refine ⟨by omega, Int.emod_nonneg _ (by omega), ?_⟩
      refine htk.mono ?_
      rintro v h' ⟨rfl, rfl⟩
      refine gK.go ?_
      simp -implicitDefEqProofs
      exact ⟨by omega, by simpa using go2⟩
abbrev c_spec_GossipTime_o0 : List AJ := [.o ⟨(some 2), none, false, .box false 2 (.t 0), none⟩, .o ⟨(some 4), none, false, .mv (.c (.int .i64 0)), none⟩, .o ⟨(some 5), none, false, .mv (.c (.int .i64 0)), (some [1, 2])⟩]
def c_spec_GossipTime_0 : ACode := .region c_spec_GossipTime_o0
abbrev c_spec_GossipTime_o1 : List AJ := [.o ⟨(some 7), none, false, .mv (.t 1), none⟩, .o ⟨(some 8), none, false, .call 82 [(.t 2), (.t 7)], none⟩, .o ⟨(some 6), none, false, .mv (.t 8), (some [1, 2, 6])⟩]
def c_spec_GossipTime_1 : ACode := .region c_spec_GossipTime_o1
abbrev c_spec_GossipTime_o2 : List AJ := [.o ⟨(some 9), none, false, .mv (.t 6), none⟩, .o ⟨(some 10), none, false, .bin .eql (.t 9) (.c (.int .i64 0)), none⟩, .o ⟨(some 11), none, false, .mv (.t 10), none⟩, .o ⟨(some 12), (some (11, true)), false, .call 94 [(.t 2)], none⟩, .o ⟨(some 13), (some (11, true)), false, .un .not (.t 12), none⟩, .o ⟨(some 14), none, false, .pick (.t 11) (.t 13) (.c (.bool false)), (some [1, 2, 6, 14])⟩]
def c_spec_GossipTime_2 : ACode := .region c_spec_GossipTime_o2
abbrev c_spec_GossipTime_o3 : List AJ := [.o ⟨(some 6), none, false, .mv (.c (.int .i64 3)), (some [1, 2, 6])⟩]
def c_spec_GossipTime_3 : ACode := .region c_spec_GossipTime_o3
def c_spec_GossipTime_4 : ACode := .cond (.t 14) c_spec_GossipTime_3 .skip
def c_spec_GossipTime_5 : ACode := .seq c_spec_GossipTime_2 c_spec_GossipTime_4
abbrev c_spec_GossipTime_o4 : List AJ := [.o ⟨(some 15), none, false, .mv (.t 6), none⟩, .o ⟨(some 16), none, false, .bin .neq (.t 15) (.c (.int .i64 0)), (some [1, 2, 6, 16])⟩]
def c_spec_GossipTime_6 : ACode := .region c_spec_GossipTime_o4
abbrev c_spec_GossipTime_o5 : List AJ := [.o ⟨(some 17), none, false, .mv (.t 6), none⟩, .o ⟨(some 4), none, false, .mv (.c (.int .i64 0)), none⟩, .o ⟨(some 5), none, false, .mv (.t 17), (some [4, 5])⟩]
def c_spec_GossipTime_7 : ACode := .region c_spec_GossipTime_o5
def c_spec_GossipTime_8 : ACode := .seq c_spec_GossipTime_7 .ret
def c_spec_GossipTime_9 : ACode := .cond (.t 16) c_spec_GossipTime_8 .skip
def c_spec_GossipTime_10 : ACode := .seq c_spec_GossipTime_6 c_spec_GossipTime_9
abbrev c_spec_GossipTime_o6 : List AJ := [.o ⟨(some 18), none, false, .mv (.t 1), none⟩, .o ⟨(some 19), none, false, .call 95 [(.t 2), (.t 18), (.c (.int .i64 0))], none⟩, .o ⟨(some 4), none, false, .mv (.t 19), none⟩, .o ⟨(some 5), none, false, .mv (.c (.int .i64 0)), (some [4, 5])⟩]
def c_spec_GossipTime_11 : ACode := .region c_spec_GossipTime_o6
def c_spec_GossipTime_12 : ACode := .seq c_spec_GossipTime_11 .ret
def c_spec_GossipTime_13 : ACode := .seq c_spec_GossipTime_10 c_spec_GossipTime_12
def c_spec_GossipTime_14 : ACode := .seq c_spec_GossipTime_5 c_spec_GossipTime_13
def c_spec_GossipTime_15 : ACode := .seq c_spec_GossipTime_1 c_spec_GossipTime_14
def c_spec_GossipTime_16 : ACode := .seq c_spec_GossipTime_0 c_spec_GossipTime_15
section
variable (C : Cx) (n : Nat) (sk : List AItem) (e : Env) (h : Heap) (R : AV → Heap → Prop)
@[simp, simp ↓] theorem c_spec_GossipTime_0_r : vc2 C (n + 1) [] (.code c_spec_GossipTime_0 :: sk) e h R = (vc2 C n c_spec_GossipTime_o0 sk e h R) := nr rfl
@[simp, simp ↓] theorem c_spec_GossipTime_1_r : vc2 C (n + 1) [] (.code c_spec_GossipTime_1 :: sk) e h R = (vc2 C n c_spec_GossipTime_o1 sk e h R) := nr rfl
@[simp, simp ↓] theorem c_spec_GossipTime_2_r : vc2 C (n + 1) [] (.code c_spec_GossipTime_2 :: sk) e h R = (vc2 C n c_spec_GossipTime_o2 sk e h R) := nr rfl
@[simp, simp ↓] theorem c_spec_GossipTime_3_r : vc2 C (n + 1) [] (.code c_spec_GossipTime_3 :: sk) e h R = (vc2 C n c_spec_GossipTime_o3 sk e h R) := nr rfl
@[simp, simp ↓] theorem c_spec_GossipTime_4_r : vc2 C (n + 1) [] (.code c_spec_GossipTime_4 :: sk) e h R = (condK (ev e (.t 14)) (vc2 C n [] (.code c_spec_GossipTime_3 :: sk) e h R) (vc2 C n [] (.code .skip :: sk) e h R)) := nr rfl
@[simp, simp ↓] theorem c_spec_GossipTime_5_r : vc2 C (n + 1) [] (.code c_spec_GossipTime_5 :: sk) e h R = (vc2 C n [] (.code c_spec_GossipTime_2 :: .code c_spec_GossipTime_4 :: sk) e h R) := nr rfl
@[simp, simp ↓] theorem c_spec_GossipTime_6_r : vc2 C (n + 1) [] (.code c_spec_GossipTime_6 :: sk) e h R = (vc2 C n c_spec_GossipTime_o4 sk e h R) := nr rfl
@[simp, simp ↓] theorem c_spec_GossipTime_7_r : vc2 C (n + 1) [] (.code c_spec_GossipTime_7 :: sk) e h R = (vc2 C n c_spec_GossipTime_o5 sk e h R) := nr rfl
@[simp, simp ↓] theorem c_spec_GossipTime_8_r : vc2 C (n + 1) [] (.code c_spec_GossipTime_8 :: sk) e h R = (vc2 C n [] (.code c_spec_GossipTime_7 :: .code .ret :: sk) e h R) := nr rfl
@[simp, simp ↓] theorem c_spec_GossipTime_9_r : vc2 C (n + 1) [] (.code c_spec_GossipTime_9 :: sk) e h R = (condK (ev e (.t 16)) (vc2 C n [] (.code c_spec_GossipTime_8 :: sk) e h R) (vc2 C n [] (.code .skip :: sk) e h R)) := nr rfl
@[simp, simp ↓] theorem c_spec_GossipTime_10_r : vc2 C (n + 1) [] (.code c_spec_GossipTime_10 :: sk) e h R = (vc2 C n [] (.code c_spec_GossipTime_6 :: .code c_spec_GossipTime_9 :: sk) e h R) := nr rfl
@[simp, simp ↓] theorem c_spec_GossipTime_11_r : vc2 C (n + 1) [] (.code c_spec_GossipTime_11 :: sk) e h R = (vc2 C n c_spec_GossipTime_o6 sk e h R) := nr rfl
@[simp, simp ↓] theorem c_spec_GossipTime_12_r : vc2 C (n + 1) [] (.code c_spec_GossipTime_12 :: sk) e h R = (vc2 C n [] (.code c_spec_GossipTime_11 :: .code .ret :: sk) e h R) := nr rfl
@[simp, simp ↓] theorem c_spec_GossipTime_13_r : vc2 C (n + 1) [] (.code c_spec_GossipTime_13 :: sk) e h R = (vc2 C n [] (.code c_spec_GossipTime_10 :: .code c_spec_GossipTime_12 :: sk) e h R) := nr rfl
@[simp, simp ↓] theorem c_spec_GossipTime_14_r : vc2 C (n + 1) [] (.code c_spec_GossipTime_14 :: sk) e h R = (vc2 C n [] (.code c_spec_GossipTime_5 :: .code c_spec_GossipTime_13 :: sk) e h R) := nr rfl
@[simp, simp ↓] theorem c_spec_GossipTime_15_r : vc2 C (n + 1) [] (.code c_spec_GossipTime_15 :: sk) e h R = (vc2 C n [] (.code c_spec_GossipTime_1 :: .code c_spec_GossipTime_14 :: sk) e h R) := nr rfl
@[simp, simp ↓] theorem c_spec_GossipTime_16_r : vc2 C (n + 1) [] (.code c_spec_GossipTime_16 :: sk) e h R = (vc2 C n [] (.code c_spec_GossipTime_0 :: .code c_spec_GossipTime_15 :: sk) e h R) := nr rfl
end
noncomputable def c_spec_GossipTime_C (orc : Orc) : Cx := ⟨Try.prog, [], 46, 20, [.tmp 4, .tmp 5], orc⟩
@[simp] theorem c_spec_GossipTime_C_P (orc : Orc) : (c_spec_GossipTime_C orc).P = Try.prog := nr rfl
@[simp] theorem c_spec_GossipTime_C_o (orc : Orc) : (c_spec_GossipTime_C orc).orc = orc := nr rfl
@[simp] theorem c_spec_GossipTime_C_r (orc : Orc) : (c_spec_GossipTime_C orc).res = [.tmp 4, .tmp 5] := nr rfl
theorem c_spec_GossipTime_of {args : List AV} {h : Heap} {R : AV → Heap → Prop} {k : Nat} (ha : args.length = k) {orc : Orc} (hp : Pure Try.prog orc) (hk : Is (c_spec_GossipTime_C orc) Try.f46 → Run2 (c_spec_GossipTime_C orc) [.code c_spec_GossipTime_16] (argEnv 0 args) h (Post R)) (hle : k ≤ 20 := by simp) : ACalls Try.prog 46 args h R :=
  contract2 [] c_spec_GossipTime_16 [.tmp 4, .tmp 5] Try.func46 (by decide +kernel) rfl (by kernel_rfl) (by rw [ha]; exact hle) (by kernel_rfl) hp hk
theorem c_spec_GossipTime_of0 {args : List AV} {h : Heap} {R : AV → Heap → Prop} {k : Nat} (ha : args.length = k) {orc : Orc} (hp : Pure Try.prog orc) (hk : Is (c_spec_GossipTime_C orc) Try.f46 → Run2 (c_spec_GossipTime_C orc) [.code c_spec_GossipTime_16] (argEnv 0 args) h R) (hle : k ≤ 20 := by simp) : ACalls Try.prog 46 args h R :=
  contract20 [] c_spec_GossipTime_16 [.tmp 4, .tmp 5] Try.func46 (by decide +kernel) rfl (by kernel_rfl) (by rw [ha]; exact hle) (by kernel_rfl) hp hk
theorem specGT_c (x : Gr) (rs : List (List Int)) (h : Heap) (hl : x.ts.length ≤ 1048576) (ok : x.ok) (hr : ssTot rs ≤ 1048576) : ACalls Try.prog 46 [x.av, .snap 1 (rs.map il)] h (fun r h' => r = .tup [.int .i64 (x.gVal rs), .int .i64 (x.gCode2 rs)] ∧ h' = h) := by
  refine c_spec_GossipTime_of0 rfl orcJ_p fun I => ?_
  by_cases hs : x.sCode rs = 0
  · obtain ⟨hv, hok⟩ := Gr.sCode_ok hs
    by_cases hk : x.conn
    · have hc : x.gCode2 rs = 0 := by simp [Gr.gCode2, hs, hk]
      have hid : x.gVal rs = x.gT rs := by simp [Gr.gVal, hc]
      refine Run2.of I 1000 ?_
      simp -implicitDefEqProofs [hl, ok, hr, hs]
      refine (l24Connected_c x hv h).mono ?_
      rintro v h' ⟨rfl, rfl⟩
      refine gK.go ?_
      simp -implicitDefEqProofs [hk]
      have hg := l24Gossip_c x rs 0 h' hr hv hok hk fun h => List.length_pos_iff.2 h
      rw [rotL_zero] at hg
      refine hg.mono ?_
      rintro v h' ⟨rfl, rfl⟩
      refine gK.go ?_
      simp -implicitDefEqProofs [hc, hid]
    · have hc : x.gCode2 rs = 3 := by simp [Gr.gCode2, hs, hk]
      have hid : x.gVal rs = 0 := by simp [Gr.gVal, hc]
      refine Run2.of I 1000 ?_
      simp -implicitDefEqProofs [hl, ok, hr, hs]
      refine (l24Connected_c x hv h).mono ?_
      rintro v h' ⟨rfl, rfl⟩
      refine gK.go ?_
      simp -implicitDefEqProofs [hk, hc, hid]
  · have hc : x.gCode2 rs = x.sCode rs := by simp [Gr.gCode2, hs]
    have hid : x.gVal rs = 0 := by simp [Gr.gVal, hc, hs]
    refine Run2.of I 1000 ?_
    simp -implicitDefEqProofs [hl, ok, hr, hs, hc, hid]
end Go.AG
