/- The longest bar: what the program's and the reference's functions give. No statement is made here. -/
import Derived.Test.YtdgahpcgenlcjaaBrLong
namespace Go.AG
open Go.Proofs Go.Proofs.Ytdgahpcgenlcjaa
set_option linter.unusedSimpArgs false
set_option linter.unusedVariables false
set_option maxRecDepth 4000
/-- The first one of the greatest length, where b is the best one so far. -/
def bestFrom : T → List T → T
  | b, [] => b
  | b, x :: r => bestFrom (if b.s - b.t < x.s - x.t then x else b) r
theorem bestFrom_snoc (y : T) : ∀ (r : List T) (b : T), bestFrom b (r ++ [y]) = if (bestFrom b r).s - (bestFrom b r).t < y.s - y.t then y else bestFrom b r
  | [], _ => rfl
  | x :: r, b => bestFrom_snoc y r _
theorem bestFrom_mem : ∀ (r : List T) (b : T), bestFrom b r ∈ b :: r
  | [], b => by simp [bestFrom]
  | x :: r, b => by
    have := bestFrom_mem r (if b.s - b.t < x.s - x.t then x else b)
    unfold bestFrom
    simp only [List.mem_cons] at this ⊢
    rcases this with h | h
    · rw [h]; split <;> simp
    · exact .inr (.inr h)
def bestL : List T → T
  | [] => ⟨0, 0, 0⟩
  | x :: r => bestFrom x r
theorem bestL_snoc (l : List T) (y : T) : bestL (l ++ [y]) = if l = [] then y else if (bestL l).s - (bestL l).t < y.s - y.t then y else bestL l := by
  cases l with
  | nil => rfl
  | cons x r => rw [if_neg (by simp)]; exact bestFrom_snoc y r x
def finB (l : List T) (d : Int) : List T := l.filter fun x => decide (x.f = d) && !decide (x.s = -1)
noncomputable def bestCode (l : List T) (d : Int) : Int := if validB l then if 0 ≤ d ∧ d ≤ 3 then if finB l d = [] then 3 else 0 else 2 else 1
noncomputable def bestB (l : List T) (d : Int) : T := if bestCode l d = 0 then bestL (finB l d) else ⟨0, 0, 0⟩
abbrev c_impl_LongestBar_o0 : List AJ := [.o ⟨(some 4), none, false, .alloc true 3 (.agg [(.int .i64 0), (.int .i64 0), (.int .i64 0)]), none⟩, .o ⟨(some 5), none, false, .mv (.c (.int .i64 0)), (some [0, 1, 4])⟩]
def c_impl_LongestBar_0 : ACode := .region c_impl_LongestBar_o0
abbrev c_impl_LongestBar_o1 : List AJ := [.o ⟨(some 11), none, false, .mv (.t 0), none⟩, .o ⟨(some 12), none, false, .call 12 [(.t 11)], none⟩, .o ⟨(some 13), none, false, .un .not (.t 12), none⟩, .o ⟨(some 10), none, false, .mv (.t 13), (some [0, 1, 4, 10])⟩]
def c_impl_LongestBar_1 : ACode := .region c_impl_LongestBar_o1
abbrev c_impl_LongestBar_o2 : List AJ := [.o ⟨(some 14), none, false, .build [(.int .i64 0), (.int .i64 0), (.int .i64 0)] [], none⟩, .o ⟨none, none, false, .store 3 (.t 4) (.t 14), none⟩, .o ⟨(some 5), none, false, .mv (.c (.int .i64 1)), (some [4, 5])⟩]
def c_impl_LongestBar_2 : ACode := .region c_impl_LongestBar_o2
def c_impl_LongestBar_3 : ACode := .seq c_impl_LongestBar_2 .ret
abbrev c_impl_LongestBar_o3 : List AJ := [.o ⟨(some 16), none, false, .mv (.t 1), none⟩, .o ⟨(some 17), none, false, .call 29 [(.t 16)], none⟩, .o ⟨(some 18), none, false, .un .not (.t 17), none⟩, .o ⟨(some 15), none, false, .mv (.t 18), (some [0, 1, 4, 15])⟩]
def c_impl_LongestBar_4 : ACode := .region c_impl_LongestBar_o3
abbrev c_impl_LongestBar_o4 : List AJ := [.o ⟨(some 19), none, false, .build [(.int .i64 0), (.int .i64 0), (.int .i64 0)] [], none⟩, .o ⟨none, none, false, .store 3 (.t 4) (.t 19), none⟩, .o ⟨(some 5), none, false, .mv (.c (.int .i64 2)), (some [4, 5])⟩]
def c_impl_LongestBar_5 : ACode := .region c_impl_LongestBar_o4
def c_impl_LongestBar_6 : ACode := .seq c_impl_LongestBar_5 .ret
def c_impl_LongestBar_7 : ACode := .cond (.t 15) c_impl_LongestBar_6 .skip
def c_impl_LongestBar_8 : ACode := .seq c_impl_LongestBar_4 c_impl_LongestBar_7
def c_impl_LongestBar_9 : ACode := .cond (.t 10) c_impl_LongestBar_3 c_impl_LongestBar_8
def c_impl_LongestBar_10 : ACode := .seq c_impl_LongestBar_1 c_impl_LongestBar_9
def c_impl_LongestBar_11 : ACode := .block 0 c_impl_LongestBar_10
abbrev c_impl_LongestBar_o5 : List AJ := [.o ⟨(some 20), none, false, .mv (.t 0), none⟩, .o ⟨(some 21), none, false, .mv (.t 1), none⟩, .o ⟨(some 22), none, false, .call 36 [(.t 20), (.t 21), (.c (.fn 39 []))], none⟩, .o ⟨(some 6), none, false, .mv (.t 22), (some [4, 6])⟩]
def c_impl_LongestBar_12 : ACode := .region c_impl_LongestBar_o5
abbrev c_impl_LongestBar_o6 : List AJ := [.o ⟨(some 23), none, false, .mv (.t 6), none⟩, .o ⟨(some 24), none, false, .len (.t 23), none⟩, .o ⟨(some 25), none, false, .bin .eql (.t 24) (.c (.int .i64 0)), (some [4, 6, 25])⟩]
def c_impl_LongestBar_13 : ACode := .region c_impl_LongestBar_o6
abbrev c_impl_LongestBar_o7 : List AJ := [.o ⟨(some 26), none, false, .build [(.int .i64 0), (.int .i64 0), (.int .i64 0)] [], none⟩, .o ⟨none, none, false, .store 3 (.t 4) (.t 26), none⟩, .o ⟨(some 5), none, false, .mv (.c (.int .i64 3)), (some [4, 5])⟩]
def c_impl_LongestBar_14 : ACode := .region c_impl_LongestBar_o7
def c_impl_LongestBar_15 : ACode := .seq c_impl_LongestBar_14 .ret
def c_impl_LongestBar_16 : ACode := .cond (.t 25) c_impl_LongestBar_15 .skip
def c_impl_LongestBar_17 : ACode := .seq c_impl_LongestBar_13 c_impl_LongestBar_16
abbrev c_impl_LongestBar_o8 : List AJ := [.o ⟨(some 27), none, false, .mv (.t 6), none⟩, .o ⟨(some 28), none, false, .idxA 3 (.t 27) (.c (.int .i64 0)), none⟩, .o ⟨(some 29), none, false, .load 3 true (.t 28), none⟩, .o ⟨(some 7), none, false, .alloc true 3 (.agg [(.int .i64 0), (.int .i64 0), (.int .i64 0)]), none⟩, .o ⟨none, none, false, .store 3 (.t 7) (.t 29), (some [4, 6, 7])⟩]
def c_impl_LongestBar_18 : ACode := .region c_impl_LongestBar_o8
abbrev c_impl_LongestBar_o9 : List AJ := [.o ⟨(some 30), none, false, .mv (.t 6), none⟩, .o ⟨(some 31), none, false, .len (.t 30), none⟩, .o ⟨(some 32), none, false, .mv (.c (.int .i64 0)), (some [4, 7, 30, 31, 32])⟩]
def c_impl_LongestBar_19 : ACode := .region c_impl_LongestBar_o9
abbrev c_impl_LongestBar_o10 : List AJ := [.o ⟨(some 33), none, false, .bin .lss (.t 32) (.t 31), (some [4, 7, 30, 31, 32, 33])⟩]
def c_impl_LongestBar_20 : ACode := .region c_impl_LongestBar_o10
def c_impl_LongestBar_21 : ACode := .cond (.t 33) .skip (.exit 1)
abbrev c_impl_LongestBar_o11 : List AJ := [.o ⟨(some 34), none, false, .idxA 3 (.t 30) (.t 32), none⟩, .o ⟨(some 35), none, false, .load 3 true (.t 34), none⟩, .v 9 3 (.agg [(.int .i64 0), (.int .i64 0), (.int .i64 0)]) [] (.t 35) (some [4, 7, 9, 30, 31, 32])]
def c_impl_LongestBar_22 : ACode := .region c_impl_LongestBar_o11
abbrev c_impl_LongestBar_o12 : List AJ := [.o ⟨(some 36), none, false, .fieldA 2 (.t 9), none⟩, .o ⟨(some 37), none, false, .load 1 false (.t 36), none⟩, .o ⟨(some 38), none, false, .fieldA 1 (.t 9), none⟩, .o ⟨(some 39), none, false, .load 1 false (.t 38), none⟩, .o ⟨(some 40), none, true, .bin .sub (.t 37) (.t 39), none⟩, .o ⟨(some 41), none, false, .fieldA 2 (.t 7), none⟩, .o ⟨(some 42), none, false, .load 1 false (.t 41), none⟩, .o ⟨(some 43), none, false, .fieldA 1 (.t 7), none⟩, .o ⟨(some 44), none, false, .load 1 false (.t 43), none⟩, .o ⟨(some 45), none, true, .bin .sub (.t 42) (.t 44), none⟩, .o ⟨(some 46), none, false, .bin .gtr (.t 40) (.t 45), (some [4, 7, 9, 30, 31, 32, 46])⟩]
def c_impl_LongestBar_23 : ACode := .region c_impl_LongestBar_o12
abbrev c_impl_LongestBar_o13 : List AJ := [.o ⟨(some 47), none, false, .load 3 true (.t 9), none⟩, .o ⟨none, none, false, .store 3 (.t 7) (.t 47), (some [4, 7, 30, 31, 32])⟩]
def c_impl_LongestBar_24 : ACode := .region c_impl_LongestBar_o13
def c_impl_LongestBar_25 : ACode := .cond (.t 46) c_impl_LongestBar_24 .skip
def c_impl_LongestBar_26 : ACode := .seq c_impl_LongestBar_23 c_impl_LongestBar_25
def c_impl_LongestBar_27 : ACode := .seq c_impl_LongestBar_22 c_impl_LongestBar_26
def c_impl_LongestBar_28 : ACode := .block 2 c_impl_LongestBar_27
abbrev c_impl_LongestBar_o14 : List AJ := [.o ⟨(some 48), none, true, .bin .add (.t 32) (.c (.int .i64 1)), none⟩, .o ⟨(some 32), none, false, .mv (.t 48), (some [4, 7, 30, 31, 32])⟩]
def c_impl_LongestBar_29 : ACode := .region c_impl_LongestBar_o14
def c_impl_LongestBar_30 : ACode := .seq c_impl_LongestBar_28 c_impl_LongestBar_29
def c_impl_LongestBar_31 : ACode := .seq c_impl_LongestBar_21 c_impl_LongestBar_30
def c_impl_LongestBar_32 : ACode := .seq c_impl_LongestBar_20 c_impl_LongestBar_31
def c_impl_LongestBar_33 : ACode := .loop c_impl_LongestBar_32
def c_impl_LongestBar_34 : ACode := .block 1 c_impl_LongestBar_33
def c_impl_LongestBar_35 : ACode := .seq c_impl_LongestBar_19 c_impl_LongestBar_34
abbrev c_impl_LongestBar_o15 : List AJ := [.o ⟨(some 49), none, false, .load 3 true (.t 7), none⟩, .o ⟨none, none, false, .store 3 (.t 4) (.t 49), none⟩, .o ⟨(some 5), none, false, .mv (.c (.int .i64 0)), (some [4, 5])⟩]
def c_impl_LongestBar_36 : ACode := .region c_impl_LongestBar_o15
def c_impl_LongestBar_37 : ACode := .seq c_impl_LongestBar_36 .ret
def c_impl_LongestBar_38 : ACode := .seq c_impl_LongestBar_35 c_impl_LongestBar_37
def c_impl_LongestBar_39 : ACode := .seq c_impl_LongestBar_18 c_impl_LongestBar_38
def c_impl_LongestBar_40 : ACode := .seq c_impl_LongestBar_17 c_impl_LongestBar_39
def c_impl_LongestBar_41 : ACode := .seq c_impl_LongestBar_12 c_impl_LongestBar_40
def c_impl_LongestBar_42 : ACode := .seq c_impl_LongestBar_11 c_impl_LongestBar_41
def c_impl_LongestBar_43 : ACode := .seq c_impl_LongestBar_0 c_impl_LongestBar_42
section
variable (C : Cx) (n : Nat) (sk : List AItem) (e : Env) (h : Heap) (R : AV → Heap → Prop)
@[simp, simp ↓] theorem c_impl_LongestBar_0_r : vc2 C (n + 1) [] (.code c_impl_LongestBar_0 :: sk) e h R = (vc2 C n c_impl_LongestBar_o0 sk e h R) := nr rfl
@[simp, simp ↓] theorem c_impl_LongestBar_1_r : vc2 C (n + 1) [] (.code c_impl_LongestBar_1 :: sk) e h R = (vc2 C n c_impl_LongestBar_o1 sk e h R) := nr rfl
@[simp, simp ↓] theorem c_impl_LongestBar_2_r : vc2 C (n + 1) [] (.code c_impl_LongestBar_2 :: sk) e h R = (vc2 C n c_impl_LongestBar_o2 sk e h R) := nr rfl
@[simp, simp ↓] theorem c_impl_LongestBar_3_r : vc2 C (n + 1) [] (.code c_impl_LongestBar_3 :: sk) e h R = (vc2 C n [] (.code c_impl_LongestBar_2 :: .code .ret :: sk) e h R) := nr rfl
@[simp, simp ↓] theorem c_impl_LongestBar_4_r : vc2 C (n + 1) [] (.code c_impl_LongestBar_4 :: sk) e h R = (vc2 C n c_impl_LongestBar_o3 sk e h R) := nr rfl
@[simp, simp ↓] theorem c_impl_LongestBar_5_r : vc2 C (n + 1) [] (.code c_impl_LongestBar_5 :: sk) e h R = (vc2 C n c_impl_LongestBar_o4 sk e h R) := nr rfl
@[simp, simp ↓] theorem c_impl_LongestBar_6_r : vc2 C (n + 1) [] (.code c_impl_LongestBar_6 :: sk) e h R = (vc2 C n [] (.code c_impl_LongestBar_5 :: .code .ret :: sk) e h R) := nr rfl
@[simp, simp ↓] theorem c_impl_LongestBar_7_r : vc2 C (n + 1) [] (.code c_impl_LongestBar_7 :: sk) e h R = (condK (ev e (.t 15)) (vc2 C n [] (.code c_impl_LongestBar_6 :: sk) e h R) (vc2 C n [] (.code .skip :: sk) e h R)) := nr rfl
@[simp, simp ↓] theorem c_impl_LongestBar_8_r : vc2 C (n + 1) [] (.code c_impl_LongestBar_8 :: sk) e h R = (vc2 C n [] (.code c_impl_LongestBar_4 :: .code c_impl_LongestBar_7 :: sk) e h R) := nr rfl
@[simp, simp ↓] theorem c_impl_LongestBar_9_r : vc2 C (n + 1) [] (.code c_impl_LongestBar_9 :: sk) e h R = (condK (ev e (.t 10)) (vc2 C n [] (.code c_impl_LongestBar_3 :: sk) e h R) (vc2 C n [] (.code c_impl_LongestBar_8 :: sk) e h R)) := nr rfl
@[simp, simp ↓] theorem c_impl_LongestBar_10_r : vc2 C (n + 1) [] (.code c_impl_LongestBar_10 :: sk) e h R = (vc2 C n [] (.code c_impl_LongestBar_1 :: .code c_impl_LongestBar_9 :: sk) e h R) := nr rfl
@[simp, simp ↓] theorem c_impl_LongestBar_11_r : vc2 C (n + 1) [] (.code c_impl_LongestBar_11 :: sk) e h R = (vc2 C n [] (.code c_impl_LongestBar_10 :: .inBlock 0 :: sk) e h R) := nr rfl
@[simp, simp ↓] theorem c_impl_LongestBar_12_r : vc2 C (n + 1) [] (.code c_impl_LongestBar_12 :: sk) e h R = (vc2 C n c_impl_LongestBar_o5 sk e h R) := nr rfl
@[simp, simp ↓] theorem c_impl_LongestBar_13_r : vc2 C (n + 1) [] (.code c_impl_LongestBar_13 :: sk) e h R = (vc2 C n c_impl_LongestBar_o6 sk e h R) := nr rfl
@[simp, simp ↓] theorem c_impl_LongestBar_14_r : vc2 C (n + 1) [] (.code c_impl_LongestBar_14 :: sk) e h R = (vc2 C n c_impl_LongestBar_o7 sk e h R) := nr rfl
@[simp, simp ↓] theorem c_impl_LongestBar_15_r : vc2 C (n + 1) [] (.code c_impl_LongestBar_15 :: sk) e h R = (vc2 C n [] (.code c_impl_LongestBar_14 :: .code .ret :: sk) e h R) := nr rfl
@[simp, simp ↓] theorem c_impl_LongestBar_16_r : vc2 C (n + 1) [] (.code c_impl_LongestBar_16 :: sk) e h R = (condK (ev e (.t 25)) (vc2 C n [] (.code c_impl_LongestBar_15 :: sk) e h R) (vc2 C n [] (.code .skip :: sk) e h R)) := nr rfl
@[simp, simp ↓] theorem c_impl_LongestBar_17_r : vc2 C (n + 1) [] (.code c_impl_LongestBar_17 :: sk) e h R = (vc2 C n [] (.code c_impl_LongestBar_13 :: .code c_impl_LongestBar_16 :: sk) e h R) := nr rfl
@[simp, simp ↓] theorem c_impl_LongestBar_18_r : vc2 C (n + 1) [] (.code c_impl_LongestBar_18 :: sk) e h R = (vc2 C n c_impl_LongestBar_o8 sk e h R) := nr rfl
@[simp, simp ↓] theorem c_impl_LongestBar_19_r : vc2 C (n + 1) [] (.code c_impl_LongestBar_19 :: sk) e h R = (vc2 C n c_impl_LongestBar_o9 sk e h R) := nr rfl
@[simp, simp ↓] theorem c_impl_LongestBar_20_r : vc2 C (n + 1) [] (.code c_impl_LongestBar_20 :: sk) e h R = (vc2 C n c_impl_LongestBar_o10 sk e h R) := nr rfl
@[simp, simp ↓] theorem c_impl_LongestBar_21_r : vc2 C (n + 1) [] (.code c_impl_LongestBar_21 :: sk) e h R = (condK (ev e (.t 33)) (vc2 C n [] (.code .skip :: sk) e h R) (vc2 C n [] (.code (.exit 1) :: sk) e h R)) := nr rfl
@[simp, simp ↓] theorem c_impl_LongestBar_22_r : vc2 C (n + 1) [] (.code c_impl_LongestBar_22 :: sk) e h R = (vc2 C n c_impl_LongestBar_o11 sk e h R) := nr rfl
@[simp, simp ↓] theorem c_impl_LongestBar_23_r : vc2 C (n + 1) [] (.code c_impl_LongestBar_23 :: sk) e h R = (vc2 C n c_impl_LongestBar_o12 sk e h R) := nr rfl
@[simp, simp ↓] theorem c_impl_LongestBar_24_r : vc2 C (n + 1) [] (.code c_impl_LongestBar_24 :: sk) e h R = (vc2 C n c_impl_LongestBar_o13 sk e h R) := nr rfl
@[simp, simp ↓] theorem c_impl_LongestBar_25_r : vc2 C (n + 1) [] (.code c_impl_LongestBar_25 :: sk) e h R = (condK (ev e (.t 46)) (vc2 C n [] (.code c_impl_LongestBar_24 :: sk) e h R) (vc2 C n [] (.code .skip :: sk) e h R)) := nr rfl
@[simp, simp ↓] theorem c_impl_LongestBar_26_r : vc2 C (n + 1) [] (.code c_impl_LongestBar_26 :: sk) e h R = (vc2 C n [] (.code c_impl_LongestBar_23 :: .code c_impl_LongestBar_25 :: sk) e h R) := nr rfl
@[simp, simp ↓] theorem c_impl_LongestBar_27_r : vc2 C (n + 1) [] (.code c_impl_LongestBar_27 :: sk) e h R = (vc2 C n [] (.code c_impl_LongestBar_22 :: .code c_impl_LongestBar_26 :: sk) e h R) := nr rfl
@[simp, simp ↓] theorem c_impl_LongestBar_28_r : vc2 C (n + 1) [] (.code c_impl_LongestBar_28 :: sk) e h R = (vc2 C n [] (.code c_impl_LongestBar_27 :: .inBlock 2 :: sk) e h R) := nr rfl
@[simp, simp ↓] theorem c_impl_LongestBar_29_r : vc2 C (n + 1) [] (.code c_impl_LongestBar_29 :: sk) e h R = (vc2 C n c_impl_LongestBar_o14 sk e h R) := nr rfl
@[simp, simp ↓] theorem c_impl_LongestBar_30_r : vc2 C (n + 1) [] (.code c_impl_LongestBar_30 :: sk) e h R = (vc2 C n [] (.code c_impl_LongestBar_28 :: .code c_impl_LongestBar_29 :: sk) e h R) := nr rfl
@[simp, simp ↓] theorem c_impl_LongestBar_31_r : vc2 C (n + 1) [] (.code c_impl_LongestBar_31 :: sk) e h R = (vc2 C n [] (.code c_impl_LongestBar_21 :: .code c_impl_LongestBar_30 :: sk) e h R) := nr rfl
@[simp, simp ↓] theorem c_impl_LongestBar_32_r : vc2 C (n + 1) [] (.code c_impl_LongestBar_32 :: sk) e h R = (vc2 C n [] (.code c_impl_LongestBar_20 :: .code c_impl_LongestBar_31 :: sk) e h R) := nr rfl
@[simp, simp ↓] theorem c_impl_LongestBar_33_r : vc2 C (n + 1) [] (.code c_impl_LongestBar_33 :: sk) e h R = (Run2 C (.code c_impl_LongestBar_32 :: .inLoop c_impl_LongestBar_32 :: sk) e h R) := nr rfl
@[simp, simp ↓] theorem c_impl_LongestBar_34_r : vc2 C (n + 1) [] (.code c_impl_LongestBar_34 :: sk) e h R = (vc2 C n [] (.code c_impl_LongestBar_33 :: .inBlock 1 :: sk) e h R) := nr rfl
@[simp, simp ↓] theorem c_impl_LongestBar_35_r : vc2 C (n + 1) [] (.code c_impl_LongestBar_35 :: sk) e h R = (vc2 C n [] (.code c_impl_LongestBar_19 :: .code c_impl_LongestBar_34 :: sk) e h R) := nr rfl
@[simp, simp ↓] theorem c_impl_LongestBar_36_r : vc2 C (n + 1) [] (.code c_impl_LongestBar_36 :: sk) e h R = (vc2 C n c_impl_LongestBar_o15 sk e h R) := nr rfl
@[simp, simp ↓] theorem c_impl_LongestBar_37_r : vc2 C (n + 1) [] (.code c_impl_LongestBar_37 :: sk) e h R = (vc2 C n [] (.code c_impl_LongestBar_36 :: .code .ret :: sk) e h R) := nr rfl
@[simp, simp ↓] theorem c_impl_LongestBar_38_r : vc2 C (n + 1) [] (.code c_impl_LongestBar_38 :: sk) e h R = (vc2 C n [] (.code c_impl_LongestBar_35 :: .code c_impl_LongestBar_37 :: sk) e h R) := nr rfl
@[simp, simp ↓] theorem c_impl_LongestBar_39_r : vc2 C (n + 1) [] (.code c_impl_LongestBar_39 :: sk) e h R = (vc2 C n [] (.code c_impl_LongestBar_18 :: .code c_impl_LongestBar_38 :: sk) e h R) := nr rfl
@[simp, simp ↓] theorem c_impl_LongestBar_40_r : vc2 C (n + 1) [] (.code c_impl_LongestBar_40 :: sk) e h R = (vc2 C n [] (.code c_impl_LongestBar_17 :: .code c_impl_LongestBar_39 :: sk) e h R) := nr rfl
@[simp, simp ↓] theorem c_impl_LongestBar_41_r : vc2 C (n + 1) [] (.code c_impl_LongestBar_41 :: sk) e h R = (vc2 C n [] (.code c_impl_LongestBar_12 :: .code c_impl_LongestBar_40 :: sk) e h R) := nr rfl
@[simp, simp ↓] theorem c_impl_LongestBar_42_r : vc2 C (n + 1) [] (.code c_impl_LongestBar_42 :: sk) e h R = (vc2 C n [] (.code c_impl_LongestBar_11 :: .code c_impl_LongestBar_41 :: sk) e h R) := nr rfl
@[simp, simp ↓] theorem c_impl_LongestBar_43_r : vc2 C (n + 1) [] (.code c_impl_LongestBar_43 :: sk) e h R = (vc2 C n [] (.code c_impl_LongestBar_0 :: .code c_impl_LongestBar_42 :: sk) e h R) := nr rfl
end
noncomputable def c_impl_LongestBar_C (orc : Orc) : Cx := ⟨Try.prog, [4, 7, 9], 17, 50, [.cell 4 3 true, .tmp 5], orc⟩
@[simp] theorem c_impl_LongestBar_C_P (orc : Orc) : (c_impl_LongestBar_C orc).P = Try.prog := nr rfl
@[simp] theorem c_impl_LongestBar_C_o (orc : Orc) : (c_impl_LongestBar_C orc).orc = orc := nr rfl
@[simp] theorem c_impl_LongestBar_C_r (orc : Orc) : (c_impl_LongestBar_C orc).res = [.cell 4 3 true, .tmp 5] := nr rfl
theorem c_impl_LongestBar_of {args : List AV} {h : Heap} {R : AV → Heap → Prop} {k : Nat} (ha : args.length = k) {orc : Orc} (hp : Pure Try.prog orc) (hk : Is (c_impl_LongestBar_C orc) Try.f17 → Run2 (c_impl_LongestBar_C orc) [.code c_impl_LongestBar_43] (argEnv 0 args) h (Post R)) (hle : k ≤ 50 := by simp) : ACalls Try.prog 17 args h R :=
  contract2 [4, 7, 9] c_impl_LongestBar_43 [.cell 4 3 true, .tmp 5] Try.func17 (by decide +kernel) rfl (by kernel_rfl) (by rw [ha]; exact hle) (by kernel_rfl) hp hk
theorem c_impl_LongestBar_of0 {args : List AV} {h : Heap} {R : AV → Heap → Prop} {k : Nat} (ha : args.length = k) {orc : Orc} (hp : Pure Try.prog orc) (hk : Is (c_impl_LongestBar_C orc) Try.f17 → Run2 (c_impl_LongestBar_C orc) [.code c_impl_LongestBar_43] (argEnv 0 args) h R) (hle : k ≤ 50 := by simp) : ACalls Try.prog 17 args h R :=
  contract20 [4, 7, 9] c_impl_LongestBar_43 [.cell 4 3 true, .tmp 5] Try.func17 (by decide +kernel) rfl (by kernel_rfl) (by rw [ha]; exact hle) (by kernel_rfl) hp hk
theorem implBest_o (l : List T) (d : Int) (hl : l.length ≤ 1048576) (ok : okB l) : ACalls Try.prog 17 [.snap 3 (l.map T.av), .int .i64 d] [] (fun v h' => v = .tup [(bestB l d).av, .int .i64 (bestCode l d)] ∧ h' = []) := by
  refine c_impl_LongestBar_of rfl orcV_p fun I => ?_
  refine Run2.of I 1000 ?_
  by_cases hv : validB l
  · by_cases hr : 0 ≤ d ∧ d ≤ 3
    · simp -implicitDefEqProofs [hl, ok, hv, hr.1, hr.2]
      intro id
      refine (ofDegree_w l d _ hl isFinite_t).mono ?_
      rintro v h'' ⟨h', o, hd, rfl⟩
      have hall : ∀ x ∈ finB l d, x.el := fun x hx => hv.el (List.mem_filter.1 hx).1
      have hm : (l.filter fun x => decide (x.f = d) && !decide (x.s = -1)) = finB l d := rfl
      have hfl : (finB l d).length ≤ l.length := List.length_filter_le _ _
      rw [hm] at o
      generalize hf : finB l d = m at o hall hfl
      have empty : m = [] → bestCode l d = 3 ∧ bestB l d = ⟨0, 0, 0⟩ := by
        rintro rfl
        have : bestCode l d = 3 := by simp [bestCode, hv, hr, hf]
        exact ⟨this, by simp [bestB, this]⟩
      have full : m ≠ [] → bestCode l d = 0 ∧ bestB l d = bestL m := by
        intro hne
        have : bestCode l d = 0 := by simp [bestCode, hv, hr, hf, hne]
        exact ⟨this, by simp [bestB, this, hf]⟩
      cases o with
      | nil =>
        refine gK.go ?_
        simp -implicitDefEqProofs
        exact Post.none ⟨by simp [empty], rfl⟩
      | emp =>
        refine gK.go ?_
        simp -implicitDefEqProofs
        exact Post.none ⟨by simp [empty], rfl⟩
      | sl id' cap ex hex =>
        have hne : ¬ id' = id := by simpa [dom] using hd
        have hne' : ¬ id = id' := fun h => hne h.symm
        by_cases hm0 : m = []
        · have e := empty hm0
          subst hm0
          refine gK.go ?_
          simp -implicitDefEqProofs [hne]
          exact Post.none ⟨by simp [e], rfl⟩
        · obtain ⟨f1, f2⟩ := full hm0
          have hpos : 0 < m.length := List.length_pos_iff.2 hm0
          have hz : ¬ ((m.length : Int) = 0) := by omega
          have hget : ∀ i (hi : i < m.length), (m.map T.av ++ ex)[i]? = some m[i].av := by
            intro i hi
            rw [List.getElem?_append_left (by simpa using hi)]
            simp [hi]
          have hg0 := hget 0 hpos
          rw [f1, f2]
          generalize hL : m.map T.av ++ ex = L at hget hg0
          refine gK.go ?_
          simp -implicitDefEqProofs [hne, hm0, hg0, hpos, hne']
          intro id2 n1 n2
          have n1' : ¬ id' = id2 := fun h => n1 h.symm
          have n2' : ¬ id = id2 := fun h => n2 h.symm
          refine gK.go ?_
          simp -implicitDefEqProofs [n1, n2, n1', n2', hne, hne']
          refine Run2.loopE (α := Nat × T) (fun s => [(4, .ptr id 3 0 0), (7, .ptr id2 3 0 0), (30, .sl id' 3 0 m.length cap), (31, .int .i64 m.length), (32, .int .i64 (s.1 : Nat))]) (fun s => [(id2, ⟨3, [s.2.av]⟩), (id', ⟨3, L⟩), (id, ⟨3, [tz]⟩)]) (fun s => m.length - s.1) (fun s => s.1 ≤ m.length ∧ s.2 ∈ m ∧ bestFrom s.2 (m.drop s.1) = bestL m) (0, m[0]) (by simp) (by simp; rfl) ⟨Nat.zero_le _, List.getElem_mem _, by
            cases m with
            | nil => simp at hpos
            | cons x r => simp [bestFrom, bestL]⟩ ?_
          rintro ⟨i, b⟩ ⟨hi, hbm, hbi⟩ ih
          simp only at hi hbm hbi
          by_cases hlt : i < m.length
          · have hgi := hget i hlt
            have hb1 := T.el_b (hall b hbm)
            have hb2 := T.el_b (hall m[i] (List.getElem_mem hlt))
            rw [List.drop_eq_getElem_cons hlt, bestFrom] at hbi
            have go1 := fun (h1 : b.s - b.t < m[i].s - m[i].t) => ih (i + 1, m[i]) ⟨by simp; omega, List.getElem_mem hlt, by rw [if_pos h1] at hbi; exact hbi⟩ (by simp; omega)
            have go0 := fun (h1 : ¬ b.s - b.t < m[i].s - m[i].t) => ih (i + 1, b) ⟨by simp; omega, hbm, by rw [if_neg h1] at hbi; exact hbi⟩ (by simp; omega)
            clear ih
            refine Run2.of I 1000 ?_
            simp -implicitDefEqProofs [hlt, hgi, n1, n2, n1', n2', hne, hne']
            simp at go1 go0
            repeat' (first | refine And.intro ?_ ?_ | intro _)
            all_goals first | omega | (unfold in64; omega) | exact go1 (by omega) | exact go0 (by omega)
          · have : i = m.length := by omega
            subst this
            rw [List.drop_length, bestFrom] at hbi
            subst hbi
            refine Run2.of I 1000 ?_
            simp -implicitDefEqProofs [n1, n2, n1', n2', hne, hne']
            exact Post.none ⟨rfl, rfl⟩
    · have hc : bestCode l d = 2 := by simp [bestCode, hv, hr]
      have hn : bestB l d = ⟨0, 0, 0⟩ := by simp [bestB, hc]
      simp -implicitDefEqProofs [hl, ok, hv, hc, hn]
      intro id
      repeat' (first | refine And.intro ?_ ?_ | intro _)
      all_goals first | exact Post.none ⟨rfl, rfl⟩ | (exfalso; omega)
  · have hc : bestCode l d = 1 := by simp [bestCode, hv]
    have hn : bestB l d = ⟨0, 0, 0⟩ := by simp [bestB, hc]
    simp -implicitDefEqProofs [hl, ok, hv, hc, hn]
    intro id
    exact Post.none ⟨rfl, rfl⟩
abbrev c_spec_LongestBar_o0 : List AJ := [.o ⟨(some 4), none, false, .alloc true 3 (.agg [(.int .i64 0), (.int .i64 0), (.int .i64 0)]), none⟩, .o ⟨(some 5), none, false, .mv (.c (.int .i64 0)), (some [0, 1, 4])⟩]
def c_spec_LongestBar_0 : ACode := .region c_spec_LongestBar_o0
abbrev c_spec_LongestBar_o1 : List AJ := [.o ⟨(some 9), none, false, .mv (.t 0), none⟩, .o ⟨(some 10), none, false, .call 27 [(.t 9)], none⟩, .o ⟨(some 11), none, false, .un .not (.t 10), (some [0, 1, 4, 11])⟩]
def c_spec_LongestBar_1 : ACode := .region c_spec_LongestBar_o1
abbrev c_spec_LongestBar_o2 : List AJ := [.o ⟨(some 12), none, false, .build [(.int .i64 0), (.int .i64 0), (.int .i64 0)] [], none⟩, .o ⟨none, none, false, .store 3 (.t 4) (.t 12), none⟩, .o ⟨(some 5), none, false, .mv (.c (.int .i64 1)), (some [4, 5])⟩]
def c_spec_LongestBar_2 : ACode := .region c_spec_LongestBar_o2
def c_spec_LongestBar_3 : ACode := .seq c_spec_LongestBar_2 .ret
def c_spec_LongestBar_4 : ACode := .cond (.t 11) c_spec_LongestBar_3 .skip
def c_spec_LongestBar_5 : ACode := .seq c_spec_LongestBar_1 c_spec_LongestBar_4
abbrev c_spec_LongestBar_o3 : List AJ := [.o ⟨(some 13), none, false, .mv (.t 1), none⟩, .o ⟨(some 14), none, false, .call 33 [(.t 13)], none⟩, .o ⟨(some 15), none, false, .un .not (.t 14), (some [0, 1, 4, 15])⟩]
def c_spec_LongestBar_6 : ACode := .region c_spec_LongestBar_o3
abbrev c_spec_LongestBar_o4 : List AJ := [.o ⟨(some 16), none, false, .build [(.int .i64 0), (.int .i64 0), (.int .i64 0)] [], none⟩, .o ⟨none, none, false, .store 3 (.t 4) (.t 16), none⟩, .o ⟨(some 5), none, false, .mv (.c (.int .i64 2)), (some [4, 5])⟩]
def c_spec_LongestBar_7 : ACode := .region c_spec_LongestBar_o4
def c_spec_LongestBar_8 : ACode := .seq c_spec_LongestBar_7 .ret
def c_spec_LongestBar_9 : ACode := .cond (.t 15) c_spec_LongestBar_8 .skip
def c_spec_LongestBar_10 : ACode := .seq c_spec_LongestBar_6 c_spec_LongestBar_9
abbrev c_spec_LongestBar_o5 : List AJ := [.o ⟨(some 6), none, false, .mv (.c (.int .i64 (-1))), (some [0, 1, 4, 6])⟩]
def c_spec_LongestBar_11 : ACode := .region c_spec_LongestBar_o5
abbrev c_spec_LongestBar_o6 : List AJ := [.o ⟨(some 7), none, false, .mv (.c (.int .i64 0)), (some [0, 1, 4, 6, 7])⟩]
def c_spec_LongestBar_12 : ACode := .region c_spec_LongestBar_o6
abbrev c_spec_LongestBar_o7 : List AJ := [.o ⟨(some 17), none, false, .mv (.t 7), none⟩, .o ⟨(some 18), none, false, .mv (.t 0), none⟩, .o ⟨(some 19), none, false, .len (.t 18), none⟩, .o ⟨(some 20), none, false, .bin .lss (.t 17) (.t 19), (some [0, 1, 4, 6, 7, 20])⟩]
def c_spec_LongestBar_13 : ACode := .region c_spec_LongestBar_o7
def c_spec_LongestBar_14 : ACode := .cond (.t 20) .skip (.exit 0)
def c_spec_LongestBar_15 : ACode := .seq c_spec_LongestBar_13 c_spec_LongestBar_14
abbrev c_spec_LongestBar_o8 : List AJ := [.o ⟨(some 23), none, false, .mv (.t 0), none⟩, .o ⟨(some 24), none, false, .mv (.t 7), none⟩, .o ⟨(some 25), none, false, .idxA 3 (.t 23) (.t 24), none⟩, .o ⟨(some 26), none, false, .load 3 true (.t 25), none⟩, .v 8 3 (.agg [(.int .i64 0), (.int .i64 0), (.int .i64 0)]) [] (.t 26) (some [0, 1, 4, 6, 7, 8])]
def c_spec_LongestBar_16 : ACode := .region c_spec_LongestBar_o8
abbrev c_spec_LongestBar_o9 : List AI := [⟨(some 27), none, false, .fieldA 0 (.t 8), none⟩, ⟨(some 28), none, false, .load 1 false (.t 27), none⟩, ⟨(some 29), none, false, .mv (.t 1), none⟩, ⟨(some 30), none, false, .bin .eql (.t 28) (.t 29), none⟩, ⟨(some 31), none, false, .mv (.t 30), none⟩, ⟨(some 32), (some (31, true)), false, .fieldA 2 (.t 8), none⟩, ⟨(some 33), (some (31, true)), false, .load 1 false (.t 32), none⟩, ⟨(some 34), (some (31, true)), false, .bin .neq (.t 33) (.c (.int .i64 (-1))), none⟩, ⟨(some 35), none, false, .pick (.t 31) (.t 34) (.c (.bool false)), none⟩, ⟨(some 36), none, false, .mv (.t 35), none⟩, ⟨(some 37), (some (36, true)), false, .mv (.t 6), (some [0, 1, 4, 6, 7, 8, 36, 37])⟩, ⟨(some 38), (some (36, true)), false, .bin .lss (.t 37) (.c (.int .i64 0)), none⟩, ⟨(some 39), (some (36, true)), false, .mv (.t 38), none⟩, ⟨(some 40), (some (39, false)), false, .fieldA 2 (.t 8), none⟩, ⟨(some 41), (some (39, false)), false, .load 1 false (.t 40), none⟩, ⟨(some 42), (some (39, false)), false, .fieldA 1 (.t 8), none⟩, ⟨(some 43), (some (39, false)), false, .load 1 false (.t 42), none⟩, ⟨(some 44), (some (39, false)), true, .bin .sub (.t 41) (.t 43), (some [0, 1, 4, 6, 7, 36, 39, 44])⟩, ⟨(some 45), (some (39, false)), false, .mv (.t 0), none⟩, ⟨(some 46), (some (39, false)), false, .mv (.t 6), none⟩, ⟨(some 47), (some (39, false)), false, .idxA 3 (.t 45) (.t 46), none⟩, ⟨(some 48), (some (39, false)), false, .fieldA 2 (.t 47), none⟩, ⟨(some 49), (some (39, false)), false, .load 1 false (.t 48), none⟩, ⟨(some 50), (some (39, false)), false, .mv (.t 0), none⟩, ⟨(some 51), (some (39, false)), false, .mv (.t 6), (some [0, 1, 4, 6, 7, 36, 39, 44, 49, 50, 51])⟩, ⟨(some 52), (some (39, false)), false, .idxA 3 (.t 50) (.t 51), none⟩, ⟨(some 53), (some (39, false)), false, .fieldA 1 (.t 52), none⟩, ⟨(some 54), (some (39, false)), false, .load 1 false (.t 53), none⟩, ⟨(some 55), (some (39, false)), true, .bin .sub (.t 49) (.t 54), none⟩, ⟨(some 56), (some (39, false)), false, .bin .gtr (.t 44) (.t 55), none⟩, ⟨(some 57), (some (36, true)), false, .pick (.t 39) (.c (.bool true)) (.t 56), none⟩, ⟨(some 58), none, false, .pick (.t 36) (.t 57) (.c (.bool false)), (some [0, 1, 4, 6, 7, 58])⟩]
def c_spec_LongestBar_17 : ACode := .draw c_spec_LongestBar_o9 [] rfl
abbrev c_spec_LongestBar_o10 : List AJ := [.o ⟨(some 59), none, false, .mv (.t 7), none⟩, .o ⟨(some 6), none, false, .mv (.t 59), (some [0, 1, 4, 6, 7])⟩]
def c_spec_LongestBar_18 : ACode := .region c_spec_LongestBar_o10
def c_spec_LongestBar_19 : ACode := .cond (.t 58) c_spec_LongestBar_18 .skip
def c_spec_LongestBar_20 : ACode := .seq c_spec_LongestBar_17 c_spec_LongestBar_19
def c_spec_LongestBar_21 : ACode := .seq c_spec_LongestBar_16 c_spec_LongestBar_20
def c_spec_LongestBar_22 : ACode := .block 1 c_spec_LongestBar_21
abbrev c_spec_LongestBar_o11 : List AJ := [.o ⟨(some 21), none, false, .mv (.t 7), none⟩, .o ⟨(some 22), none, true, .bin .add (.t 21) (.c (.int .i64 1)), none⟩, .o ⟨(some 7), none, false, .mv (.t 22), (some [0, 1, 4, 6, 7])⟩]
def c_spec_LongestBar_23 : ACode := .region c_spec_LongestBar_o11
def c_spec_LongestBar_24 : ACode := .seq c_spec_LongestBar_22 c_spec_LongestBar_23
def c_spec_LongestBar_25 : ACode := .seq c_spec_LongestBar_15 c_spec_LongestBar_24
def c_spec_LongestBar_26 : ACode := .loop c_spec_LongestBar_25
def c_spec_LongestBar_27 : ACode := .block 0 c_spec_LongestBar_26
def c_spec_LongestBar_28 : ACode := .seq c_spec_LongestBar_12 c_spec_LongestBar_27
abbrev c_spec_LongestBar_o12 : List AJ := [.o ⟨(some 60), none, false, .mv (.t 6), none⟩, .o ⟨(some 61), none, false, .bin .lss (.t 60) (.c (.int .i64 0)), (some [0, 4, 6, 61])⟩]
def c_spec_LongestBar_29 : ACode := .region c_spec_LongestBar_o12
abbrev c_spec_LongestBar_o13 : List AJ := [.o ⟨(some 62), none, false, .build [(.int .i64 0), (.int .i64 0), (.int .i64 0)] [], none⟩, .o ⟨none, none, false, .store 3 (.t 4) (.t 62), none⟩, .o ⟨(some 5), none, false, .mv (.c (.int .i64 3)), (some [4, 5])⟩]
def c_spec_LongestBar_30 : ACode := .region c_spec_LongestBar_o13
def c_spec_LongestBar_31 : ACode := .seq c_spec_LongestBar_30 .ret
def c_spec_LongestBar_32 : ACode := .cond (.t 61) c_spec_LongestBar_31 .skip
def c_spec_LongestBar_33 : ACode := .seq c_spec_LongestBar_29 c_spec_LongestBar_32
abbrev c_spec_LongestBar_o14 : List AJ := [.o ⟨(some 63), none, false, .mv (.t 0), none⟩, .o ⟨(some 64), none, false, .mv (.t 6), none⟩, .o ⟨(some 65), none, false, .idxA 3 (.t 63) (.t 64), none⟩, .o ⟨(some 66), none, false, .load 3 true (.t 65), none⟩, .o ⟨none, none, false, .store 3 (.t 4) (.t 66), none⟩, .o ⟨(some 5), none, false, .mv (.c (.int .i64 0)), (some [4, 5])⟩]
def c_spec_LongestBar_34 : ACode := .region c_spec_LongestBar_o14
def c_spec_LongestBar_35 : ACode := .seq c_spec_LongestBar_34 .ret
def c_spec_LongestBar_36 : ACode := .seq c_spec_LongestBar_33 c_spec_LongestBar_35
def c_spec_LongestBar_37 : ACode := .seq c_spec_LongestBar_28 c_spec_LongestBar_36
def c_spec_LongestBar_38 : ACode := .seq c_spec_LongestBar_11 c_spec_LongestBar_37
def c_spec_LongestBar_39 : ACode := .seq c_spec_LongestBar_10 c_spec_LongestBar_38
def c_spec_LongestBar_40 : ACode := .seq c_spec_LongestBar_5 c_spec_LongestBar_39
def c_spec_LongestBar_41 : ACode := .seq c_spec_LongestBar_0 c_spec_LongestBar_40
section
variable (C : Cx) (n : Nat) (sk : List AItem) (e : Env) (h : Heap) (R : AV → Heap → Prop)
@[simp, simp ↓] theorem c_spec_LongestBar_0_r : vc2 C (n + 1) [] (.code c_spec_LongestBar_0 :: sk) e h R = (vc2 C n c_spec_LongestBar_o0 sk e h R) := nr rfl
@[simp, simp ↓] theorem c_spec_LongestBar_1_r : vc2 C (n + 1) [] (.code c_spec_LongestBar_1 :: sk) e h R = (vc2 C n c_spec_LongestBar_o1 sk e h R) := nr rfl
@[simp, simp ↓] theorem c_spec_LongestBar_2_r : vc2 C (n + 1) [] (.code c_spec_LongestBar_2 :: sk) e h R = (vc2 C n c_spec_LongestBar_o2 sk e h R) := nr rfl
@[simp, simp ↓] theorem c_spec_LongestBar_3_r : vc2 C (n + 1) [] (.code c_spec_LongestBar_3 :: sk) e h R = (vc2 C n [] (.code c_spec_LongestBar_2 :: .code .ret :: sk) e h R) := nr rfl
@[simp, simp ↓] theorem c_spec_LongestBar_4_r : vc2 C (n + 1) [] (.code c_spec_LongestBar_4 :: sk) e h R = (condK (ev e (.t 11)) (vc2 C n [] (.code c_spec_LongestBar_3 :: sk) e h R) (vc2 C n [] (.code .skip :: sk) e h R)) := nr rfl
@[simp, simp ↓] theorem c_spec_LongestBar_5_r : vc2 C (n + 1) [] (.code c_spec_LongestBar_5 :: sk) e h R = (vc2 C n [] (.code c_spec_LongestBar_1 :: .code c_spec_LongestBar_4 :: sk) e h R) := nr rfl
@[simp, simp ↓] theorem c_spec_LongestBar_6_r : vc2 C (n + 1) [] (.code c_spec_LongestBar_6 :: sk) e h R = (vc2 C n c_spec_LongestBar_o3 sk e h R) := nr rfl
@[simp, simp ↓] theorem c_spec_LongestBar_7_r : vc2 C (n + 1) [] (.code c_spec_LongestBar_7 :: sk) e h R = (vc2 C n c_spec_LongestBar_o4 sk e h R) := nr rfl
@[simp, simp ↓] theorem c_spec_LongestBar_8_r : vc2 C (n + 1) [] (.code c_spec_LongestBar_8 :: sk) e h R = (vc2 C n [] (.code c_spec_LongestBar_7 :: .code .ret :: sk) e h R) := nr rfl
@[simp, simp ↓] theorem c_spec_LongestBar_9_r : vc2 C (n + 1) [] (.code c_spec_LongestBar_9 :: sk) e h R = (condK (ev e (.t 15)) (vc2 C n [] (.code c_spec_LongestBar_8 :: sk) e h R) (vc2 C n [] (.code .skip :: sk) e h R)) := nr rfl
@[simp, simp ↓] theorem c_spec_LongestBar_10_r : vc2 C (n + 1) [] (.code c_spec_LongestBar_10 :: sk) e h R = (vc2 C n [] (.code c_spec_LongestBar_6 :: .code c_spec_LongestBar_9 :: sk) e h R) := nr rfl
@[simp, simp ↓] theorem c_spec_LongestBar_11_r : vc2 C (n + 1) [] (.code c_spec_LongestBar_11 :: sk) e h R = (vc2 C n c_spec_LongestBar_o5 sk e h R) := nr rfl
@[simp, simp ↓] theorem c_spec_LongestBar_12_r : vc2 C (n + 1) [] (.code c_spec_LongestBar_12 :: sk) e h R = (vc2 C n c_spec_LongestBar_o6 sk e h R) := nr rfl
@[simp, simp ↓] theorem c_spec_LongestBar_13_r : vc2 C (n + 1) [] (.code c_spec_LongestBar_13 :: sk) e h R = (vc2 C n c_spec_LongestBar_o7 sk e h R) := nr rfl
@[simp, simp ↓] theorem c_spec_LongestBar_14_r : vc2 C (n + 1) [] (.code c_spec_LongestBar_14 :: sk) e h R = (condK (ev e (.t 20)) (vc2 C n [] (.code .skip :: sk) e h R) (vc2 C n [] (.code (.exit 0) :: sk) e h R)) := nr rfl
@[simp, simp ↓] theorem c_spec_LongestBar_15_r : vc2 C (n + 1) [] (.code c_spec_LongestBar_15 :: sk) e h R = (vc2 C n [] (.code c_spec_LongestBar_13 :: .code c_spec_LongestBar_14 :: sk) e h R) := nr rfl
@[simp, simp ↓] theorem c_spec_LongestBar_16_r : vc2 C (n + 1) [] (.code c_spec_LongestBar_16 :: sk) e h R = (vc2 C n c_spec_LongestBar_o8 sk e h R) := nr rfl
@[simp, simp ↓] theorem c_spec_LongestBar_17_r : vc2 C (n + 1) [] (.code c_spec_LongestBar_17 :: sk) e h R = (draw2 C h (vK C n [] sk R h) c_spec_LongestBar_o9 e) := nr rfl
@[simp, simp ↓] theorem c_spec_LongestBar_18_r : vc2 C (n + 1) [] (.code c_spec_LongestBar_18 :: sk) e h R = (vc2 C n c_spec_LongestBar_o10 sk e h R) := nr rfl
@[simp, simp ↓] theorem c_spec_LongestBar_19_r : vc2 C (n + 1) [] (.code c_spec_LongestBar_19 :: sk) e h R = (condK (ev e (.t 58)) (vc2 C n [] (.code c_spec_LongestBar_18 :: sk) e h R) (vc2 C n [] (.code .skip :: sk) e h R)) := nr rfl
@[simp, simp ↓] theorem c_spec_LongestBar_20_r : vc2 C (n + 1) [] (.code c_spec_LongestBar_20 :: sk) e h R = (vc2 C n [] (.code c_spec_LongestBar_17 :: .code c_spec_LongestBar_19 :: sk) e h R) := nr rfl
@[simp, simp ↓] theorem c_spec_LongestBar_21_r : vc2 C (n + 1) [] (.code c_spec_LongestBar_21 :: sk) e h R = (vc2 C n [] (.code c_spec_LongestBar_16 :: .code c_spec_LongestBar_20 :: sk) e h R) := nr rfl
@[simp, simp ↓] theorem c_spec_LongestBar_22_r : vc2 C (n + 1) [] (.code c_spec_LongestBar_22 :: sk) e h R = (vc2 C n [] (.code c_spec_LongestBar_21 :: .inBlock 1 :: sk) e h R) := nr rfl
@[simp, simp ↓] theorem c_spec_LongestBar_23_r : vc2 C (n + 1) [] (.code c_spec_LongestBar_23 :: sk) e h R = (vc2 C n c_spec_LongestBar_o11 sk e h R) := nr rfl
@[simp, simp ↓] theorem c_spec_LongestBar_24_r : vc2 C (n + 1) [] (.code c_spec_LongestBar_24 :: sk) e h R = (vc2 C n [] (.code c_spec_LongestBar_22 :: .code c_spec_LongestBar_23 :: sk) e h R) := nr rfl
@[simp, simp ↓] theorem c_spec_LongestBar_25_r : vc2 C (n + 1) [] (.code c_spec_LongestBar_25 :: sk) e h R = (vc2 C n [] (.code c_spec_LongestBar_15 :: .code c_spec_LongestBar_24 :: sk) e h R) := nr rfl
@[simp, simp ↓] theorem c_spec_LongestBar_26_r : vc2 C (n + 1) [] (.code c_spec_LongestBar_26 :: sk) e h R = (Run2 C (.code c_spec_LongestBar_25 :: .inLoop c_spec_LongestBar_25 :: sk) e h R) := nr rfl
@[simp, simp ↓] theorem c_spec_LongestBar_27_r : vc2 C (n + 1) [] (.code c_spec_LongestBar_27 :: sk) e h R = (vc2 C n [] (.code c_spec_LongestBar_26 :: .inBlock 0 :: sk) e h R) := nr rfl
@[simp, simp ↓] theorem c_spec_LongestBar_28_r : vc2 C (n + 1) [] (.code c_spec_LongestBar_28 :: sk) e h R = (vc2 C n [] (.code c_spec_LongestBar_12 :: .code c_spec_LongestBar_27 :: sk) e h R) := nr rfl
@[simp, simp ↓] theorem c_spec_LongestBar_29_r : vc2 C (n + 1) [] (.code c_spec_LongestBar_29 :: sk) e h R = (vc2 C n c_spec_LongestBar_o12 sk e h R) := nr rfl
@[simp, simp ↓] theorem c_spec_LongestBar_30_r : vc2 C (n + 1) [] (.code c_spec_LongestBar_30 :: sk) e h R = (vc2 C n c_spec_LongestBar_o13 sk e h R) := nr rfl
@[simp, simp ↓] theorem c_spec_LongestBar_31_r : vc2 C (n + 1) [] (.code c_spec_LongestBar_31 :: sk) e h R = (vc2 C n [] (.code c_spec_LongestBar_30 :: .code .ret :: sk) e h R) := nr rfl
@[simp, simp ↓] theorem c_spec_LongestBar_32_r : vc2 C (n + 1) [] (.code c_spec_LongestBar_32 :: sk) e h R = (condK (ev e (.t 61)) (vc2 C n [] (.code c_spec_LongestBar_31 :: sk) e h R) (vc2 C n [] (.code .skip :: sk) e h R)) := nr rfl
@[simp, simp ↓] theorem c_spec_LongestBar_33_r : vc2 C (n + 1) [] (.code c_spec_LongestBar_33 :: sk) e h R = (vc2 C n [] (.code c_spec_LongestBar_29 :: .code c_spec_LongestBar_32 :: sk) e h R) := nr rfl
@[simp, simp ↓] theorem c_spec_LongestBar_34_r : vc2 C (n + 1) [] (.code c_spec_LongestBar_34 :: sk) e h R = (vc2 C n c_spec_LongestBar_o14 sk e h R) := nr rfl
@[simp, simp ↓] theorem c_spec_LongestBar_35_r : vc2 C (n + 1) [] (.code c_spec_LongestBar_35 :: sk) e h R = (vc2 C n [] (.code c_spec_LongestBar_34 :: .code .ret :: sk) e h R) := nr rfl
@[simp, simp ↓] theorem c_spec_LongestBar_36_r : vc2 C (n + 1) [] (.code c_spec_LongestBar_36 :: sk) e h R = (vc2 C n [] (.code c_spec_LongestBar_33 :: .code c_spec_LongestBar_35 :: sk) e h R) := nr rfl
@[simp, simp ↓] theorem c_spec_LongestBar_37_r : vc2 C (n + 1) [] (.code c_spec_LongestBar_37 :: sk) e h R = (vc2 C n [] (.code c_spec_LongestBar_28 :: .code c_spec_LongestBar_36 :: sk) e h R) := nr rfl
@[simp, simp ↓] theorem c_spec_LongestBar_38_r : vc2 C (n + 1) [] (.code c_spec_LongestBar_38 :: sk) e h R = (vc2 C n [] (.code c_spec_LongestBar_11 :: .code c_spec_LongestBar_37 :: sk) e h R) := nr rfl
@[simp, simp ↓] theorem c_spec_LongestBar_39_r : vc2 C (n + 1) [] (.code c_spec_LongestBar_39 :: sk) e h R = (vc2 C n [] (.code c_spec_LongestBar_10 :: .code c_spec_LongestBar_38 :: sk) e h R) := nr rfl
@[simp, simp ↓] theorem c_spec_LongestBar_40_r : vc2 C (n + 1) [] (.code c_spec_LongestBar_40 :: sk) e h R = (vc2 C n [] (.code c_spec_LongestBar_5 :: .code c_spec_LongestBar_39 :: sk) e h R) := nr rfl
@[simp, simp ↓] theorem c_spec_LongestBar_41_r : vc2 C (n + 1) [] (.code c_spec_LongestBar_41 :: sk) e h R = (vc2 C n [] (.code c_spec_LongestBar_0 :: .code c_spec_LongestBar_40 :: sk) e h R) := nr rfl
end
noncomputable def c_spec_LongestBar_C (orc : Orc) : Cx := ⟨Try.prog, [4, 8], 16, 67, [.cell 4 3 true, .tmp 5], orc⟩
@[simp] theorem c_spec_LongestBar_C_P (orc : Orc) : (c_spec_LongestBar_C orc).P = Try.prog := nr rfl
@[simp] theorem c_spec_LongestBar_C_o (orc : Orc) : (c_spec_LongestBar_C orc).orc = orc := nr rfl
@[simp] theorem c_spec_LongestBar_C_r (orc : Orc) : (c_spec_LongestBar_C orc).res = [.cell 4 3 true, .tmp 5] := nr rfl
theorem c_spec_LongestBar_of {args : List AV} {h : Heap} {R : AV → Heap → Prop} {k : Nat} (ha : args.length = k) {orc : Orc} (hp : Pure Try.prog orc) (hk : Is (c_spec_LongestBar_C orc) Try.f16 → Run2 (c_spec_LongestBar_C orc) [.code c_spec_LongestBar_41] (argEnv 0 args) h (Post R)) (hle : k ≤ 67 := by simp) : ACalls Try.prog 16 args h R :=
  contract2 [4, 8] c_spec_LongestBar_41 [.cell 4 3 true, .tmp 5] Try.func16 (by decide +kernel) rfl (by kernel_rfl) (by rw [ha]; exact hle) (by kernel_rfl) hp hk
theorem c_spec_LongestBar_of0 {args : List AV} {h : Heap} {R : AV → Heap → Prop} {k : Nat} (ha : args.length = k) {orc : Orc} (hp : Pure Try.prog orc) (hk : Is (c_spec_LongestBar_C orc) Try.f16 → Run2 (c_spec_LongestBar_C orc) [.code c_spec_LongestBar_41] (argEnv 0 args) h R) (hle : k ≤ 67 := by simp) : ACalls Try.prog 16 args h R :=
  contract20 [4, 8] c_spec_LongestBar_41 [.cell 4 3 true, .tmp 5] Try.func16 (by decide +kernel) rfl (by kernel_rfl) (by rw [ha]; exact hle) (by kernel_rfl) hp hk
theorem specBest_c (l : List T) (d : Int) (h : Heap) (hl : l.length ≤ 1048576) (ok : okB l) : ACalls Try.prog 16 [.snap 3 (l.map T.av), .int .i64 d] h (fun v h' => v = .tup [(bestB l d).av, .int .i64 (bestCode l d)] ∧ h' = h) := by
  refine c_spec_LongestBar_of rfl orcV_p fun I => ?_
  refine Run2.of I 1000 ?_
  by_cases hv : validB l
  · by_cases hr : 0 ≤ d ∧ d ≤ 3
    · simp -implicitDefEqProofs [hl, ok, hv, hr.1, hr.2]
      intro id hid
      refine Run2.loopE (α := Nat × Option Nat) (fun s => [(0, .snap 3 (l.map T.av)), (1, .int .i64 d), (4, .ptr id 3 0 0), (6, .int .i64 (match s.2 with | none => -1 | some (k : Nat) => k)), (7, .int .i64 (s.1 : Nat))]) (fun s => (id, ⟨3, [tz]⟩) :: h) (fun s => l.length - s.1) (fun s => s.1 ≤ l.length ∧ (s.2 = none → finB (l.take s.1) d = []) ∧ ∀ k, s.2 = some k → ∃ hk : k < l.length, finB (l.take s.1) d ≠ [] ∧ bestL (finB (l.take s.1) d) = l[k]) (0, none) (by simp) rfl ⟨Nat.zero_le _, by simp [finB], by simp⟩ ?_
      rintro ⟨i, bi⟩ ⟨hi, hb0, hb1⟩ ih
      simp only at hi hb0 hb1
      by_cases hlt : i < l.length
      · have hb := hv.bound hlt
        have hs1 : (l[i].f = d ∧ ¬ l[i].s = -1) → finB (l.take (i + 1)) d = finB (l.take i) d ++ [l[i]] := by
          intro h1
          unfold finB
          rw [List.take_succ_eq_append_getElem hlt, List.filter_append]
          congr 1
          rw [List.filter_cons_of_pos (by simpa using h1)]; rfl
        have hs0 : ¬ (l[i].f = d ∧ ¬ l[i].s = -1) → finB (l.take (i + 1)) d = finB (l.take i) d := by
          intro h1
          unfold finB
          rw [List.take_succ_eq_append_getElem hlt, List.filter_append, List.filter_cons_of_neg (by simpa using h1)]
          simp
        have go0 := fun (h1 : ¬ (l[i].f = d ∧ ¬ l[i].s = -1)) => ih (i + 1, bi) ⟨by simp; omega, by rw [hs0 h1]; exact hb0, by rw [hs0 h1]; exact hb1⟩ (by simp; omega)
        cases bi with
        | none =>
          have go1 := fun (h1 : l[i].f = d ∧ ¬ l[i].s = -1) => ih (i + 1, some i) ⟨by simp; omega, by simp, by
            rintro k hk
            cases hk
            refine ⟨hlt, by rw [hs1 h1]; simp, ?_⟩
            rw [hs1 h1, bestL_snoc, if_pos (hb0 rfl)]⟩ (by simp; omega)
          clear ih hs1 hs0
          refine Run2.of I 1000 ?_
          simp -implicitDefEqProofs [hlt]
          simp at go1 go0
          repeat' (first | refine And.intro ?_ ?_ | intro _)
          all_goals first | omega | (unfold in64; omega) | exact go1 (by omega) (by omega) | exact go0 (by omega)
        | some k =>
          obtain ⟨hk, hne, hbest⟩ := hb1 k rfl
          have hbk := hv.bound hk
          have go1 := fun (h1 : l[i].f = d ∧ ¬ l[i].s = -1) (h2 : l[k].s - l[k].t < l[i].s - l[i].t) => ih (i + 1, some i) ⟨by simp; omega, by simp, by
            rintro k' hk'
            cases hk'
            refine ⟨hlt, by rw [hs1 h1]; simp, ?_⟩
            rw [hs1 h1, bestL_snoc, if_neg hne, hbest, if_pos h2]⟩ (by simp; omega)
          have go2 := fun (h1 : l[i].f = d ∧ ¬ l[i].s = -1) (h2 : ¬ l[k].s - l[k].t < l[i].s - l[i].t) => ih (i + 1, some k) ⟨by simp; omega, by simp, by
            rintro k' hk'
            cases hk'
            refine ⟨hk, by rw [hs1 h1]; simp, ?_⟩
            rw [hs1 h1, bestL_snoc, if_neg hne, hbest, if_neg h2]⟩ (by simp; omega)
          clear ih hs1 hs0
          refine Run2.of I 1000 ?_
          simp -implicitDefEqProofs [hlt, hk]
          simp at go1 go0 go2
          repeat' (first | refine And.intro ?_ ?_ | intro _)
          all_goals first | omega | (unfold in64; omega) | exact go1 (by omega) (by omega) (by omega) | exact go2 (by omega) (by omega) (by omega) | exact go0 (by omega)
      · obtain rfl : i = l.length := by omega
        rw [List.take_length] at hb0 hb1
        cases bi with
        | none =>
          have hc : bestCode l d = 3 := by simp [bestCode, hv, hr, hb0]
          have hn : bestB l d = ⟨0, 0, 0⟩ := by simp [bestB, hc]
          refine Run2.of I 1000 ?_
          simp -implicitDefEqProofs [hc, hn]
          refine .drop id (.base ?_)
          simp [hdel]
        | some k =>
          obtain ⟨hk, hne, hbest⟩ := hb1 k rfl
          have hc : bestCode l d = 0 := by simp [bestCode, hv, hr, hne]
          have hn : bestB l d = l[k] := by simp [bestB, hc, hbest]
          refine Run2.of I 1000 ?_
          simp -implicitDefEqProofs [hc, hn, hk]
          refine ⟨fun h => by omega, .drop id (.base ?_)⟩
          simp [hdel]
    · have hc : bestCode l d = 2 := by simp [bestCode, hv, hr]
      have hn : bestB l d = ⟨0, 0, 0⟩ := by simp [bestB, hc]
      simp -implicitDefEqProofs [hl, ok, hv, hc, hn]
      intro id hid
      repeat' (first | refine And.intro ?_ ?_ | intro _)
      all_goals first | (refine .drop id (.base ?_); simp [hdel]; done) | (exfalso; omega)
  · have hc : bestCode l d = 1 := by simp [bestCode, hv]
    have hn : bestB l d = ⟨0, 0, 0⟩ := by simp [bestB, hc]
    simp -implicitDefEqProofs [hl, ok, hv, hc, hn]
    intro id hid
    refine .drop id (.base ?_); simp [hdel]
end Go.AG
