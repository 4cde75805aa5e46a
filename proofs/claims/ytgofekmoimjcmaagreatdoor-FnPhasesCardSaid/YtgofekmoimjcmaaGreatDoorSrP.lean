/- Drawn lists of numbers, and numbers that a byte of an input chooses. No statement is made here. -/
import Derived.Test.YtgofekmoimjcmaaGreatDoorPhC
import Derived.Test.YtgofekmoimjcmaaGreatDoorSrA
import Derived.Test.YtgofekmoimjcmaaGreatDoorAGLists2
namespace Go.AG.P
open Go.Proofs Go.Proofs.YtgofekmoimjcmaaGreatDoor
set_option linter.unusedSimpArgs false
set_option linter.unusedVariables false
set_option maxRecDepth 4000
abbrev k18_o0 : List AJ := [.o ⟨(some 2), none, false, .mv (.c .nilp), (some [0])⟩]
abbrev k18_o1 : List AJ := [.o ⟨(some 3), none, false, .mv (.t 0), none⟩, .o ⟨(some 4), none, false, .build [.nilsl, (.int .i64 0), (.int .u64 0)] [(0, 1, (.t 3))], none⟩, .o ⟨(some 5), none, false, .box true 3 (.t 4), none⟩, .o ⟨(some 2), none, false, .mv (.t 5), (some [2])⟩]
def k18_2 : ACode := .seq (.region k18_o1) .ret
def k18_3 : ACode := .seq (.region k18_o0) k18_2
@[simp, simp ↓] theorem k18_2r : sR k18_2 k18_o1 .ret := yR rfl
@[simp, simp ↓] theorem k18_3r : sR k18_3 k18_o0 k18_2 := yR rfl
noncomputable abbrev k18_C : Orc → Cx := mkC Tryz.prog [5] 18 6 [.tmp 2]
theorem k18_of0 : OfP0 Tryz.prog Tryz.f18 18 6 k18_C k18_3 := @ofP0 _ _ _ _ _ _ _ _ Tryz.func18 (by decide +kernel) rfl (by kernel_rfl) rfl (by kernel_rfl)
theorem l00From_w (code : List UInt8) (h : Heap) (hl : code.length ≤ 1048576) : ACalls Tryz.prog 18 [.snap 1 (code.map bv)] h (fun v h' => ∃ id, id ∉ dom h ∧ v = .ptr id 3 0 0 ∧ h' = (id, ⟨3, [.agg [.snap 1 (code.map bv), .int .i64 0, .int .u64 0]]⟩) :: h) := by
  refine k18_of0 rfl noPure fun I => ?_
  refine Run2.of I 1000 ?_
  simp -implicitDefEqProofs
/-- The edges drawn so far. -/
structure Drawn (n m : Int) (a b : Nat) (ts : List T) : Prop where
  el : ∀ t ∈ ts, 0 ≤ t.f ∧ t.f < t.t ∧ t.t < n ∧ 0 ≤ t.s ∧ t.s < m
  lt : ∀ t ∈ ts, t.f < (a : Int) ∨ (t.f = (a : Int) ∧ t.t < (b : Int))
  pw : ts.Pairwise T.lt
theorem Drawn.put {n m : Int} {a b : Nat} {ts : List T} (D : Drawn n m a b ts) {s : Int} (hab : a < b) (hb : (b : Int) < n) (hs : 0 ≤ s ∧ s < m) : Drawn n m a (b + 1) (ts ++ [⟨a, b, s⟩]) := by
  refine ⟨fun t ht => ?_, fun t ht => ?_, ?_⟩
  · rcases List.mem_append.1 ht with ht | ht
    · exact D.el t ht
    · rw [List.mem_singleton] at ht; subst ht
      exact ⟨Int.natCast_nonneg a, by show (a : Int) < (b : Int); omega, hb, hs⟩
  · rcases List.mem_append.1 ht with ht | ht
    · have := D.lt t ht; omega
    · rw [List.mem_singleton] at ht; subst ht
      exact .inr ⟨rfl, by show (b : Int) < ((b + 1 : Nat) : Int); omega⟩
  · rw [List.pairwise_append]
    refine ⟨D.pw, by simp, fun t ht u hu => ?_⟩
    rw [List.mem_singleton] at hu; subst hu
    have := D.lt t ht
    unfold T.lt
    exact this
theorem Drawn.skip {n m : Int} {a b c d : Nat} {ts : List T} (D : Drawn n m a b ts) (h : a < c ∨ (a = c ∧ b ≤ d)) : Drawn n m c d ts :=
  ⟨D.el, fun t ht => by have := D.lt t ht; omega, D.pw⟩
theorem Drawn.valid {n m : Int} {a b : Nat} {ts : List T} (D : Drawn n m a b ts) (hn : 1 ≤ n ∧ n ≤ 12) (hm : 2 ≤ m ∧ m ≤ 360) (hl : ts.length ≤ 24) : Ph.valid ⟨n, m, ts⟩ := by
  have hp := D.pw
  rw [List.pairwise_iff_getElem] at hp
  refine ⟨hn.1, hn.2, hm.1, hm.2, fun j hj _ => ⟨D.el _ (List.getElem_mem hj), fun h0 => hp (j - 1) j (by have : j < ts.length := hj; omega) hj (by omega)⟩, hl⟩
def bd (a : Nat) : Nat := match a with
  | 0 => 0 | 1 => 5 | 2 => 9 | 3 => 12 | 4 => 14 | _ => 15
theorem bd_step {a n : Nat} (ha : a < n) (hn : n ≤ 6) : bd a + (n - (a + 1)) ≤ bd (a + 1) := by
  have : a = 0 ∨ a = 1 ∨ a = 2 ∨ a = 3 ∨ a = 4 ∨ a = 5 := by omega
  rcases this with rfl | rfl | rfl | rfl | rfl | rfl <;> simp [bd] <;> omega
theorem bd_le (a : Nat) : bd a ≤ 15 := by unfold bd; split <;> omega
abbrev k19_o0 : List AJ := [.o ⟨(some 2), none, false, .alloc true 3 (.agg [(.int .i64 0), (.int .i64 0), .nilsl]), (some [0, 2])⟩]
abbrev k19_o1 : List AJ := [.o ⟨(some 10), none, false, .mv (.t 0), none⟩, .o ⟨(some 11), none, false, .call 20 [(.t 10), (.c (.int .i64 6))], none⟩, .o ⟨(some 12), none, true, .bin .add (.c (.int .i64 1)) (.t 11), none⟩, .o ⟨(some 13), none, false, .mv (.t 0), none⟩, .o ⟨(some 14), none, false, .bsl false 1 [(.c (.int .i64 2)), (.c (.int .i64 3)), (.c (.int .i64 12)), (.c (.int .i64 24)), (.c (.int .i64 360))], none⟩, .o ⟨(some 15), none, false, .call 38 [(.t 13), (.t 14)], none⟩, .o ⟨(some 16), none, false, .build [(.int .i64 0), (.int .i64 0), .nilsl] [(0, 1, (.t 12)), (1, 1, (.t 15))], none⟩, .o ⟨(some 3), none, false, .alloc true 3 (.agg [(.int .i64 0), (.int .i64 0), .nilsl]), none⟩, .o ⟨none, none, false, .store 3 (.t 3) (.t 16), (some [0, 2, 3])⟩]
abbrev k19_o2 : List AJ := [.e 17 1 none, .o ⟨(some 4), none, false, .mv (.t 17), (some [0, 2, 3, 4])⟩]
abbrev k19_o3 : List AJ := [.o ⟨(some 5), none, false, .mv (.c (.int .i64 0)), (some [0, 2, 3, 4, 5])⟩]
abbrev k19_o4 : List AJ := [.o ⟨(some 18), none, false, .mv (.t 5), none⟩, .o ⟨(some 19), none, false, .fieldA 0 (.t 3), none⟩, .o ⟨(some 20), none, false, .load 1 false (.t 19), none⟩, .o ⟨(some 21), none, false, .bin .lss (.t 18) (.t 20), (some [0, 2, 3, 4, 5, 21])⟩]
def k19_5 : ACode := .cond (.t 21) .skip (.exit 0)
def k19_6 : ACode := .seq (.region k19_o4) k19_5
abbrev k19_o5 : List AJ := [.o ⟨(some 24), none, false, .mv (.t 4), none⟩, .o ⟨(some 25), none, false, .mv (.t 0), none⟩, .o ⟨(some 26), none, false, .fieldA 1 (.t 3), none⟩, .o ⟨(some 27), none, false, .load 1 false (.t 26), none⟩, .o ⟨(some 28), none, false, .call 20 [(.t 25), (.t 27)], none⟩, .o ⟨(some 29), none, false, .bsl false 1 [(.t 28)], none⟩, .o ⟨(some 30), none, false, .append 1 8 (.t 24) (.t 29), none⟩, .o ⟨(some 4), none, false, .mv (.t 30), (some [0, 2, 3, 4, 5])⟩]
def k19_7 : ACode := .region k19_o5
abbrev k19_o6 : List AJ := [.o ⟨(some 22), none, false, .mv (.t 5), none⟩, .o ⟨(some 23), none, true, .bin .add (.t 22) (.c (.int .i64 1)), none⟩, .o ⟨(some 5), none, false, .mv (.t 23), (some [0, 2, 3, 4, 5])⟩]
def k19_9 : ACode := .region k19_o6
def k19_10 : ACode := .seq (.block 1 k19_7) k19_9
def k19_11 : ACode := .seq k19_6 k19_10
def k19_12 : ACode := .loop k19_11
def k19_13 : ACode := .block 0 k19_12
def k19_14 : ACode := .seq (.region k19_o3) k19_13
abbrev k19_o7 : List AJ := [.o ⟨(some 31), none, false, .mv (.t 0), none⟩, .o ⟨(some 32), none, false, .bsl false 1 [(.c (.int .i64 2)), (.c (.int .i64 6)), (.c (.int .i64 100))], none⟩, .o ⟨(some 33), none, false, .call 38 [(.t 31), (.t 32)], none⟩, .o ⟨(some 6), none, false, .mv (.t 33), (some [0, 2, 3, 4, 6])⟩]
abbrev k19_o8 : List AJ := [.o ⟨(some 7), none, false, .mv (.c (.int .i64 0)), (some [0, 2, 3, 4, 6, 7])⟩]
abbrev k19_o9 : List AJ := [.o ⟨(some 34), none, false, .mv (.t 7), none⟩, .o ⟨(some 35), none, false, .fieldA 0 (.t 3), none⟩, .o ⟨(some 36), none, false, .load 1 false (.t 35), none⟩, .o ⟨(some 37), none, false, .bin .lss (.t 34) (.t 36), (some [0, 2, 3, 4, 6, 7, 37])⟩]
def k19_18 : ACode := .cond (.t 37) .skip (.exit 2)
def k19_19 : ACode := .seq (.region k19_o9) k19_18
abbrev k19_o10 : List AJ := [.o ⟨(some 40), none, false, .mv (.t 7), none⟩, .o ⟨(some 41), none, true, .bin .add (.t 40) (.c (.int .i64 1)), none⟩, .o ⟨(some 8), none, false, .mv (.t 41), (some [0, 2, 3, 4, 6, 7, 8])⟩]
abbrev k19_o11 : List AJ := [.o ⟨(some 42), none, false, .mv (.t 8), none⟩, .o ⟨(some 43), none, false, .fieldA 0 (.t 3), none⟩, .o ⟨(some 44), none, false, .load 1 false (.t 43), none⟩, .o ⟨(some 45), none, false, .bin .lss (.t 42) (.t 44), (some [0, 2, 3, 4, 6, 7, 8, 45])⟩]
def k19_22 : ACode := .cond (.t 45) .skip (.exit 4)
def k19_23 : ACode := .seq (.region k19_o11) k19_22
abbrev k19_o12 : List AJ := [.o ⟨(some 48), none, false, .mv (.t 0), none⟩, .o ⟨(some 49), none, false, .call 20 [(.t 48), (.c (.int .i64 5))], none⟩, .o ⟨(some 50), none, false, .bin .lss (.t 49) (.c (.int .i64 3)), (some [0, 2, 3, 4, 6, 7, 8, 50])⟩]
abbrev k19_o13 : List AJ := [.o ⟨(some 51), none, false, .mv (.t 7), none⟩, .o ⟨(some 52), none, false, .mv (.t 8), none⟩, .o ⟨(some 53), none, false, .mv (.t 4), none⟩, .o ⟨(some 54), none, false, .mv (.t 8), none⟩, .o ⟨(some 55), none, false, .idxA 1 (.t 53) (.t 54), none⟩, .o ⟨(some 56), none, false, .load 1 false (.t 55), none⟩, .o ⟨(some 57), none, false, .mv (.t 4), none⟩, .o ⟨(some 58), none, false, .mv (.t 7), none⟩, .o ⟨(some 59), none, false, .idxA 1 (.t 57) (.t 58), none⟩, .o ⟨(some 60), none, false, .load 1 false (.t 59), none⟩, .o ⟨(some 61), none, true, .bin .sub (.t 56) (.t 60), none⟩, .o ⟨(some 62), none, false, .fieldA 1 (.t 3), none⟩, .o ⟨(some 63), none, false, .load 1 false (.t 62), none⟩, .o ⟨(some 64), none, true, .call 39 [(.t 61), (.t 63)], (some [0, 2, 3, 4, 6, 7, 8, 51, 52, 64])⟩, .o ⟨(some 65), none, false, .build [(.int .i64 0), (.int .i64 0), (.int .i64 0)] [(0, 1, (.t 51)), (1, 1, (.t 52)), (2, 1, (.t 64))], none⟩, .o ⟨(some 9), none, false, .alloc true 3 (.agg [(.int .i64 0), (.int .i64 0), (.int .i64 0)]), none⟩, .o ⟨none, none, false, .store 3 (.t 9) (.t 65), (some [0, 2, 3, 4, 6, 7, 8, 9])⟩]
abbrev k19_o14 : List AJ := [.o ⟨(some 66), none, false, .mv (.t 0), none⟩, .o ⟨(some 67), none, false, .mv (.t 6), none⟩, .o ⟨(some 68), none, false, .call 40 [(.t 66), (.t 67)], (some [0, 2, 3, 4, 6, 7, 8, 9, 68])⟩]
abbrev k19_o15 : List AJ := [.o ⟨(some 69), none, false, .mv (.t 0), none⟩, .o ⟨(some 70), none, false, .fieldA 1 (.t 3), none⟩, .o ⟨(some 71), none, false, .load 1 false (.t 70), none⟩, .o ⟨(some 72), none, false, .call 20 [(.t 69), (.t 71)], none⟩, .o ⟨(some 73), none, false, .fieldA 2 (.t 9), none⟩, .o ⟨none, none, false, .store 1 (.t 73) (.t 72), (some [0, 2, 3, 4, 6, 7, 8, 9])⟩]
def k19_27 : ACode := .region k19_o15
def k19_28 : ACode := .cond (.t 68) k19_27 .skip
def k19_29 : ACode := .seq (.region k19_o14) k19_28
abbrev k19_o16 : List AJ := [.o ⟨(some 74), none, false, .fieldA 2 (.t 3), none⟩, .o ⟨(some 75), none, false, .load 1 false (.t 74), none⟩, .o ⟨(some 76), none, false, .load 3 true (.t 9), none⟩, .o ⟨(some 77), none, false, .bsl false 3 [(.t 76)], none⟩, .o ⟨(some 78), none, false, .append 3 24 (.t 75) (.t 77), none⟩, .o ⟨(some 79), none, false, .fieldA 2 (.t 3), none⟩, .o ⟨none, none, false, .store 1 (.t 79) (.t 78), (some [0, 2, 3, 4, 6, 7, 8])⟩]
def k19_30 : ACode := .region k19_o16
def k19_31 : ACode := .seq k19_29 k19_30
def k19_32 : ACode := .seq (.drawT 1 k19_o13 rfl) k19_31
def k19_33 : ACode := .cond (.t 50) k19_32 .skip
def k19_34 : ACode := .seq (.region k19_o12) k19_33
abbrev k19_o17 : List AJ := [.o ⟨(some 46), none, false, .mv (.t 8), none⟩, .o ⟨(some 47), none, true, .bin .add (.t 46) (.c (.int .i64 1)), none⟩, .o ⟨(some 8), none, false, .mv (.t 47), (some [0, 2, 3, 4, 6, 7, 8])⟩]
def k19_36 : ACode := .region k19_o17
def k19_37 : ACode := .seq (.block 5 k19_34) k19_36
def k19_38 : ACode := .seq k19_23 k19_37
def k19_39 : ACode := .loop k19_38
def k19_40 : ACode := .block 4 k19_39
def k19_41 : ACode := .seq (.region k19_o10) k19_40
abbrev k19_o18 : List AJ := [.o ⟨(some 38), none, false, .mv (.t 7), none⟩, .o ⟨(some 39), none, true, .bin .add (.t 38) (.c (.int .i64 1)), none⟩, .o ⟨(some 7), none, false, .mv (.t 39), (some [0, 2, 3, 4, 6, 7])⟩]
def k19_43 : ACode := .region k19_o18
def k19_44 : ACode := .seq (.block 3 k19_41) k19_43
def k19_45 : ACode := .seq k19_19 k19_44
def k19_46 : ACode := .loop k19_45
def k19_47 : ACode := .block 2 k19_46
def k19_48 : ACode := .seq (.region k19_o8) k19_47
abbrev k19_o19 : List AJ := [.o ⟨(some 80), none, false, .load 3 true (.t 3), none⟩, .o ⟨none, none, false, .store 3 (.t 2) (.t 80), (some [2])⟩]
def k19_50 : ACode := .seq (.region k19_o19) .ret
def k19_51 : ACode := .seq k19_48 k19_50
def k19_52 : ACode := .seq (.region k19_o7) k19_51
def k19_53 : ACode := .seq k19_14 k19_52
def k19_54 : ACode := .seq (.region k19_o2) k19_53
def k19_55 : ACode := .seq (.region k19_o1) k19_54
def k19_56 : ACode := .seq (.region k19_o0) k19_55
@[simp, simp ↓] theorem k19_5r : rC k19_5 (.t 21) .skip (.exit 0) := zC rfl
@[simp, simp ↓] theorem k19_6r : sR k19_6 k19_o4 k19_5 := yR rfl
@[simp, simp ↓] theorem k19_7r : rR k19_7 k19_o5 := zR rfl
@[simp, simp ↓] theorem k19_9r : rR k19_9 k19_o6 := zR rfl
@[simp, simp ↓] theorem k19_10r : sB k19_10 1 k19_7 k19_9 := yB rfl
@[simp, simp ↓] theorem k19_11r : rS k19_11 k19_6 k19_10 := zS rfl
@[simp, simp ↓] theorem k19_12r : rL k19_12 k19_11 := zL rfl
@[simp, simp ↓] theorem k19_13r : rB k19_13 0 k19_12 := zB rfl
@[simp, simp ↓] theorem k19_14r : sR k19_14 k19_o3 k19_13 := yR rfl
@[simp, simp ↓] theorem k19_18r : rC k19_18 (.t 37) .skip (.exit 2) := zC rfl
@[simp, simp ↓] theorem k19_19r : sR k19_19 k19_o9 k19_18 := yR rfl
@[simp, simp ↓] theorem k19_22r : rC k19_22 (.t 45) .skip (.exit 4) := zC rfl
@[simp, simp ↓] theorem k19_23r : sR k19_23 k19_o11 k19_22 := yR rfl
@[simp, simp ↓] theorem k19_27r : rR k19_27 k19_o15 := zR rfl
@[simp, simp ↓] theorem k19_28r : rC k19_28 (.t 68) k19_27 .skip := zC rfl
@[simp, simp ↓] theorem k19_29r : sR k19_29 k19_o14 k19_28 := yR rfl
@[simp, simp ↓] theorem k19_30r : rR k19_30 k19_o16 := zR rfl
@[simp, simp ↓] theorem k19_31r : rS k19_31 k19_29 k19_30 := zS rfl
@[simp, simp ↓] theorem k19_32r : sT k19_32 k19_o13 k19_31 := yT rfl
@[simp, simp ↓] theorem k19_33r : rC k19_33 (.t 50) k19_32 .skip := zC rfl
@[simp, simp ↓] theorem k19_34r : sR k19_34 k19_o12 k19_33 := yR rfl
@[simp, simp ↓] theorem k19_36r : rR k19_36 k19_o17 := zR rfl
@[simp, simp ↓] theorem k19_37r : sB k19_37 5 k19_34 k19_36 := yB rfl
@[simp, simp ↓] theorem k19_38r : rS k19_38 k19_23 k19_37 := zS rfl
@[simp, simp ↓] theorem k19_39r : rL k19_39 k19_38 := zL rfl
@[simp, simp ↓] theorem k19_40r : rB k19_40 4 k19_39 := zB rfl
@[simp, simp ↓] theorem k19_41r : sR k19_41 k19_o10 k19_40 := yR rfl
@[simp, simp ↓] theorem k19_43r : rR k19_43 k19_o18 := zR rfl
@[simp, simp ↓] theorem k19_44r : sB k19_44 3 k19_41 k19_43 := yB rfl
@[simp, simp ↓] theorem k19_45r : rS k19_45 k19_19 k19_44 := zS rfl
@[simp, simp ↓] theorem k19_46r : rL k19_46 k19_45 := zL rfl
@[simp, simp ↓] theorem k19_47r : rB k19_47 2 k19_46 := zB rfl
@[simp, simp ↓] theorem k19_48r : sR k19_48 k19_o8 k19_47 := yR rfl
@[simp, simp ↓] theorem k19_50r : sR k19_50 k19_o19 .ret := yR rfl
@[simp, simp ↓] theorem k19_51r : rS k19_51 k19_48 k19_50 := zS rfl
@[simp, simp ↓] theorem k19_52r : sR k19_52 k19_o7 k19_51 := yR rfl
@[simp, simp ↓] theorem k19_53r : rS k19_53 k19_14 k19_52 := zS rfl
@[simp, simp ↓] theorem k19_54r : sR k19_54 k19_o2 k19_53 := yR rfl
@[simp, simp ↓] theorem k19_55r : sR k19_55 k19_o1 k19_54 := yR rfl
@[simp, simp ↓] theorem k19_56r : sR k19_56 k19_o0 k19_55 := yR rfl
noncomputable abbrev k19_C : Orc → Cx := mkC Tryz.prog [2, 3, 9, 17] 19 81 [.cell 2 3 true]
theorem k19_of : OfP Tryz.prog Tryz.f19 19 81 k19_C k19_56 := @ofP _ _ _ _ _ _ _ _ Tryz.func19 (by decide +kernel) rfl (by kernel_rfl) rfl (by kernel_rfl)
theorem l23Draw_w (ids : Nat) (code : List UInt8) (h : Heap) (hi : ids ∉ dom h) (hl : code.length ≤ 1048576) :
    ACalls Tryz.prog 19 [.ptr ids 3 0 0] ((ids, ⟨3, [.agg [.snap 1 (code.map bv), .int .i64 0, .int .u64 0]]⟩) :: h)
      (fun v h' => ∃ x : Ph, x.valid ∧ ∃ u hp, v = .agg [.int .i64 x.n, .int .i64 x.m, u] ∧ Grow 3 u (x.ts.map T.av) hp ∧ h' = hp ++ h) := by
  obtain ⟨R, hR⟩ : ∃ R, R = fun (v : AV) (h' : Heap) => ∃ x : Ph, x.valid ∧ ∃ u hp, v = .agg [.int .i64 x.n, .int .i64 x.m, u] ∧ Grow 3 u (x.ts.map T.av) hp ∧ h' = hp ++ h := ⟨_, rfl⟩
  rw [← hR]
  refine k19_of rfl orcC_p fun I => ?_
  refine Run2.of I 1000 ?_
  simp -implicitDefEqProofs
  intro id2 a1 a2
  refine gK.go ?_
  simp -implicitDefEqProofs
  have hpk := pick_w ids code 0 0 6 [(id2, ⟨3, [.agg [.int .i64 0, .int .i64 0, .nilsl]]⟩)] h (by simp [dom]; exact Ne.symm a1) (by omega) (by omega) hl (by omega)
  refine hpk.mono ?_
  clear hpk
  rintro v h' ⟨n0, at1, s1, rfl, hn0, hat1, hs1, rfl⟩
  refine gK.go ?_
  simp -implicitDefEqProofs
  refine ⟨by omega, ?_⟩
  have ham := among_w ids code at1 s1 [2, 3, 12, 24, 360] [(id2, ⟨3, [.agg [.int .i64 0, .int .i64 0, .nilsl]]⟩)] h (by simp [dom]; exact Ne.symm a1) (by omega) hs1 hl (by simp)
  refine ham.mono ?_
  clear ham
  rintro v h' ⟨m, at2, s2, rfl, hm, hat2, hs2, rfl⟩
  have hm : 2 ≤ m ∧ m ≤ 360 := by simp at hm; omega
  obtain ⟨n, hn⟩ : ∃ n : Nat, 1 + n0 = (n : Int) := ⟨(1 + n0).toNat, by omega⟩
  refine gK.go ?_
  simp -implicitDefEqProofs [hn]
  intro id3 b1 b2 b3
  refine gK.go ?_
  simp -implicitDefEqProofs [b1, Ne.symm b1]
  refine Run2.loopE (α := Nat × Int × Int × List Int × AV × Heap) (fun s => [(0, .ptr ids 3 0 0), (2, .ptr id2 3 0 0), (3, .ptr id3 3 0 0), (4, s.2.2.2.2.1), (5, .int .i64 (s.1 : Nat))]) (fun s => s.2.2.2.2.2 ++ (id3, (⟨3, [.agg [.int .i64 n, .int .i64 m, .nilsl]]⟩ : Blk)) :: (id2, (⟨3, [.agg [.int .i64 0, .int .i64 0, .nilsl]]⟩ : Blk)) :: (ids, (⟨3, [.agg [.snap 1 (code.map bv), .int .i64 (s.2.1), .int .u64 (s.2.2.1)]]⟩ : Blk)) :: h) (fun s => n - s.1)
    (fun s => s.1 ≤ n ∧ (0 ≤ s.2.1 ∧ s.2.1 ≤ 10 + 10 * (s.1 : Int)) ∧ (0 ≤ s.2.2.1 ∧ s.2.2.1 < 18446744073709551616) ∧ s.2.2.2.1.length = s.1 ∧ (∀ c ∈ s.2.2.2.1, 0 ≤ c ∧ c < m) ∧ Grow 1 s.2.2.2.2.1 (s.2.2.2.1.map iv) s.2.2.2.2.2 ∧ id2 ∉ dom s.2.2.2.2.2 ∧ id3 ∉ dom s.2.2.2.2.2 ∧ ids ∉ dom s.2.2.2.2.2) (0, at2, s2, [], .emp, []) (by simp) (by simp) ⟨Nat.zero_le _, by simp; omega, hs2, rfl, by simp, .emp, by simp [dom], by simp [dom], by simp [dom]⟩ ?_
  rintro ⟨v, at3, s3, ps, up, gp⟩ ⟨hv, hat3, hs3, hpl, hpr, hgp, e2, e3, es⟩ ih
  simp only at hv hat3 hs3 hpl hpr hgp e2 e3 es ih ⊢
  have hn6 : 1 ≤ n ∧ n ≤ 6 := by omega
  by_cases hlt : v < n
  · have go := fun at' s' ps' u' g' a b c d e f g k => ih (v + 1, at', s', ps', u', g') ⟨by simp; omega, a, b, c, d, e, f, g, k⟩ (by simp; omega)
    clear ih
    refine Run2.of I 1000 ?_
    simp -implicitDefEqProofs [hlt, hget_app e3, hget_app e2, hget_app es, b1, Ne.symm b1]
    have hpk := pick_w ids code at3 s3 m (gp ++ [(id3, (⟨3, [.agg [.int .i64 n, .int .i64 m, .nilsl]]⟩ : Blk)), (id2, (⟨3, [.agg [.int .i64 0, .int .i64 0, .nilsl]]⟩ : Blk))]) h (by simp only [dom, List.map_append, List.map_cons, List.map_nil, List.mem_append, List.mem_cons, List.not_mem_nil, or_false, not_or]; exact ⟨es, Ne.symm b2, Ne.symm a1⟩) (by omega) hs3 hl (by omega)
    simp only [List.append_assoc, List.cons_append, List.nil_append] at hpk
    refine hpk.mono ?_
    clear hpk
    rintro w h' ⟨c, at4, s4, rfl, hc, hat4, hs4, rfl⟩
    refine gK.go ?_
    simp -implicitDefEqProofs
    refine Grow.app_mid (pre := []) hgp (fun j hj => by simp [dom]) (by simp; omega) (by simp) fun w' gp' hgp' hf => ?_
    have q2 : id2 ∉ dom gp' := fun e => hf _ e (by simp [dom])
    have q3 : id3 ∉ dom gp' := fun e => hf _ e (by simp [dom])
    have qs : ids ∉ dom gp' := fun e => hf _ e (by simp [dom])
    simp -implicitDefEqProofs
    refine ⟨by omega, ?_⟩
    have := go at4 s4 (ps ++ [c]) w' gp' (by simp only; omega) hs4 (by simp [hpl]) (fun d hd => by
      rcases List.mem_append.1 hd with hd | hd
      · exact hpr d hd
      · rw [List.mem_singleton] at hd; subst hd; exact hc) (by simpa using hgp') q2 q3 qs
    simpa using this
  · obtain rfl : v = n := by omega
    clear ih
    refine Run2.of I 1000 ?_
    simp -implicitDefEqProofs [hget_app e3, hget_app e2, hget_app es, b1, Ne.symm b1]
    obtain ⟨idp, rfl, rfl⟩ := hgp.ne (fun e => by have := congrArg List.length e; rw [List.length_map, hpl] at this; simp at this; omega)
    simp only [dom, List.map_cons, List.map_nil, List.mem_singleton] at e2 e3 es
    have ham := among_w ids code at3 s3 [2, 6, 100] [(idp, ⟨1, ps.map iv⟩), (id3, (⟨3, [.agg [.int .i64 v, .int .i64 m, .nilsl]]⟩ : Blk)), (id2, (⟨3, [.agg [.int .i64 0, .int .i64 0, .nilsl]]⟩ : Blk))] h (by simp only [dom, List.map_cons, List.map_nil, List.mem_cons, List.not_mem_nil, or_false, not_or]; exact ⟨es, Ne.symm b2, Ne.symm a1⟩) (by omega) hs3 hl (by simp)
    simp only [List.cons_append, List.nil_append] at ham
    refine ham.mono ?_
    clear ham
    rintro w h' ⟨wr, at4, s4, rfl, hw, hat4, hs4, rfl⟩
    have hw : 2 ≤ wr ∧ wr ≤ 100 := by simp at hw; omega
    refine gK.go ?_
    simp -implicitDefEqProofs
    refine Run2.loopE (α := Nat × Int × Int × List T × AV × Heap) (fun s => [(0, .ptr ids 3 0 0), (2, .ptr id2 3 0 0), (3, .ptr id3 3 0 0), (4, .sl idp 1 0 v none), (6, .int .i64 wr), (7, .int .i64 (s.1 : Nat))]) (fun s => s.2.2.2.2.2 ++ (idp, ⟨1, ps.map iv⟩) :: (id3, (⟨3, [.agg [.int .i64 v, .int .i64 m, s.2.2.2.2.1]]⟩ : Blk)) :: (id2, (⟨3, [.agg [.int .i64 0, .int .i64 0, .nilsl]]⟩ : Blk)) :: (ids, (⟨3, [.agg [.snap 1 (code.map bv), .int .i64 (s.2.1), .int .u64 (s.2.2.1)]]⟩ : Blk)) :: h) (fun s => v - s.1)
      (fun s => s.1 ≤ v ∧ (0 ≤ s.2.1 ∧ s.2.1 ≤ 100 + 100 * (s.1 : Int)) ∧ (0 ≤ s.2.2.1 ∧ s.2.2.1 < 18446744073709551616) ∧ Drawn v m s.1 (s.1 + 1) s.2.2.2.1 ∧ s.2.2.2.1.length ≤ bd s.1 ∧ Grow 3 s.2.2.2.2.1 (s.2.2.2.1.map T.av) s.2.2.2.2.2 ∧ idp ∉ dom s.2.2.2.2.2 ∧ id2 ∉ dom s.2.2.2.2.2 ∧ id3 ∉ dom s.2.2.2.2.2 ∧ ids ∉ dom s.2.2.2.2.2) (0, at4, s4, [], .nilsl, []) (by simp [hpl]) (by simp) ⟨Nat.zero_le _, by simp; omega, hs4, ⟨by simp, by simp, by simp⟩, by simp [bd], .nil, by simp [dom], by simp [dom], by simp [dom], by simp [dom]⟩ ?_
    clear hgp hat4 hs4
    rintro ⟨a, at4, s4, ts, ut, gt⟩ ⟨ha, hat4, hs4, hD, hbd, hgt, gp_, g2_, g3_, gs_⟩ ih
    simp only at ha hat4 hs4 hD hbd hgt gp_ g2_ g3_ gs_ ih ⊢
    by_cases hlt : a < v
    · have go := fun at' s' ts' u' g' c1 c2 c3 c4 c5 c6 c7 c8 c9 => ih (a + 1, at', s', ts', u', g') ⟨by simp; omega, c1, c2, c3, c4, c5, c6, c7, c8, c9⟩ (by simp; omega)
      clear ih
      refine Run2.of I 1000 ?_
      simp -implicitDefEqProofs [hlt, hget_app gp_, hget_app g2_, hget_app g3_, hget_app gs_, b1, b2, a1, e2, e3, es, Ne.symm b1, Ne.symm b2, Ne.symm a1, Ne.symm e2, Ne.symm e3, Ne.symm es]
      refine ⟨by omega, ?_⟩
      have hbs := bd_step hlt hn6.2
      have hble := bd_le (a + 1)
      refine Run2.loopE (α := Nat × Int × Int × List T × AV × Heap) (fun s => [(0, .ptr ids 3 0 0), (2, .ptr id2 3 0 0), (3, .ptr id3 3 0 0), (4, .sl idp 1 0 v none), (6, .int .i64 wr), (7, .int .i64 (a : Nat)), (8, .int .i64 (s.1 : Nat))]) (fun s => s.2.2.2.2.2 ++ (idp, ⟨1, ps.map iv⟩) :: (id3, (⟨3, [.agg [.int .i64 v, .int .i64 m, s.2.2.2.2.1]]⟩ : Blk)) :: (id2, (⟨3, [.agg [.int .i64 0, .int .i64 0, .nilsl]]⟩ : Blk)) :: (ids, (⟨3, [.agg [.snap 1 (code.map bv), .int .i64 (s.2.1), .int .u64 (s.2.2.1)]]⟩ : Blk)) :: h) (fun s => v - s.1)
        (fun s => (a + 1 ≤ s.1 ∧ s.1 ≤ v) ∧ (0 ≤ s.2.1 ∧ s.2.1 ≤ 100 + 100 * (a : Int) + 10 * (s.1 : Int)) ∧ (0 ≤ s.2.2.1 ∧ s.2.2.1 < 18446744073709551616) ∧ Drawn v m a s.1 s.2.2.2.1 ∧ s.2.2.2.1.length ≤ bd a + (s.1 - (a + 1)) ∧ Grow 3 s.2.2.2.2.1 (s.2.2.2.1.map T.av) s.2.2.2.2.2 ∧ idp ∉ dom s.2.2.2.2.2 ∧ id2 ∉ dom s.2.2.2.2.2 ∧ id3 ∉ dom s.2.2.2.2.2 ∧ ids ∉ dom s.2.2.2.2.2) (a + 1, at4, s4, ts, ut, gt) (by simp) (by simp) ⟨by simp only; omega, by simp only; omega, hs4, hD, by simpa using hbd, hgt, gp_, g2_, g3_, gs_⟩ ?_
      clear hat4 hs4 hD hbd hgt gp_ g2_ g3_ gs_
      rintro ⟨b, at4, s4, ts, ut, gt⟩ ⟨hb, hat4, hs4, hD, hbd, hgt, gp_, g2_, g3_, gs_⟩ ih
      simp only at hb hat4 hs4 hD hbd hgt gp_ g2_ g3_ gs_ ih ⊢
      by_cases hlb : b < v
      · have go2 := fun at' s' ts' u' g' c1 c2 c3 c4 c5 c6 c7 c8 c9 => ih (b + 1, at', s', ts', u', g') ⟨by simp only; omega, c1, c2, c3, c4, c5, c6, c7, c8, c9⟩ (by simp only; omega)
        clear ih go
        refine Run2.of I 1000 ?_
        simp -implicitDefEqProofs [hlb, hget_app gp_, hget_app g2_, hget_app g3_, hget_app gs_, b1, b2, a1, e2, e3, es, Ne.symm b1, Ne.symm b2, Ne.symm a1, Ne.symm e2, Ne.symm e3, Ne.symm es]
        have hpk := pick_w ids code at4 s4 5 (gt ++ [(idp, ⟨1, ps.map iv⟩), (id3, (⟨3, [.agg [.int .i64 v, .int .i64 m, ut]]⟩ : Blk)), (id2, (⟨3, [.agg [.int .i64 0, .int .i64 0, .nilsl]]⟩ : Blk))]) h (by simp only [dom, List.map_append, List.map_cons, List.map_nil, List.mem_append, List.mem_cons, List.not_mem_nil, or_false, not_or]; exact ⟨gs_, es, Ne.symm b2, Ne.symm a1⟩) (by omega) hs4 hl (by omega)
        simp only [List.append_assoc, List.cons_append, List.nil_append] at hpk
        refine hpk.mono ?_
        clear hpk
        rintro w h' ⟨c, at5, s5, rfl, hc, hat5, hs5, rfl⟩
        have hal : a < ps.length := by omega
        have hbl : b < ps.length := by omega
        have hpa := hpr ps[a] (List.getElem_mem hal)
        have hpb := hpr ps[b] (List.getElem_mem hbl)
        refine gK.go ?_
        by_cases hc3 : c < 3
        · simp -implicitDefEqProofs [hc3, hlt, hlb, hal, hbl, hget_app gp_, hget_app g2_, hget_app g3_, hget_app gs_, b1, b2, a1, e2, e3, es, Ne.symm b1, Ne.symm b2, Ne.symm a1, Ne.symm e2, Ne.symm e3, Ne.symm es]
          refine ⟨by omega, by omega, fun id9 f1 f2 f3 f4 f5 f6 => ?_⟩
          refine gK.go ?_
          simp -implicitDefEqProofs [f1, f2, f3, f4, f5, Ne.symm f2, Ne.symm f3, Ne.symm f4, Ne.symm f5, hget_app gp_, hget_app g2_, hget_app g3_, hget_app gs_]
          have hsr : 0 ≤ (ps[b] - ps[a]) % m ∧ (ps[b] - ps[a]) % m < m := ⟨Int.emod_nonneg _ (by omega), Int.emod_lt_of_pos _ (by omega)⟩
          generalize (ps[b] - ps[a]) % m = sh at hsr
          have hon := one_w ids code at5 s5 wr ((id9, ⟨3, [T.av ⟨a, b, sh⟩]⟩) :: (gt ++ [(idp, ⟨1, ps.map iv⟩), (id3, (⟨3, [.agg [.int .i64 v, .int .i64 m, ut]]⟩ : Blk)), (id2, (⟨3, [.agg [.int .i64 0, .int .i64 0, .nilsl]]⟩ : Blk))])) h (by simp only [dom, List.map_append, List.map_cons, List.map_nil, List.mem_append, List.mem_cons, List.not_mem_nil, or_false, not_or]; exact ⟨Ne.symm f5, gs_, es, Ne.symm b2, Ne.symm a1⟩) (by omega) hs5 hl (by omega)
          simp only [List.append_assoc, List.cons_append, List.nil_append] at hon
          refine hon.mono ?_
          clear hon
          rintro w h' ⟨q, at6, s6, rfl, hat6, hs6, rfl⟩
          refine gK.go ?_
          cases q with
          | false =>
            simp -implicitDefEqProofs [f1, f2, f3, f4, f5, Ne.symm f2, Ne.symm f3, Ne.symm f4, Ne.symm f5, hget_app gp_, hget_app g2_, hget_app g3_, hget_app gs_, b1, b2, a1, e2, e3, es, Ne.symm b1, Ne.symm b2, Ne.symm a1, Ne.symm e2, Ne.symm e3, Ne.symm es]
            refine Grow.app_mid (pre := [(id9, (⟨3, [T.av ⟨a, b, sh⟩]⟩ : Blk))]) hgt (fun j hj => by simp only [dom, List.map_cons, List.map_nil, List.mem_singleton]; rintro rfl; exact f1 hj) (by simp; omega) (by simp) fun w' gt' hgt' hf => ?_
            have k1 : idp ∉ dom gt' := fun e => hf _ e (by simp [dom])
            have k2 : id2 ∉ dom gt' := fun e => hf _ e (by simp [dom])
            have k3 : id3 ∉ dom gt' := fun e => hf _ e (by simp [dom])
            have ks : ids ∉ dom gt' := fun e => hf _ e (by simp [dom])
            have k9 : id9 ∉ dom gt' := fun e => hf _ e (by simp [dom])
            have kc := hgt'.cell
            simp -implicitDefEqProofs [hget_app k1, hget_app k2, hget_app k3, hget_app ks, hget_app k9, hset_app k3, kc, cells_of kc, stor_of kc, f1, f2, f3, f4, f5, b1, b2, a1, e2, e3, es, Ne.symm b1, Ne.symm b2, Ne.symm a1, Ne.symm e2, Ne.symm e3, Ne.symm es, Ne.symm f2, Ne.symm f3, Ne.symm f4, Ne.symm f5]
            refine ⟨by omega, ?_⟩
            refine Run2.sub (h' := gt' ++ (idp, ⟨1, ps.map iv⟩) :: (id3, (⟨3, [.agg [.int .i64 v, .int .i64 m, w']]⟩ : Blk)) :: (id2, (⟨3, [.agg [.int .i64 0, .int .i64 0, .nilsl]]⟩ : Blk)) :: (ids, (⟨3, [.agg [.snap 1 (code.map bv), .int .i64 (at6), .int .u64 (s6)]]⟩ : Blk)) :: h) ?_ ?_ ?_
            · intro p hp
              simp only [List.mem_append, List.mem_cons] at hp ⊢
              rcases hp with hp | hp
              · exact .inl hp
              · exact .inr (.inr hp)
            · intro nd
              rw [dom_app, List.nodup_append] at nd ⊢
              refine ⟨nd.1, ?_, fun x hx y hy => nd.2.2 x hx y (by simp only [dom, List.map_cons, List.mem_cons] at hy ⊢; exact .inr hy)⟩
              have := nd.2.1
              simp only [dom, List.map_cons, List.nodup_cons] at this ⊢
              exact this.2
            have hDp := hD.put (s := sh) (by omega) (by omega) hsr
            have := go2 at6 s6 (ts ++ [⟨a, b, sh⟩]) w' gt' (by simp only; omega) hs6 hDp (by simp; omega) (by simpa using hgt') k1 k2 k3 ks
            simpa using this
          | true =>
            simp -implicitDefEqProofs [f1, f2, f3, f4, f5, Ne.symm f2, Ne.symm f3, Ne.symm f4, Ne.symm f5, hget_app gp_, hget_app g2_, hget_app g3_, hget_app gs_, b1, b2, a1, e2, e3, es, Ne.symm b1, Ne.symm b2, Ne.symm a1, Ne.symm e2, Ne.symm e3, Ne.symm es]
            have hpk := pick_w ids code at6 s6 m ((id9, ⟨3, [T.av ⟨a, b, sh⟩]⟩) :: (gt ++ [(idp, ⟨1, ps.map iv⟩), (id3, (⟨3, [.agg [.int .i64 v, .int .i64 m, ut]]⟩ : Blk)), (id2, (⟨3, [.agg [.int .i64 0, .int .i64 0, .nilsl]]⟩ : Blk))])) h (by simp only [dom, List.map_append, List.map_cons, List.map_nil, List.mem_append, List.mem_cons, List.not_mem_nil, or_false, not_or]; exact ⟨Ne.symm f5, gs_, es, Ne.symm b2, Ne.symm a1⟩) (by omega) hs6 hl (by omega)
            simp only [List.append_assoc, List.cons_append, List.nil_append] at hpk
            refine hpk.mono ?_
            clear hpk
            rintro w h' ⟨s9, at7, s7, rfl, hs9, hat7, hs7, rfl⟩
            refine gK.go ?_
            simp -implicitDefEqProofs [f1, f2, f3, f4, f5, Ne.symm f2, Ne.symm f3, Ne.symm f4, Ne.symm f5, hget_app gp_, hget_app g2_, hget_app g3_, hget_app gs_, b1, b2, a1, e2, e3, es, Ne.symm b1, Ne.symm b2, Ne.symm a1, Ne.symm e2, Ne.symm e3, Ne.symm es]
            refine Grow.app_mid (pre := [(id9, (⟨3, [T.av ⟨a, b, s9⟩]⟩ : Blk))]) hgt (fun j hj => by simp only [dom, List.map_cons, List.map_nil, List.mem_singleton]; rintro rfl; exact f1 hj) (by simp; omega) (by simp) fun w' gt' hgt' hf => ?_
            have k1 : idp ∉ dom gt' := fun e => hf _ e (by simp [dom])
            have k2 : id2 ∉ dom gt' := fun e => hf _ e (by simp [dom])
            have k3 : id3 ∉ dom gt' := fun e => hf _ e (by simp [dom])
            have ks : ids ∉ dom gt' := fun e => hf _ e (by simp [dom])
            have k9 : id9 ∉ dom gt' := fun e => hf _ e (by simp [dom])
            have kc := hgt'.cell
            simp -implicitDefEqProofs [hget_app k1, hget_app k2, hget_app k3, hget_app ks, hget_app k9, hset_app k3, kc, cells_of kc, stor_of kc, f1, f2, f3, f4, f5, b1, b2, a1, e2, e3, es, Ne.symm b1, Ne.symm b2, Ne.symm a1, Ne.symm e2, Ne.symm e3, Ne.symm es, Ne.symm f2, Ne.symm f3, Ne.symm f4, Ne.symm f5]
            refine ⟨by omega, ?_⟩
            refine Run2.sub (h' := gt' ++ (idp, ⟨1, ps.map iv⟩) :: (id3, (⟨3, [.agg [.int .i64 v, .int .i64 m, w']]⟩ : Blk)) :: (id2, (⟨3, [.agg [.int .i64 0, .int .i64 0, .nilsl]]⟩ : Blk)) :: (ids, (⟨3, [.agg [.snap 1 (code.map bv), .int .i64 (at7), .int .u64 (s7)]]⟩ : Blk)) :: h) ?_ ?_ ?_
            · intro p hp
              simp only [List.mem_append, List.mem_cons] at hp ⊢
              rcases hp with hp | hp
              · exact .inl hp
              · exact .inr (.inr hp)
            · intro nd
              rw [dom_app, List.nodup_append] at nd ⊢
              refine ⟨nd.1, ?_, fun x hx y hy => nd.2.2 x hx y (by simp only [dom, List.map_cons, List.mem_cons] at hy ⊢; exact .inr hy)⟩
              have := nd.2.1
              simp only [dom, List.map_cons, List.nodup_cons] at this ⊢
              exact this.2
            have hDp := hD.put (s := s9) (by omega) (by omega) hs9
            have := go2 at7 s7 (ts ++ [⟨a, b, s9⟩]) w' gt' (by simp only; omega) hs7 hDp (by simp; omega) (by simpa using hgt') k1 k2 k3 ks
            simpa using this
        · have := go2 at5 s5 ts ut gt (by simp only; omega) hs5 (hD.skip (.inr ⟨rfl, by simp only; omega⟩)) (by simp only; omega) hgt gp_ g2_ g3_ gs_
          simp -implicitDefEqProofs [hc3]
          exact ⟨by omega, by simpa using this⟩
      · obtain rfl : b = v := by omega
        have := go at4 s4 ts ut gt (by simp only; omega) hs4 (hD.skip (.inl (by simp only; omega))) (by simp only; omega) hgt gp_ g2_ g3_ gs_
        refine Run2.of I 1000 ?_
        simp -implicitDefEqProofs [hget_app gp_, hget_app g2_, hget_app g3_, hget_app gs_, b1, b2, a1, e2, e3, es, Ne.symm b1, Ne.symm b2, Ne.symm a1, Ne.symm e2, Ne.symm e3, Ne.symm es]
        exact ⟨by omega, by simpa using this⟩
    · obtain rfl : a = v := by omega
      clear ih
      refine Run2.of I 1000 ?_
      simp -implicitDefEqProofs [hget_app gp_, hget_app g2_, hget_app g3_, hget_app gs_, b1, b2, a1, e2, e3, es, Ne.symm b1, Ne.symm b2, Ne.symm a1, Ne.symm e2, Ne.symm e3, Ne.symm es, hgt.cell, hset_app g2_]
      refine .dmid gp_ (.dmid g3_ (.dmid g2_ (.dmid gs_ (.base ?_))))
      rw [hR]
      have hv := hD.valid (by omega) hm (by have := bd_le a; omega)
      exact ⟨⟨a, m, ts⟩, hv, ut, gt, rfl, hgt, rfl⟩
abbrev k5_o0 : List AJ := [.o ⟨(some 2), none, false, .alloc true 3 (.agg [(.int .i64 0), (.int .i64 0), .nilsl]), (some [0, 2])⟩]
abbrev k5_o1 : List AJ := [.o ⟨(some 4), none, false, .mv (.t 0), none⟩, .o ⟨(some 5), none, false, .call 18 [(.t 4)], none⟩, .o ⟨(some 3), none, false, .mv (.t 5), (some [2, 3])⟩]
abbrev k5_o2 : List AJ := [.o ⟨(some 6), none, false, .mv (.t 3), none⟩, .o ⟨(some 7), none, false, .call 19 [(.t 6)], none⟩, .o ⟨none, none, false, .store 3 (.t 2) (.t 7), (some [2])⟩]
def k5_3 : ACode := .seq (.region k5_o2) .ret
def k5_4 : ACode := .seq (.region k5_o1) k5_3
def k5_5 : ACode := .seq (.region k5_o0) k5_4
@[simp, simp ↓] theorem k5_3r : sR k5_3 k5_o2 .ret := yR rfl
@[simp, simp ↓] theorem k5_4r : sR k5_4 k5_o1 k5_3 := yR rfl
@[simp, simp ↓] theorem k5_5r : sR k5_5 k5_o0 k5_4 := yR rfl
noncomputable abbrev k5_C : Orc → Cx := mkC Tryz.prog [2] 5 8 [.cell 2 3 true]
theorem k5_of : OfP Tryz.prog Tryz.f5 5 8 k5_C k5_5 := @ofP _ _ _ _ _ _ _ _ Tryz.func5 (by decide +kernel) rfl (by kernel_rfl) rfl (by kernel_rfl)
theorem R8Phases_c (code : List UInt8) (h : Heap) (hl : code.length ≤ 1048576) : ACalls Tryz.prog 5 [.snap 1 (code.map bv)] h (fun v h' => ∃ x : Ph, x.valid ∧ v = x.av ∧ h' = h) := by
  refine k5_of rfl noPure fun I => ?_
  refine Run2.of I 1000 ?_
  simp -implicitDefEqProofs
  intro id hid
  refine (l00From_w code _ hl).mono ?_
  rintro v h' ⟨ids, hi, rfl, rfl⟩
  refine gK.go ?_
  simp -implicitDefEqProofs
  refine (l23Draw_w ids code ((id, ⟨3, [.agg [.int .i64 0, .int .i64 0, .nilsl]]⟩) :: h) hi hl).monoN ?_
  rintro v h' ⟨x, hv, u, hp, rfl, hg, rfl⟩ nd
  have hc := hg.cell
  have hip : id ∉ dom hp := fun hm => by
    rw [dom_app, List.nodup_append] at nd
    exact nd.2.2 id hm id (by simp [dom]) rfl
  refine gK.go ?_
  simp -implicitDefEqProofs [hc, hget_app hip, hset_app hip]
  refine .dmid hip ?_
  exact Grow.froze hg (fun u => .agg [.int .i64 x.n, .int .i64 x.m, u]) (fun id b u => by simp [fz]) (fun _ _ h => .agg (.cons (.refl _) (.cons (.refl _) (.cons h .nil)))) (.base ⟨x, hv, rfl, rfl⟩)
end Go.AG.P
namespace Go.AG.P
open Go.Proofs Go.Proofs.YtgofekmoimjcmaaGreatDoor
set_option linter.unusedSimpArgs false
set_option linter.unusedVariables false
set_option maxRecDepth 4000
abbrev k6_o0 : List AJ := [.o ⟨(some 6), none, false, .mv (.c .nilsl), (some [0, 1, 2])⟩]
abbrev k6_o1 : List AJ := [.o ⟨(some 10), none, false, .mv (.t 0), none⟩, .o ⟨(some 11), none, false, .call 18 [(.t 10)], none⟩, .o ⟨(some 7), none, false, .mv (.t 11), (some [1, 2, 7])⟩]
abbrev k6_o2 : List AJ := [.e 12 1 none, .o ⟨(some 8), none, false, .mv (.t 12), (some [1, 2, 7, 8])⟩]
abbrev k6_o3 : List AJ := [.o ⟨(some 9), none, false, .mv (.c (.int .i64 0)), (some [1, 2, 7, 8, 9])⟩]
abbrev k6_o4 : List AJ := [.o ⟨(some 13), none, false, .mv (.t 9), none⟩, .o ⟨(some 14), none, false, .mv (.t 1), none⟩, .o ⟨(some 15), none, false, .bin .lss (.t 13) (.t 14), (some [1, 2, 7, 8, 9, 15])⟩]
def k6_5 : ACode := .cond (.t 15) .skip (.exit 0)
def k6_6 : ACode := .seq (.region k6_o4) k6_5
abbrev k6_o5 : List AJ := [.o ⟨(some 18), none, false, .mv (.t 8), none⟩, .o ⟨(some 19), none, false, .mv (.t 7), none⟩, .o ⟨(some 20), none, false, .mv (.t 2), none⟩, .o ⟨(some 21), none, false, .call 20 [(.t 19), (.t 20)], none⟩, .o ⟨(some 22), none, false, .bsl false 1 [(.t 21)], none⟩, .o ⟨(some 23), none, false, .append 1 8 (.t 18) (.t 22), none⟩, .o ⟨(some 8), none, false, .mv (.t 23), (some [1, 2, 7, 8, 9])⟩]
def k6_7 : ACode := .region k6_o5
abbrev k6_o6 : List AJ := [.o ⟨(some 16), none, false, .mv (.t 9), none⟩, .o ⟨(some 17), none, true, .bin .add (.t 16) (.c (.int .i64 1)), none⟩, .o ⟨(some 9), none, false, .mv (.t 17), (some [1, 2, 7, 8, 9])⟩]
def k6_9 : ACode := .region k6_o6
def k6_10 : ACode := .seq (.block 1 k6_7) k6_9
def k6_11 : ACode := .seq k6_6 k6_10
def k6_12 : ACode := .loop k6_11
def k6_13 : ACode := .block 0 k6_12
def k6_14 : ACode := .seq (.region k6_o3) k6_13
abbrev k6_o7 : List AJ := [.o ⟨(some 24), none, false, .mv (.t 8), none⟩, .o ⟨(some 6), none, false, .mv (.t 24), (some [6])⟩]
def k6_16 : ACode := .seq (.region k6_o7) .ret
def k6_17 : ACode := .seq k6_14 k6_16
def k6_18 : ACode := .seq (.region k6_o2) k6_17
def k6_19 : ACode := .seq (.region k6_o1) k6_18
def k6_20 : ACode := .seq (.region k6_o0) k6_19
@[simp, simp ↓] theorem k6_5r : rC k6_5 (.t 15) .skip (.exit 0) := zC rfl
@[simp, simp ↓] theorem k6_6r : sR k6_6 k6_o4 k6_5 := yR rfl
@[simp, simp ↓] theorem k6_7r : rR k6_7 k6_o5 := zR rfl
@[simp, simp ↓] theorem k6_9r : rR k6_9 k6_o6 := zR rfl
@[simp, simp ↓] theorem k6_10r : sB k6_10 1 k6_7 k6_9 := yB rfl
@[simp, simp ↓] theorem k6_11r : rS k6_11 k6_6 k6_10 := zS rfl
@[simp, simp ↓] theorem k6_12r : rL k6_12 k6_11 := zL rfl
@[simp, simp ↓] theorem k6_13r : rB k6_13 0 k6_12 := zB rfl
@[simp, simp ↓] theorem k6_14r : sR k6_14 k6_o3 k6_13 := yR rfl
@[simp, simp ↓] theorem k6_16r : sR k6_16 k6_o7 .ret := yR rfl
@[simp, simp ↓] theorem k6_17r : rS k6_17 k6_14 k6_16 := zS rfl
@[simp, simp ↓] theorem k6_18r : sR k6_18 k6_o2 k6_17 := yR rfl
@[simp, simp ↓] theorem k6_19r : sR k6_19 k6_o1 k6_18 := yR rfl
@[simp, simp ↓] theorem k6_20r : sR k6_20 k6_o0 k6_19 := yR rfl
noncomputable abbrev k6_C : Orc → Cx := mkC Tryz.prog [12] 6 25 [.tmp 6]
theorem k6_of : OfP Tryz.prog Tryz.f6 6 25 k6_C k6_20 := @ofP _ _ _ _ _ _ _ _ Tryz.func6 (by decide +kernel) rfl (by kernel_rfl) rfl (by kernel_rfl)
theorem R8List_c (code : List UInt8) (n p : Int) (h : Heap) (hl : code.length ≤ 1048576) (hn : 1 ≤ n ∧ n ≤ 1000) (hp : 1 ≤ p ∧ p ≤ 1000) : ACalls Tryz.prog 6 [.snap 1 (code.map bv), .int .i64 n, .int .i64 p] h (fun v h' => ∃ l : List Int, vec l n p ∧ v = .snap 1 (l.map iv) ∧ h' = h) := by
  obtain ⟨N, hN⟩ : ∃ N : Nat, n = (N : Int) := ⟨n.toNat, by omega⟩
  subst hN
  refine k6_of rfl noPure fun I => ?_
  refine Run2.of I 1000 ?_
  simp -implicitDefEqProofs
  refine (l00From_w code _ hl).mono ?_
  rintro v h' ⟨ids, hi, rfl, rfl⟩
  refine gK.go ?_
  simp -implicitDefEqProofs
  refine Run2.loopE (α := Nat × Int × Int × List Int × AV × Heap) (fun s => [(1, .int .i64 N), (2, .int .i64 p), (7, .ptr ids 3 0 0), (8, s.2.2.2.2.1), (9, .int .i64 (s.1 : Nat))]) (fun s => s.2.2.2.2.2 ++ (ids, ⟨3, [.agg [.snap 1 (code.map bv), .int .i64 s.2.1, .int .u64 s.2.2.1]]⟩) :: h) (fun s => N - s.1)
    (fun s => s.1 ≤ N ∧ (0 ≤ s.2.1 ∧ s.2.1 ≤ 10 * (s.1 : Int)) ∧ (0 ≤ s.2.2.1 ∧ s.2.2.1 < 18446744073709551616) ∧ s.2.2.2.1.length = s.1 ∧ (∀ c ∈ s.2.2.2.1, 0 ≤ c ∧ c < p) ∧ Grow 1 s.2.2.2.2.1 (s.2.2.2.1.map iv) s.2.2.2.2.2 ∧ ids ∉ dom s.2.2.2.2.2) (0, 0, 0, [], .emp, []) (by simp) (by simp) ⟨Nat.zero_le _, by simp, by simp, rfl, by simp, .emp, by simp [dom]⟩ ?_
  rintro ⟨v, at3, s3, ps, up, gp⟩ ⟨hv, hat3, hs3, hpl, hpr, hgp, es⟩ ih
  simp only at hv hat3 hs3 hpl hpr hgp es ih ⊢
  by_cases hlt : v < N
  · have go := fun at' s' ps' u' g' a b c d e f => ih (v + 1, at', s', ps', u', g') ⟨by simp; omega, a, b, c, d, e, f⟩ (by simp; omega)
    clear ih
    refine Run2.of I 1000 ?_
    simp -implicitDefEqProofs [hlt]
    refine (pick_w ids code at3 s3 p gp h es (by omega) hs3 hl (by omega)).mono ?_
    rintro w h' ⟨c, at4, s4, rfl, hc, hat4, hs4, rfl⟩
    refine gK.go ?_
    simp -implicitDefEqProofs
    refine Grow.app_mid (pre := []) hgp (fun j hj => by simp [dom]) (by simp; omega) (by simp) fun w' gp' hgp' hf => ?_
    have qs : ids ∉ dom gp' := fun e => hf _ e (by simp [dom])
    simp -implicitDefEqProofs
    refine ⟨by omega, ?_⟩
    have := go at4 s4 (ps ++ [c]) w' gp' (by simp only; omega) hs4 (by simp [hpl]) (fun d hd => by
      rcases List.mem_append.1 hd with hd | hd
      · exact hpr d hd
      · rw [List.mem_singleton] at hd; subst hd; exact hc) (by simpa using hgp') qs
    simpa using this
  · obtain rfl : v = N := by omega
    clear ih
    refine Run2.of I 1000 ?_
    simp -implicitDefEqProofs
    refine .dmid es ?_
    exact Grow.froze hgp (fun u => u) (fun _ _ _ => rfl) (fun _ _ h => h) (.base ⟨ps, ⟨by omega, hpr⟩, rfl, rfl⟩)
/-- The number below n that a byte chooses. -/
def r8v (code : List UInt8) (k n : Int) : Int := if n ≤ 1 ∨ (code.length : Int) ≤ k then 0 else ((code.getD k.toNat 0).toNat : Int) % n
theorem r8v_rng (code : List UInt8) (k n : Int) (hn : 1 ≤ n) : 0 ≤ r8v code k n ∧ r8v code k n < n := by
  unfold r8v
  split
  · omega
  · exact ⟨Int.emod_nonneg _ (by omega), Int.emod_lt_of_pos _ (by omega)⟩
abbrev k16_o0 : List AJ := [.o ⟨(some 6), none, false, .mv (.c (.int .i64 0)), (some [0, 1, 2])⟩]
abbrev k16_o1 : List AJ := [.o ⟨(some 7), none, false, .mv (.t 2), none⟩, .o ⟨(some 8), none, false, .bin .leq (.t 7) (.c (.int .i64 1)), none⟩, .o ⟨(some 9), none, false, .mv (.t 8), none⟩, .o ⟨(some 10), (some (9, false)), false, .mv (.t 1), none⟩, .o ⟨(some 11), (some (9, false)), false, .mv (.t 0), none⟩, .o ⟨(some 12), (some (9, false)), false, .len (.t 11), none⟩, .o ⟨(some 13), (some (9, false)), false, .bin .geq (.t 10) (.t 12), none⟩, .o ⟨(some 14), none, false, .pick (.t 9) (.c (.bool true)) (.t 13), (some [0, 1, 2, 14])⟩]
abbrev k16_o2 : List AJ := [.o ⟨(some 6), none, false, .mv (.c (.int .i64 0)), (some [6])⟩]
def k16_3 : ACode := .seq (.region k16_o2) .ret
def k16_4 : ACode := .cond (.t 14) k16_3 .skip
def k16_5 : ACode := .seq (.region k16_o1) k16_4
abbrev k16_o3 : List AJ := [.o ⟨(some 15), none, false, .mv (.t 0), none⟩, .o ⟨(some 16), none, false, .mv (.t 1), none⟩, .o ⟨(some 17), none, false, .idxA 1 (.t 15) (.t 16), none⟩, .o ⟨(some 18), none, false, .load 1 false (.t 17), none⟩, .o ⟨(some 19), none, true, .conv .i64 (.t 18), none⟩, .o ⟨(some 20), none, false, .mv (.t 2), none⟩, .o ⟨(some 21), none, false, .bin .rem (.t 19) (.t 20), none⟩, .o ⟨(some 6), none, false, .mv (.t 21), (some [6])⟩]
def k16_7 : ACode := .seq (.region k16_o3) .ret
def k16_8 : ACode := .seq k16_5 k16_7
def k16_9 : ACode := .seq (.region k16_o0) k16_8
@[simp, simp ↓] theorem k16_3r : sR k16_3 k16_o2 .ret := yR rfl
@[simp, simp ↓] theorem k16_4r : rC k16_4 (.t 14) k16_3 .skip := zC rfl
@[simp, simp ↓] theorem k16_5r : sR k16_5 k16_o1 k16_4 := yR rfl
@[simp, simp ↓] theorem k16_7r : sR k16_7 k16_o3 .ret := yR rfl
@[simp, simp ↓] theorem k16_8r : rS k16_8 k16_5 k16_7 := zS rfl
@[simp, simp ↓] theorem k16_9r : sR k16_9 k16_o0 k16_8 := yR rfl
noncomputable abbrev k16_C : Orc → Cx := mkC Tryz.prog [] 16 22 [.tmp 6]
theorem k16_of0 : OfP0 Tryz.prog Tryz.f16 16 22 k16_C k16_9 := @ofP0 _ _ _ _ _ _ _ _ Tryz.func16 (by decide +kernel) rfl (by kernel_rfl) rfl (by kernel_rfl)
theorem r8At_c (code : List UInt8) (k n : Int) (h : Heap) (hl : code.length ≤ 1048576) (hk : 0 ≤ k ∧ k ≤ 1000) (hn : 1 ≤ n ∧ n ≤ 1000) : ACalls Tryz.prog 16 [.snap 1 (code.map bv), .int .i64 k, .int .i64 n] h (fun v h' => v = .int .i64 (r8v code k n) ∧ h' = h) := by
  obtain ⟨j, rfl⟩ : ∃ j : Nat, k = (j : Int) := ⟨k.toNat, by omega⟩
  refine k16_of0 rfl noPure fun I => ?_
  by_cases hc : n ≤ 1 ∨ (code.length : Int) ≤ (j : Int)
  · have e : r8v code j n = 0 := if_pos hc
    by_cases h1 : n ≤ 1
    · refine Run2.of I 1000 ?_
      simp -implicitDefEqProofs [h1, e]
    · have h2 : (code.length : Int) ≤ (j : Int) := by omega
      refine Run2.of I 1000 ?_
      simp -implicitDefEqProofs [h1, h2, e]
  · have hj : j < code.length := by omega
    have e : r8v code j n = ((code[j].toNat : Nat) : Int) % n := by
      unfold r8v
      rw [if_neg hc]
      simp [hj]
    have h1 : ¬ n ≤ 1 := by omega
    have h2 : ¬ (code.length : Int) ≤ (j : Int) := by omega
    have hb := bv_rng code[j]
    have ht : ((code[j].toNat : Nat) : Int).tmod n = ((code[j].toNat : Nat) : Int) % n := Int.tmod_eq_emod_of_nonneg hb.1
    refine Run2.of I 1000 ?_
    simp -implicitDefEqProofs [h1, h2, hj, bv, e, ht]
    omega
noncomputable def o_r8At : List AV → Option (Prop × AV) := tab (fun (x : List UInt8 × Int × Int) => match x with | (code, k, n) => [.snap 1 (code.map bv), .int .i64 k, .int .i64 n]) (fun x => match x with | (code, k, n) => (code.length ≤ 1048576 ∧ (0 ≤ k ∧ k ≤ 1000) ∧ (1 ≤ n ∧ n ≤ 1000))) (fun x => match x with | (code, k, n) => .int .i64 (r8v code k n))
@[simp] theorem o_r8At_e (code : List UInt8) (k : Int) (n : Int) : o_r8At [.snap 1 (code.map bv), .int .i64 k, .int .i64 n] = some ((code.length ≤ 1048576 ∧ (0 ≤ k ∧ k ≤ 1000) ∧ (1 ≤ n ∧ n ≤ 1000)), .int .i64 (r8v code k n)) := tab_at (enc := fun (x : List UInt8 × Int × Int) => match x with | (code, k, n) => [.snap 1 (code.map bv), .int .i64 k, .int .i64 n]) (fun x y h => by
  obtain ⟨code1, k1, n1⟩ := x; obtain ⟨code2, k2, n2⟩ := y; simp at h; simp [h] <;> omega) _ _ (code, k, n)
theorem o_r8At_k : Knows Tryz.prog 16 o_r8At := tab_knows fun x hx h => by
  obtain ⟨code, k, n⟩ := x; exact r8At_c code k n h hx.1 hx.2.1 hx.2.2
end Go.AG.P
