/- What ValidPhases and its counterpart of the reference ask of phases. No statement is made here. -/
import Derived.Test.YtdjamhallkijmaaPhV
namespace Go.AG
open Go.Proofs Go.Proofs.Ytdjamhallkijmaa
set_option linter.unusedSimpArgs false
set_option linter.unusedVariables false
set_option maxRecDepth 4000
noncomputable def orc2 : List (Nat × (List AV → Option (Prop × AV))) := (56, o_isElement) :: (58, o_compare) :: (57, o_or2) :: orc1
theorem orc2_p : Pure Try.prog (lk orc2) := (lk_pure o_isElement_k (lk_pure o_compare_k (lk_pure o_or2_k orc1_p)))
@[simp] theorem orc2_l (b : Bool) (g : FuncId) (l : List AV) : lk orc2 b g l = if g = 56 then o_isElement l else if g = 58 then o_compare l else if g = 57 then o_or2 l else lk orc1 b g l := nr rfl
theorem orI2 (a b c d : Int) : (0 ≤ orI [cmpI a b, cmpI c d]) ↔ ¬ (a < b ∨ a = b ∧ c < d) := by
  simp only [orI, cmpI]
  grind
theorem orI2' (a b c d : Int) : (orI [cmpI a b, cmpI c d] < 0) ↔ (a < b ∨ a = b ∧ c < d) := by
  simp only [orI, cmpI]
  grind
/-- One edge is as it must be. -/
def Ph.el (x : Ph) (t : T) : Prop := 0 ≤ t.f ∧ t.f < t.t ∧ t.t < x.n ∧ 0 ≤ t.s ∧ t.s < x.m
def T.lt (a b : T) : Prop := a.f < b.f ∨ a.f = b.f ∧ a.t < b.t
/-- The first i edges are as they must be, in order. -/
def Ph.good (x : Ph) (i : Nat) : Prop := ∀ j, (hj : j < x.ts.length) → j < i → x.el x.ts[j] ∧ (0 < j → (x.ts[j - 1]).lt x.ts[j])
def Ph.valid (x : Ph) : Prop := 1 ≤ x.n ∧ x.n ≤ 12 ∧ 2 ≤ x.m ∧ x.m ≤ 360 ∧ x.good x.ts.length ∧ x.ts.length ≤ 24
noncomputable instance (x : Ph) : Decidable x.valid := Classical.propDecidable _
theorem Ph.good_succ {x : Ph} {i : Nat} (hi : i < x.ts.length) : x.good (i + 1) ↔ x.good i ∧ x.el x.ts[i] ∧ (0 < i → (x.ts[i - 1]).lt x.ts[i]) := by
  constructor
  · intro h
    exact ⟨fun j hj hji => h j hj (by omega), h i hi (by omega)⟩
  · rintro ⟨h1, h2⟩ j hj hji
    rcases Nat.lt_or_ge j i with h | h
    · exact h1 j hj h
    · obtain rfl : j = i := by omega
      exact h2
theorem Ph.good_mono {x : Ph} {i j : Nat} (h : x.good j) (hij : i ≤ j) : x.good i := fun k hk hki => h k hk (by omega)
theorem Ph.not_valid {x : Ph} {i : Nat} (hi : i < x.ts.length) (h : ¬ (x.el x.ts[i] ∧ (0 < i → (x.ts[i - 1]).lt x.ts[i]))) : ¬ x.valid := fun hv =>
  h ((Ph.good_succ hi).1 (Ph.good_mono hv.2.2.2.2.1 (by omega))).2
abbrev k40_o0 : List AJ := [.o ⟨(some 2), none, false, .mv (.c (.bool false)), (some [0])⟩]
abbrev k40_o1 : List AJ := [.o ⟨(some 5), none, false, .mv (.t 0), none⟩, .o ⟨(some 6), none, false, .nilchk (.t 5), none⟩, .o ⟨(some 7), none, false, .fieldA 0 (.t 6), none⟩, .o ⟨(some 8), none, false, .load 1 false (.t 7), none⟩, .o ⟨(some 9), none, false, .call 41 [(.t 8), (.c (.int .i64 1)), (.c (.int .i64 12))], none⟩, .o ⟨(some 10), none, false, .un .not (.t 9), none⟩, .o ⟨(some 11), none, false, .mv (.t 10), none⟩, .o ⟨(some 12), (some (11, false)), false, .mv (.t 0), none⟩, .o ⟨(some 13), (some (11, false)), false, .nilchk (.t 12), none⟩, .o ⟨(some 14), (some (11, false)), false, .fieldA 1 (.t 13), none⟩, .o ⟨(some 15), (some (11, false)), false, .load 1 false (.t 14), (some [0, 11, 15])⟩, .o ⟨(some 16), (some (11, false)), false, .call 41 [(.t 15), (.c (.int .i64 2)), (.c (.int .i64 360))], none⟩, .o ⟨(some 17), (some (11, false)), false, .un .not (.t 16), none⟩, .o ⟨(some 18), none, false, .pick (.t 11) (.c (.bool true)) (.t 17), (some [0, 18])⟩]
abbrev k40_o2 : List AJ := [.o ⟨(some 2), none, false, .mv (.c (.bool false)), (some [2])⟩]
def k40_3 : ACode := .seq (.region k40_o2) .ret
def k40_4 : ACode := .cond (.t 18) k40_3 .skip
def k40_5 : ACode := .seq (.region k40_o1) k40_4
abbrev k40_o3 : List AJ := [.o ⟨(some 3), none, false, .mv (.c (.int .i64 0)), (some [0, 3])⟩]
abbrev k40_o4 : List AJ := [.o ⟨(some 19), none, false, .mv (.t 3), none⟩, .o ⟨(some 20), none, false, .mv (.t 0), none⟩, .o ⟨(some 21), none, false, .nilchk (.t 20), none⟩, .o ⟨(some 22), none, false, .fieldA 2 (.t 21), none⟩, .o ⟨(some 23), none, false, .load 1 false (.t 22), none⟩, .o ⟨(some 24), none, false, .len (.t 23), none⟩, .o ⟨(some 25), none, false, .bin .lss (.t 19) (.t 24), (some [0, 3, 25])⟩]
def k40_8 : ACode := .cond (.t 25) .skip (.exit 0)
def k40_9 : ACode := .seq (.region k40_o4) k40_8
abbrev k40_o5 : List AJ := [.o ⟨(some 28), none, false, .mv (.t 0), none⟩, .o ⟨(some 29), none, false, .nilchk (.t 28), none⟩, .o ⟨(some 30), none, false, .fieldA 2 (.t 29), none⟩, .o ⟨(some 31), none, false, .load 1 false (.t 30), none⟩, .o ⟨(some 32), none, false, .mv (.t 3), none⟩, .o ⟨(some 33), none, false, .idxA 3 (.t 31) (.t 32), none⟩, .o ⟨(some 34), none, false, .load 3 true (.t 33), none⟩, .v 4 3 (.agg [(.int .i64 0), (.int .i64 0), (.int .i64 0)]) [] (.t 34) (some [0, 3, 4])]
abbrev k40_o6 : List AI := [⟨(some 35), none, false, .fieldA 0 (.t 4), none⟩, ⟨(some 36), none, false, .load 1 false (.t 35), none⟩, ⟨(some 37), none, false, .mv (.t 0), none⟩, ⟨(some 38), none, false, .nilchk (.t 37), none⟩, ⟨(some 39), none, false, .fieldA 0 (.t 38), none⟩, ⟨(some 40), none, false, .load 1 false (.t 39), none⟩, ⟨(some 41), none, true, .bin .sub (.t 40) (.c (.int .i64 1)), none⟩, ⟨(some 42), none, false, .call 41 [(.t 36), (.c (.int .i64 0)), (.t 41)], none⟩, ⟨(some 43), none, false, .un .not (.t 42), none⟩, ⟨(some 44), none, false, .mv (.t 43), none⟩, ⟨(some 45), (some (44, false)), false, .fieldA 1 (.t 4), none⟩, ⟨(some 46), (some (44, false)), false, .load 1 false (.t 45), (some [0, 3, 4, 44, 46])⟩, ⟨(some 47), (some (44, false)), false, .fieldA 0 (.t 4), none⟩, ⟨(some 48), (some (44, false)), false, .load 1 false (.t 47), none⟩, ⟨(some 49), (some (44, false)), true, .bin .add (.t 48) (.c (.int .i64 1)), none⟩, ⟨(some 50), (some (44, false)), false, .mv (.t 0), none⟩, ⟨(some 51), (some (44, false)), false, .nilchk (.t 50), none⟩, ⟨(some 52), (some (44, false)), false, .fieldA 0 (.t 51), none⟩, ⟨(some 53), (some (44, false)), false, .load 1 false (.t 52), (some [0, 3, 4, 44, 46, 49, 53])⟩, ⟨(some 54), (some (44, false)), true, .bin .sub (.t 53) (.c (.int .i64 1)), none⟩, ⟨(some 55), (some (44, false)), false, .call 41 [(.t 46), (.t 49), (.t 54)], none⟩, ⟨(some 56), (some (44, false)), false, .un .not (.t 55), none⟩, ⟨(some 57), none, false, .pick (.t 44) (.c (.bool true)) (.t 56), none⟩, ⟨(some 58), none, false, .mv (.t 57), none⟩, ⟨(some 59), (some (58, false)), false, .fieldA 2 (.t 4), none⟩, ⟨(some 60), (some (58, false)), false, .load 1 false (.t 59), none⟩, ⟨(some 61), (some (58, false)), false, .mv (.t 0), (some [0, 3, 4, 58, 60, 61])⟩, ⟨(some 62), (some (58, false)), false, .nilchk (.t 61), none⟩, ⟨(some 63), (some (58, false)), false, .fieldA 1 (.t 62), none⟩, ⟨(some 64), (some (58, false)), false, .load 1 false (.t 63), none⟩, ⟨(some 65), (some (58, false)), true, .bin .sub (.t 64) (.c (.int .i64 1)), none⟩, ⟨(some 66), (some (58, false)), false, .call 41 [(.t 60), (.c (.int .i64 0)), (.t 65)], none⟩, ⟨(some 67), (some (58, false)), false, .un .not (.t 66), none⟩, ⟨(some 68), none, false, .pick (.t 58) (.c (.bool true)) (.t 67), (some [0, 3, 4, 68])⟩]
abbrev k40_o7 : List AJ := [.o ⟨(some 2), none, false, .mv (.c (.bool false)), (some [2])⟩]
def k40_13 : ACode := .seq (.region k40_o7) .ret
def k40_14 : ACode := .cond (.t 68) k40_13 .skip
def k40_15 : ACode := .seq (.draw k40_o6 [] rfl) k40_14
abbrev k40_o8 : List AI := [⟨(some 69), none, false, .mv (.t 3), none⟩, ⟨(some 70), none, false, .bin .gtr (.t 69) (.c (.int .i64 0)), none⟩, ⟨(some 71), none, false, .mv (.t 70), none⟩, ⟨(some 72), (some (71, true)), false, .mv (.t 0), none⟩, ⟨(some 73), (some (71, true)), false, .nilchk (.t 72), none⟩, ⟨(some 74), (some (71, true)), false, .fieldA 2 (.t 73), none⟩, ⟨(some 75), (some (71, true)), false, .load 1 false (.t 74), none⟩, ⟨(some 76), (some (71, true)), false, .mv (.t 3), none⟩, ⟨(some 77), (some (71, true)), true, .bin .sub (.t 76) (.c (.int .i64 1)), (some [0, 3, 4, 71, 75, 77])⟩, ⟨(some 78), (some (71, true)), false, .idxA 3 (.t 75) (.t 77), none⟩, ⟨(some 79), (some (71, true)), false, .fieldA 0 (.t 78), none⟩, ⟨(some 80), (some (71, true)), false, .load 1 false (.t 79), none⟩, ⟨(some 81), (some (71, true)), false, .fieldA 0 (.t 4), none⟩, ⟨(some 82), (some (71, true)), false, .load 1 false (.t 81), none⟩, ⟨(some 83), (some (71, true)), false, .bin .gtr (.t 80) (.t 82), none⟩, ⟨(some 84), (some (71, true)), false, .mv (.t 83), (some [0, 3, 4, 71, 84])⟩, ⟨(some 85), (some (84, false)), false, .mv (.t 0), none⟩, ⟨(some 86), (some (84, false)), false, .nilchk (.t 85), none⟩, ⟨(some 87), (some (84, false)), false, .fieldA 2 (.t 86), none⟩, ⟨(some 88), (some (84, false)), false, .load 1 false (.t 87), none⟩, ⟨(some 89), (some (84, false)), false, .mv (.t 3), none⟩, ⟨(some 90), (some (84, false)), true, .bin .sub (.t 89) (.c (.int .i64 1)), none⟩, ⟨(some 91), (some (84, false)), false, .idxA 3 (.t 88) (.t 90), (some [0, 3, 4, 71, 84, 91])⟩, ⟨(some 92), (some (84, false)), false, .fieldA 0 (.t 91), none⟩, ⟨(some 93), (some (84, false)), false, .load 1 false (.t 92), none⟩, ⟨(some 94), (some (84, false)), false, .fieldA 0 (.t 4), none⟩, ⟨(some 95), (some (84, false)), false, .load 1 false (.t 94), none⟩, ⟨(some 96), (some (84, false)), false, .bin .eql (.t 93) (.t 95), none⟩, ⟨(some 97), (some (84, false)), false, .mv (.t 96), none⟩, ⟨(some 98), (some (97, true)), false, .mv (.t 0), (some [0, 3, 4, 71, 84, 97, 98])⟩, ⟨(some 99), (some (97, true)), false, .nilchk (.t 98), none⟩, ⟨(some 100), (some (97, true)), false, .fieldA 2 (.t 99), none⟩, ⟨(some 101), (some (97, true)), false, .load 1 false (.t 100), none⟩, ⟨(some 102), (some (97, true)), false, .mv (.t 3), none⟩, ⟨(some 103), (some (97, true)), true, .bin .sub (.t 102) (.c (.int .i64 1)), none⟩, ⟨(some 104), (some (97, true)), false, .idxA 3 (.t 101) (.t 103), none⟩, ⟨(some 105), (some (97, true)), false, .fieldA 1 (.t 104), (some [0, 3, 4, 71, 84, 97, 105])⟩, ⟨(some 106), (some (97, true)), false, .load 1 false (.t 105), none⟩, ⟨(some 107), (some (97, true)), false, .fieldA 1 (.t 4), none⟩, ⟨(some 108), (some (97, true)), false, .load 1 false (.t 107), none⟩, ⟨(some 109), (some (97, true)), false, .bin .geq (.t 106) (.t 108), none⟩, ⟨(some 110), (some (84, false)), false, .pick (.t 97) (.t 109) (.c (.bool false)), none⟩, ⟨(some 111), (some (71, true)), false, .pick (.t 84) (.c (.bool true)) (.t 110), none⟩, ⟨(some 112), none, false, .pick (.t 71) (.t 111) (.c (.bool false)), (some [0, 3, 112])⟩]
abbrev k40_o9 : List AJ := [.o ⟨(some 2), none, false, .mv (.c (.bool false)), (some [2])⟩]
def k40_18 : ACode := .seq (.region k40_o9) .ret
def k40_19 : ACode := .cond (.t 112) k40_18 .skip
def k40_20 : ACode := .seq (.draw k40_o8 [] rfl) k40_19
def k40_21 : ACode := .seq k40_15 k40_20
def k40_22 : ACode := .seq (.region k40_o5) k40_21
abbrev k40_o10 : List AJ := [.o ⟨(some 26), none, false, .mv (.t 3), none⟩, .o ⟨(some 27), none, true, .bin .add (.t 26) (.c (.int .i64 1)), none⟩, .o ⟨(some 3), none, false, .mv (.t 27), (some [0, 3])⟩]
def k40_24 : ACode := .region k40_o10
def k40_25 : ACode := .seq (.block 1 k40_22) k40_24
def k40_26 : ACode := .seq k40_9 k40_25
def k40_27 : ACode := .loop k40_26
def k40_28 : ACode := .block 0 k40_27
def k40_29 : ACode := .seq (.region k40_o3) k40_28
abbrev k40_o11 : List AJ := [.o ⟨(some 113), none, false, .mv (.t 0), none⟩, .o ⟨(some 114), none, false, .nilchk (.t 113), none⟩, .o ⟨(some 115), none, false, .fieldA 2 (.t 114), none⟩, .o ⟨(some 116), none, false, .load 1 false (.t 115), none⟩, .o ⟨(some 117), none, false, .len (.t 116), none⟩, .o ⟨(some 118), none, false, .bin .leq (.t 117) (.c (.int .i64 24)), none⟩, .o ⟨(some 2), none, false, .mv (.t 118), (some [2])⟩]
def k40_31 : ACode := .seq (.region k40_o11) .ret
def k40_32 : ACode := .seq k40_29 k40_31
def k40_33 : ACode := .seq k40_5 k40_32
def k40_34 : ACode := .seq (.region k40_o0) k40_33
@[simp, simp ↓] theorem k40_3r : sR k40_3 k40_o2 .ret := yR rfl
@[simp, simp ↓] theorem k40_4r : rC k40_4 (.t 18) k40_3 .skip := zC rfl
@[simp, simp ↓] theorem k40_5r : sR k40_5 k40_o1 k40_4 := yR rfl
@[simp, simp ↓] theorem k40_8r : rC k40_8 (.t 25) .skip (.exit 0) := zC rfl
@[simp, simp ↓] theorem k40_9r : sR k40_9 k40_o4 k40_8 := yR rfl
@[simp, simp ↓] theorem k40_13r : sR k40_13 k40_o7 .ret := yR rfl
@[simp, simp ↓] theorem k40_14r : rC k40_14 (.t 68) k40_13 .skip := zC rfl
@[simp, simp ↓] theorem k40_15r : sD k40_15 k40_o6 [] k40_14 := yD rfl
@[simp, simp ↓] theorem k40_18r : sR k40_18 k40_o9 .ret := yR rfl
@[simp, simp ↓] theorem k40_19r : rC k40_19 (.t 112) k40_18 .skip := zC rfl
@[simp, simp ↓] theorem k40_20r : sD k40_20 k40_o8 [] k40_19 := yD rfl
@[simp, simp ↓] theorem k40_21r : rS k40_21 k40_15 k40_20 := zS rfl
@[simp, simp ↓] theorem k40_22r : sR k40_22 k40_o5 k40_21 := yR rfl
@[simp, simp ↓] theorem k40_24r : rR k40_24 k40_o10 := zR rfl
@[simp, simp ↓] theorem k40_25r : sB k40_25 1 k40_22 k40_24 := yB rfl
@[simp, simp ↓] theorem k40_26r : rS k40_26 k40_9 k40_25 := zS rfl
@[simp, simp ↓] theorem k40_27r : rL k40_27 k40_26 := zL rfl
@[simp, simp ↓] theorem k40_28r : rB k40_28 0 k40_27 := zB rfl
@[simp, simp ↓] theorem k40_29r : sR k40_29 k40_o3 k40_28 := yR rfl
@[simp, simp ↓] theorem k40_31r : sR k40_31 k40_o11 .ret := yR rfl
@[simp, simp ↓] theorem k40_32r : rS k40_32 k40_29 k40_31 := zS rfl
@[simp, simp ↓] theorem k40_33r : rS k40_33 k40_5 k40_32 := zS rfl
@[simp, simp ↓] theorem k40_34r : sR k40_34 k40_o0 k40_33 := yR rfl
noncomputable abbrev k40_C : Orc → Cx := mkC Try.prog [4] 40 119 [.tmp 2]
theorem k40_of0 : OfP0 Try.prog Try.f40 40 119 k40_C k40_34 := @ofP0 _ _ _ _ _ _ _ _ Try.func40 (by decide +kernel) rfl (by kernel_rfl) rfl (by kernel_rfl)
theorem l23Ok_cL (x : Ph) (h : Heap) (hl : x.ts.length ≤ 4194304) (ok : x.ok) : ACalls Try.prog 40 [.ip [.int .i64 x.n, .int .i64 x.m, .snap 3 (x.ts.map T.av)]] h (fun v h' => v = .bool (decide x.valid) ∧ h' = h) := by
  refine k40_of0 rfl orc1_p fun I => ?_
  refine Run2.of I 1000 ?_
  simp -implicitDefEqProofs
  refine ⟨fun n1 n2 => ⟨fun hm hv => ?_, fun m1 m2 => ?_⟩, fun hn hv => ?_⟩
  · have := hv.2.2.1; have := hv.2.2.2.1; omega
  · refine Run2.loop (fun i => [(0, .ip [.int .i64 x.n, .int .i64 x.m, .snap 3 (x.ts.map T.av)]), (3, .int .i64 (i : Nat))]) (fun i => h) (fun i => x.ts.length - i) (fun i => i ≤ x.ts.length ∧ x.good i) 0 ⟨Nat.zero_le _, fun _ _ h => absurd h (Nat.not_lt_zero _)⟩ fun i hi ih => ?_
    by_cases hlt : i < x.ts.length
    · have hok := ok.2.2 _ (List.getElem_mem hlt)
      have hbad := Ph.not_valid hlt
      have go := fun h1 => ih (i + 1) ⟨by omega, (Ph.good_succ hlt).2 ⟨hi.2, h1⟩⟩ (by omega)
      clear ih
      refine Run2.of I 1000 ?_
      cases i with
      | zero =>
        simp -implicitDefEqProofs [hlt]
        simp [Ph.el, T.lt] at go hbad
        grind
      | succ i =>
        have hlt' : i < x.ts.length := by omega
        have hc : ((i : Int) + 1 - 1).toNat = i := by omega
        simp -implicitDefEqProofs [hlt, hlt', hc]
        simp [Ph.el, T.lt] at go hbad
        repeat' (first | refine And.intro ?_ ?_ | intro _)
        all_goals first | omega | grind
    · obtain rfl : i = x.ts.length := by omega
      refine Run2.of I 1000 ?_
      simp -implicitDefEqProofs
      simp [Ph.valid, n1, n2, m1, m2, hi.2]
      omega
  · have := hv.1; have := hv.2.1; omega
theorem wrap_m1 {n : Int} (h : 1 ≤ n ∧ n ≤ 9223372036854775807) : IntKind.i64.wrap (n - 1) = n - 1 := w64 (by omega)
/-- What the program asks of an edge: its modulus is looked at last. -/
def Ph.el' (x : Ph) (t : T) : Prop := 0 ≤ t.f ∧ t.f < t.t ∧ t.t < x.n ∧ 0 ≤ t.s ∧ t.s ≤ IntKind.i64.wrap (x.m - 1)
def Ph.good' (x : Ph) (i : Nat) : Prop := ∀ j, (hj : j < x.ts.length) → j < i → x.el' x.ts[j] ∧ (0 < j → (x.ts[j - 1]).lt x.ts[j])
theorem Ph.good_iff {x : Ph} (h : 1 ≤ x.m ∧ x.m ≤ 360) (i : Nat) : x.good' i ↔ x.good i := by
  have : IntKind.i64.wrap (x.m - 1) = x.m - 1 := wrap_m1 (by omega)
  unfold Ph.good' Ph.good Ph.el' Ph.el
  rw [this]
  constructor
  · intro H j hj hji
    obtain ⟨h1, h2⟩ := H j hj hji
    exact ⟨by omega, h2⟩
  · intro H j hj hji
    obtain ⟨h1, h2⟩ := H j hj hji
    exact ⟨by omega, h2⟩
theorem Ph.good_succ' {x : Ph} {i : Nat} (hi : i < x.ts.length) : x.good' (i + 1) ↔ x.good' i ∧ x.el' x.ts[i] ∧ (0 < i → (x.ts[i - 1]).lt x.ts[i]) := by
  constructor
  · intro h
    exact ⟨fun j hj hji => h j hj (by omega), h i hi (by omega)⟩
  · rintro ⟨h1, h2⟩ j hj hji
    rcases Nat.lt_or_ge j i with h | h
    · exact h1 j hj h
    · obtain rfl : j = i := by omega
      exact h2
theorem Ph.not_valid' {x : Ph} {i : Nat} (hi : i < x.ts.length) (h : ¬ (x.el' x.ts[i] ∧ (0 < i → (x.ts[i - 1]).lt x.ts[i]))) : ¬ x.valid := fun hv =>
  h ((Ph.good_succ' hi).1 (fun k hk hki => (Ph.good_iff ⟨by have := hv.2.2.1; omega, hv.2.2.2.1⟩ _).2 hv.2.2.2.2.1 k hk (by omega))).2
abbrev k24_o0 : List AJ := [.o ⟨(some 1), none, false, .box false 3 (.t 0), none⟩, .o ⟨(some 2), none, false, .mv (.c (.bool false)), (some [1])⟩]
abbrev k24_o1 : List AJ := [.o ⟨(some 5), none, false, .fieldA 2 (.t 1), none⟩, .o ⟨(some 6), none, false, .load 1 false (.t 5), none⟩, .o ⟨(some 7), none, false, .len (.t 6), none⟩, .o ⟨(some 8), none, false, .mv (.c (.int .i64 0)), (some [1, 6, 7, 8])⟩]
abbrev k24_o2 : List AJ := [.o ⟨(some 9), none, false, .bin .lss (.t 8) (.t 7), (some [1, 6, 7, 8, 9])⟩]
abbrev k24_o3 : List AJ := [.o ⟨(some 10), none, false, .mv (.t 8), none⟩, .o ⟨(some 11), none, false, .idxA 3 (.t 6) (.t 8), none⟩, .o ⟨(some 12), none, false, .load 3 true (.t 11), none⟩, .v 4 3 (.agg [(.int .i64 0), (.int .i64 0), (.int .i64 0)]) [(3, (.t 10))] (.t 12) (some [1, 3, 4, 6, 7, 8])]
abbrev k24_o4 : List AJ := [.o ⟨(some 13), none, false, .fieldA 0 (.t 4), none⟩, .o ⟨(some 14), none, false, .load 1 false (.t 13), none⟩, .o ⟨(some 15), none, false, .bin .lss (.t 14) (.c (.int .i64 0)), none⟩, .o ⟨(some 16), none, false, .mv (.t 15), none⟩, .o ⟨(some 17), (some (16, false)), false, .fieldA 0 (.t 4), none⟩, .o ⟨(some 18), (some (16, false)), false, .load 1 false (.t 17), none⟩, .o ⟨(some 19), (some (16, false)), false, .fieldA 1 (.t 4), none⟩, .o ⟨(some 20), (some (16, false)), false, .load 1 false (.t 19), none⟩, .o ⟨(some 21), (some (16, false)), false, .bin .geq (.t 18) (.t 20), (some [1, 3, 4, 6, 7, 8, 16, 21])⟩, .o ⟨(some 22), none, false, .pick (.t 16) (.c (.bool true)) (.t 21), none⟩, .o ⟨(some 23), none, false, .mv (.t 22), none⟩, .o ⟨(some 24), (some (23, false)), false, .fieldA 1 (.t 4), none⟩, .o ⟨(some 25), (some (23, false)), false, .load 1 false (.t 24), none⟩, .o ⟨(some 26), (some (23, false)), false, .fieldA 0 (.t 1), none⟩, .o ⟨(some 27), (some (23, false)), false, .load 1 false (.t 26), none⟩, .o ⟨(some 28), (some (23, false)), false, .bin .geq (.t 25) (.t 27), none⟩, .o ⟨(some 29), none, false, .pick (.t 23) (.c (.bool true)) (.t 28), none⟩, .o ⟨(some 30), none, false, .mv (.t 29), (some [1, 3, 4, 6, 7, 8, 30])⟩, .o ⟨(some 31), (some (30, false)), false, .fieldA 2 (.t 4), none⟩, .o ⟨(some 32), (some (30, false)), false, .load 1 false (.t 31), none⟩, .o ⟨(some 33), (some (30, false)), false, .fieldA 1 (.t 1), none⟩, .o ⟨(some 34), (some (30, false)), false, .load 1 false (.t 33), none⟩, .o ⟨(some 35), (some (30, false)), false, .call 56 [(.t 32), (.t 34)], none⟩, .o ⟨(some 36), (some (30, false)), false, .un .not (.t 35), none⟩, .o ⟨(some 37), none, false, .pick (.t 30) (.c (.bool true)) (.t 36), (some [1, 3, 4, 6, 7, 8, 37])⟩]
abbrev k24_o5 : List AJ := [.o ⟨(some 2), none, false, .mv (.c (.bool false)), (some [2])⟩]
def k24_7 : ACode := .seq (.region k24_o5) .ret
def k24_8 : ACode := .cond (.t 37) k24_7 .skip
def k24_9 : ACode := .seq (.region k24_o4) k24_8
abbrev k24_o6 : List AI := [⟨(some 38), none, false, .mv (.t 3), none⟩, ⟨(some 39), none, false, .bin .gtr (.t 38) (.c (.int .i64 0)), none⟩, ⟨(some 40), none, false, .mv (.t 39), none⟩, ⟨(some 41), (some (40, true)), false, .fieldA 2 (.t 1), none⟩, ⟨(some 42), (some (40, true)), false, .load 1 false (.t 41), none⟩, ⟨(some 43), (some (40, true)), false, .mv (.t 3), none⟩, ⟨(some 44), (some (40, true)), true, .bin .sub (.t 43) (.c (.int .i64 1)), none⟩, ⟨(some 45), (some (40, true)), false, .idxA 3 (.t 42) (.t 44), none⟩, ⟨(some 46), (some (40, true)), false, .fieldA 0 (.t 45), (some [1, 3, 4, 6, 7, 8, 40, 46])⟩, ⟨(some 47), (some (40, true)), false, .load 1 false (.t 46), none⟩, ⟨(some 48), (some (40, true)), false, .fieldA 0 (.t 4), none⟩, ⟨(some 49), (some (40, true)), false, .load 1 false (.t 48), none⟩, ⟨(some 50), (some (40, true)), false, .call 58 [(.t 47), (.t 49)], none⟩, ⟨(some 51), (some (40, true)), false, .fieldA 2 (.t 1), none⟩, ⟨(some 52), (some (40, true)), false, .load 1 false (.t 51), none⟩, ⟨(some 53), (some (40, true)), false, .mv (.t 3), (some [1, 4, 6, 7, 8, 40, 50, 52, 53])⟩, ⟨(some 54), (some (40, true)), true, .bin .sub (.t 53) (.c (.int .i64 1)), none⟩, ⟨(some 55), (some (40, true)), false, .idxA 3 (.t 52) (.t 54), none⟩, ⟨(some 56), (some (40, true)), false, .fieldA 1 (.t 55), none⟩, ⟨(some 57), (some (40, true)), false, .load 1 false (.t 56), none⟩, ⟨(some 58), (some (40, true)), false, .fieldA 1 (.t 4), none⟩, ⟨(some 59), (some (40, true)), false, .load 1 false (.t 58), none⟩, ⟨(some 60), (some (40, true)), false, .call 58 [(.t 57), (.t 59)], (some [1, 6, 7, 8, 40, 50, 60])⟩, ⟨(some 61), (some (40, true)), false, .bsl false 1 [(.t 50), (.t 60)], none⟩, ⟨(some 62), (some (40, true)), false, .call 57 [(.t 61)], none⟩, ⟨(some 63), (some (40, true)), false, .bin .geq (.t 62) (.c (.int .i64 0)), none⟩, ⟨(some 64), none, false, .pick (.t 40) (.t 63) (.c (.bool false)), (some [1, 6, 7, 8, 64])⟩]
abbrev k24_o7 : List AJ := [.o ⟨(some 2), none, false, .mv (.c (.bool false)), (some [2])⟩]
def k24_12 : ACode := .seq (.region k24_o7) .ret
def k24_13 : ACode := .cond (.t 64) k24_12 .skip
def k24_14 : ACode := .seq (.draw k24_o6 [] rfl) k24_13
def k24_15 : ACode := .seq k24_9 k24_14
def k24_16 : ACode := .seq (.region k24_o3) k24_15
abbrev k24_o8 : List AJ := [.o ⟨(some 65), none, true, .bin .add (.t 8) (.c (.int .i64 1)), none⟩, .o ⟨(some 8), none, false, .mv (.t 65), (some [1, 6, 7, 8])⟩]
def k24_18 : ACode := .region k24_o8
def k24_19 : ACode := .seq (.block 1 k24_16) k24_18
def k24_20 : ACode := .seq (.cond (.t 9) .skip (.exit 0)) k24_19
def k24_21 : ACode := .seq (.region k24_o2) k24_20
def k24_22 : ACode := .loop k24_21
def k24_23 : ACode := .block 0 k24_22
def k24_24 : ACode := .seq (.region k24_o1) k24_23
abbrev k24_o9 : List AJ := [.o ⟨(some 66), none, false, .fieldA 0 (.t 1), none⟩, .o ⟨(some 67), none, false, .load 1 false (.t 66), none⟩, .o ⟨(some 68), none, false, .call 59 [(.t 67), (.c (.int .i64 1)), (.c (.int .i64 12))], none⟩, .o ⟨(some 69), none, false, .mv (.t 68), none⟩, .o ⟨(some 70), (some (69, true)), false, .fieldA 1 (.t 1), none⟩, .o ⟨(some 71), (some (69, true)), false, .load 1 false (.t 70), none⟩, .o ⟨(some 72), (some (69, true)), false, .call 59 [(.t 71), (.c (.int .i64 2)), (.c (.int .i64 360))], none⟩, .o ⟨(some 73), none, false, .pick (.t 69) (.t 72) (.c (.bool false)), none⟩, .o ⟨(some 74), none, false, .mv (.t 73), none⟩, .o ⟨(some 75), (some (74, true)), false, .fieldA 2 (.t 1), (some [74, 75])⟩, .o ⟨(some 76), (some (74, true)), false, .load 1 false (.t 75), none⟩, .o ⟨(some 77), (some (74, true)), false, .len (.t 76), none⟩, .o ⟨(some 78), (some (74, true)), false, .bin .leq (.t 77) (.c (.int .i64 24)), none⟩, .o ⟨(some 79), none, false, .pick (.t 74) (.t 78) (.c (.bool false)), none⟩, .o ⟨(some 2), none, false, .mv (.t 79), (some [2])⟩]
def k24_26 : ACode := .seq (.region k24_o9) .ret
def k24_27 : ACode := .seq k24_24 k24_26
def k24_28 : ACode := .seq (.region k24_o0) k24_27
@[simp, simp ↓] theorem k24_7r : sR k24_7 k24_o5 .ret := yR rfl
@[simp, simp ↓] theorem k24_8r : rC k24_8 (.t 37) k24_7 .skip := zC rfl
@[simp, simp ↓] theorem k24_9r : sR k24_9 k24_o4 k24_8 := yR rfl
@[simp, simp ↓] theorem k24_12r : sR k24_12 k24_o7 .ret := yR rfl
@[simp, simp ↓] theorem k24_13r : rC k24_13 (.t 64) k24_12 .skip := zC rfl
@[simp, simp ↓] theorem k24_14r : sD k24_14 k24_o6 [] k24_13 := yD rfl
@[simp, simp ↓] theorem k24_15r : rS k24_15 k24_9 k24_14 := zS rfl
@[simp, simp ↓] theorem k24_16r : sR k24_16 k24_o3 k24_15 := yR rfl
@[simp, simp ↓] theorem k24_18r : rR k24_18 k24_o8 := zR rfl
@[simp, simp ↓] theorem k24_19r : sB k24_19 1 k24_16 k24_18 := yB rfl
@[simp, simp ↓] theorem k24_20r : sC k24_20 (.t 9) .skip (.exit 0) k24_19 := yC rfl
@[simp, simp ↓] theorem k24_21r : sR k24_21 k24_o2 k24_20 := yR rfl
@[simp, simp ↓] theorem k24_22r : rL k24_22 k24_21 := zL rfl
@[simp, simp ↓] theorem k24_23r : rB k24_23 0 k24_22 := zB rfl
@[simp, simp ↓] theorem k24_24r : sR k24_24 k24_o1 k24_23 := yR rfl
@[simp, simp ↓] theorem k24_26r : sR k24_26 k24_o9 .ret := yR rfl
@[simp, simp ↓] theorem k24_27r : rS k24_27 k24_24 k24_26 := zS rfl
@[simp, simp ↓] theorem k24_28r : sR k24_28 k24_o0 k24_27 := yR rfl
noncomputable abbrev k24_C : Orc → Cx := mkC Try.prog [4] 24 80 [.tmp 2]
theorem k24_of0 : OfP0 Try.prog Try.f24 24 80 k24_C k24_28 := @ofP0 _ _ _ _ _ _ _ _ Try.func24 (by decide +kernel) rfl (by kernel_rfl) rfl (by kernel_rfl)
theorem valid_cL (x : Ph) (h : Heap) (hl : x.ts.length ≤ 4194304) (ok : x.ok) : ACalls Try.prog 24 [x.av] h (fun v h' => v = .bool (decide x.valid) ∧ h' = h) := by
  refine k24_of0 rfl orc2_p fun I => ?_
  refine Run2.of I 1000 ?_
  simp -implicitDefEqProofs
  refine Run2.loop (fun i => [(1, .ip [.int .i64 x.n, .int .i64 x.m, .snap 3 (x.ts.map T.av)]), (6, .snap 3 (x.ts.map T.av)), (7, .int .i64 x.ts.length), (8, .int .i64 (i : Nat))]) (fun i => h) (fun i => x.ts.length - i) (fun i => i ≤ x.ts.length ∧ x.good' i) 0 ⟨Nat.zero_le _, fun _ _ h => absurd h (Nat.not_lt_zero _)⟩ fun i hi ih => ?_
  by_cases hlt : i < x.ts.length
  · have hbad := Ph.not_valid' hlt
    have go := fun h1 => ih (i + 1) ⟨by omega, (Ph.good_succ' hlt).2 ⟨hi.2, h1⟩⟩ (by omega)
    clear ih
    refine Run2.of I 1000 ?_
    cases i with
    | zero =>
      simp -implicitDefEqProofs [hlt]
      simp [Ph.el', T.lt] at go hbad
      repeat' (first | refine And.intro ?_ ?_ | intro _)
      all_goals first | omega | grind
    | succ i =>
      have hlt' : i < x.ts.length := by omega
      have hc : ((i : Int) + 1 - 1).toNat = i := by omega
      simp -implicitDefEqProofs [hlt, hlt', hc]
      simp only [orI2, orI2']
      simp [Ph.el', T.lt] at go hbad
      repeat' (first | refine And.intro ?_ ?_ | intro _)
      all_goals first | omega | grind
  · obtain rfl : i = x.ts.length := by omega
    refine Run2.of I 1000 ?_
    simp -implicitDefEqProofs
    have hg := fun h1 h2 => (Ph.good_iff (x := x) ⟨h1, h2⟩ x.ts.length).1 hi.2
    unfold Ph.valid
    grind
theorem l23Ok_c (x : Ph) (h : Heap) (hl : x.ts.length ≤ 1048576) (ok : x.ok) : ACalls Try.prog 40 [.ip [.int .i64 x.n, .int .i64 x.m, .snap 3 (x.ts.map T.av)]] h (fun v h' => v = .bool (decide x.valid) ∧ h' = h) := l23Ok_cL x h (by omega) ok
theorem valid_c (x : Ph) (h : Heap) (hl : x.ts.length ≤ 1048576) (ok : x.ok) : ACalls Try.prog 24 [x.av] h (fun v h' => v = .bool (decide x.valid) ∧ h' = h) := valid_cL x h (by omega) ok
noncomputable def o_l23Ok : List AV → Option (Prop × AV) := tab (fun (x : Int × Int × List T) => match x with | (n, m, ts) => [.ip [.int .i64 n, .int .i64 m, .snap 3 (ts.map T.av)]]) (fun x => match x with | (n, m, ts) => (ts.length ≤ 1048576 ∧ Ph.ok ⟨n, m, ts⟩)) (fun x => match x with | (n, m, ts) => .bool (decide (Ph.valid ⟨n, m, ts⟩)))
@[simp] theorem o_l23Ok_e (n : Int) (m : Int) (ts : List T) : o_l23Ok [.ip [.int .i64 n, .int .i64 m, .snap 3 (ts.map T.av)]] = some ((ts.length ≤ 1048576 ∧ Ph.ok ⟨n, m, ts⟩), .bool (decide (Ph.valid ⟨n, m, ts⟩))) := tab_at (enc := fun (x : Int × Int × List T) => match x with | (n, m, ts) => [.ip [.int .i64 n, .int .i64 m, .snap 3 (ts.map T.av)]]) (fun x y h => by
  obtain ⟨n1, m1, ts1⟩ := x; obtain ⟨n2, m2, ts2⟩ := y; simp at h; simp [h] <;> omega) _ _ (n, m, ts)
theorem o_l23Ok_k : Knows Try.prog 40 o_l23Ok := tab_knows fun x hx h => by
  obtain ⟨n, m, ts⟩ := x; exact l23Ok_c ⟨n, m, ts⟩ h hx.1 hx.2
noncomputable def o_valid : List AV → Option (Prop × AV) := tab (fun (x : Int × Int × List T) => match x with | (n, m, ts) => [.agg [.int .i64 n, .int .i64 m, .snap 3 (ts.map T.av)]]) (fun x => match x with | (n, m, ts) => (ts.length ≤ 1048576 ∧ Ph.ok ⟨n, m, ts⟩)) (fun x => match x with | (n, m, ts) => .bool (decide (Ph.valid ⟨n, m, ts⟩)))
@[simp] theorem o_valid_e (n : Int) (m : Int) (ts : List T) : o_valid [.agg [.int .i64 n, .int .i64 m, .snap 3 (ts.map T.av)]] = some ((ts.length ≤ 1048576 ∧ Ph.ok ⟨n, m, ts⟩), .bool (decide (Ph.valid ⟨n, m, ts⟩))) := tab_at (enc := fun (x : Int × Int × List T) => match x with | (n, m, ts) => [.agg [.int .i64 n, .int .i64 m, .snap 3 (ts.map T.av)]]) (fun x y h => by
  obtain ⟨n1, m1, ts1⟩ := x; obtain ⟨n2, m2, ts2⟩ := y; simp at h; simp [h] <;> omega) _ _ (n, m, ts)
theorem o_valid_k : Knows Try.prog 24 o_valid := tab_knows fun x hx h => by
  obtain ⟨n, m, ts⟩ := x; exact valid_c ⟨n, m, ts⟩ h hx.1 hx.2
noncomputable def orcV : List (Nat × (List AV → Option (Prop × AV))) := (40, o_l23Ok) :: (24, o_valid) :: orc2
theorem orcV_p : Pure Try.prog (lk orcV) := (lk_pure o_l23Ok_k (lk_pure o_valid_k orc2_p))
@[simp] theorem orcV_l (b : Bool) (g : FuncId) (l : List AV) : lk orcV b g l = if g = 40 then o_l23Ok l else if g = 24 then o_valid l else lk orc2 b g l := nr rfl

end Go.AG
