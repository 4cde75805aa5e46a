/- What ValidGraph and its counterpart of the reference ask of a graph. No statement is made here. -/
import Derived.Test.YtpndpligcphonaaGrV
namespace Go.AG
open Go.Proofs Go.Proofs.Ytpndpligcphonaa
set_option linter.unusedSimpArgs false
set_option linter.unusedVariables false
set_option maxRecDepth 4000
/-- One edge is as it must be. -/
def Gr.el (x : Gr) (t : T) : Prop := 0 ≤ t.f ∧ t.f < t.t ∧ t.t < x.n ∧ 1 ≤ t.s ∧ t.s ≤ 9
/-- The first i edges are as they must be, in order. -/
def Gr.good (x : Gr) (i : Nat) : Prop := ∀ j, (hj : j < x.ts.length) → j < i → x.el x.ts[j] ∧ (0 < j → (x.ts[j - 1]).lt x.ts[j])
def Gr.valid (x : Gr) : Prop := 1 ≤ x.n ∧ x.n ≤ 12 ∧ x.good x.ts.length ∧ x.ts.length ≤ 24
noncomputable instance (x : Gr) : Decidable x.valid := Classical.propDecidable _
theorem Gr.good_succ {x : Gr} {i : Nat} (hi : i < x.ts.length) : x.good (i + 1) ↔ x.good i ∧ x.el x.ts[i] ∧ (0 < i → (x.ts[i - 1]).lt x.ts[i]) := by
  constructor
  · intro h
    exact ⟨fun j hj hji => h j hj (by omega), h i hi (by omega)⟩
  · rintro ⟨h1, h2⟩ j hj hji
    rcases Nat.lt_or_ge j i with h | h
    · exact h1 j hj h
    · obtain rfl : j = i := by omega
      exact h2
theorem Gr.good_mono {x : Gr} {i j : Nat} (h : x.good j) (hij : i ≤ j) : x.good i := fun k hk hki => h k hk (by omega)
theorem Gr.not_valid {x : Gr} {i : Nat} (hi : i < x.ts.length) (h : ¬ (x.el x.ts[i] ∧ (0 < i → (x.ts[i - 1]).lt x.ts[i]))) : ¬ x.valid := fun hv =>
  h ((Gr.good_succ hi).1 (Gr.good_mono hv.2.2.1 (by omega))).2
theorem Gr.valid.el {x : Gr} (h : x.valid) {t : T} (ht : t ∈ x.ts) : x.el t := by
  obtain ⟨i, hi, rfl⟩ := List.mem_iff_getElem.1 ht
  exact (h.2.2.1 i hi hi).1
abbrev k25_o0 : List AJ := [.o ⟨(some 2), none, false, .mv (.c (.bool false)), (some [0])⟩]
abbrev k25_o1 : List AJ := [.o ⟨(some 5), none, false, .mv (.t 0), none⟩, .o ⟨(some 6), none, false, .nilchk (.t 5), none⟩, .o ⟨(some 7), none, false, .fieldA 0 (.t 6), none⟩, .o ⟨(some 8), none, false, .load 1 false (.t 7), none⟩, .o ⟨(some 9), none, false, .call 39 [(.t 8), (.c (.int .i64 1)), (.c (.int .i64 12))], none⟩, .o ⟨(some 10), none, false, .un .not (.t 9), (some [0, 10])⟩]
abbrev k25_o2 : List AJ := [.o ⟨(some 2), none, false, .mv (.c (.bool false)), (some [2])⟩]
def k25_3 : ACode := .seq (.region k25_o2) .ret
def k25_4 : ACode := .cond (.t 10) k25_3 .skip
def k25_5 : ACode := .seq (.region k25_o1) k25_4
abbrev k25_o3 : List AJ := [.o ⟨(some 3), none, false, .mv (.c (.int .i64 0)), (some [0, 3])⟩]
abbrev k25_o4 : List AJ := [.o ⟨(some 11), none, false, .mv (.t 3), none⟩, .o ⟨(some 12), none, false, .mv (.t 0), none⟩, .o ⟨(some 13), none, false, .nilchk (.t 12), none⟩, .o ⟨(some 14), none, false, .fieldA 1 (.t 13), none⟩, .o ⟨(some 15), none, false, .load 1 false (.t 14), none⟩, .o ⟨(some 16), none, false, .len (.t 15), none⟩, .o ⟨(some 17), none, false, .bin .lss (.t 11) (.t 16), (some [0, 3, 17])⟩]
def k25_8 : ACode := .cond (.t 17) .skip (.exit 0)
def k25_9 : ACode := .seq (.region k25_o4) k25_8
abbrev k25_o5 : List AJ := [.o ⟨(some 20), none, false, .mv (.t 0), none⟩, .o ⟨(some 21), none, false, .nilchk (.t 20), none⟩, .o ⟨(some 22), none, false, .fieldA 1 (.t 21), none⟩, .o ⟨(some 23), none, false, .load 1 false (.t 22), none⟩, .o ⟨(some 24), none, false, .mv (.t 3), none⟩, .o ⟨(some 25), none, false, .idxA 3 (.t 23) (.t 24), none⟩, .o ⟨(some 26), none, false, .load 3 true (.t 25), none⟩, .v 4 3 (.agg [(.int .i64 0), (.int .i64 0), (.int .i64 0)]) [] (.t 26) (some [0, 3, 4])]
abbrev k25_o6 : List AI := [⟨(some 27), none, false, .fieldA 1 (.t 4), none⟩, ⟨(some 28), none, false, .load 1 false (.t 27), none⟩, ⟨(some 29), none, false, .mv (.t 0), none⟩, ⟨(some 30), none, false, .nilchk (.t 29), none⟩, ⟨(some 31), none, false, .fieldA 0 (.t 30), none⟩, ⟨(some 32), none, false, .load 1 false (.t 31), none⟩, ⟨(some 33), none, true, .bin .sub (.t 32) (.c (.int .i64 1)), none⟩, ⟨(some 34), none, false, .call 39 [(.t 28), (.c (.int .i64 0)), (.t 33)], none⟩, ⟨(some 35), none, false, .un .not (.t 34), none⟩, ⟨(some 36), none, false, .mv (.t 35), none⟩, ⟨(some 37), (some (36, false)), false, .fieldA 0 (.t 4), none⟩, ⟨(some 38), (some (36, false)), false, .load 1 false (.t 37), (some [0, 3, 4, 36, 38])⟩, ⟨(some 39), (some (36, false)), false, .fieldA 1 (.t 4), none⟩, ⟨(some 40), (some (36, false)), false, .load 1 false (.t 39), none⟩, ⟨(some 41), (some (36, false)), true, .bin .sub (.t 40) (.c (.int .i64 1)), none⟩, ⟨(some 42), (some (36, false)), false, .call 39 [(.t 38), (.c (.int .i64 0)), (.t 41)], none⟩, ⟨(some 43), (some (36, false)), false, .un .not (.t 42), none⟩, ⟨(some 44), none, false, .pick (.t 36) (.c (.bool true)) (.t 43), none⟩, ⟨(some 45), none, false, .mv (.t 44), none⟩, ⟨(some 46), (some (45, false)), false, .fieldA 2 (.t 4), (some [0, 3, 4, 45, 46])⟩, ⟨(some 47), (some (45, false)), false, .load 1 false (.t 46), none⟩, ⟨(some 48), (some (45, false)), false, .call 39 [(.t 47), (.c (.int .i64 1)), (.c (.int .i64 9))], none⟩, ⟨(some 49), (some (45, false)), false, .un .not (.t 48), none⟩, ⟨(some 50), none, false, .pick (.t 45) (.c (.bool true)) (.t 49), (some [0, 3, 4, 50])⟩]
abbrev k25_o7 : List AJ := [.o ⟨(some 2), none, false, .mv (.c (.bool false)), (some [2])⟩]
def k25_13 : ACode := .seq (.region k25_o7) .ret
def k25_14 : ACode := .cond (.t 50) k25_13 .skip
def k25_15 : ACode := .seq (.draw k25_o6 [] rfl) k25_14
abbrev k25_o8 : List AI := [⟨(some 51), none, false, .mv (.t 3), none⟩, ⟨(some 52), none, false, .bin .gtr (.t 51) (.c (.int .i64 0)), none⟩, ⟨(some 53), none, false, .mv (.t 52), none⟩, ⟨(some 54), (some (53, true)), false, .mv (.t 0), none⟩, ⟨(some 55), (some (53, true)), false, .nilchk (.t 54), none⟩, ⟨(some 56), (some (53, true)), false, .fieldA 1 (.t 55), none⟩, ⟨(some 57), (some (53, true)), false, .load 1 false (.t 56), none⟩, ⟨(some 58), (some (53, true)), false, .mv (.t 3), none⟩, ⟨(some 59), (some (53, true)), true, .bin .sub (.t 58) (.c (.int .i64 1)), (some [0, 3, 4, 53, 57, 59])⟩, ⟨(some 60), (some (53, true)), false, .idxA 3 (.t 57) (.t 59), none⟩, ⟨(some 61), (some (53, true)), false, .fieldA 0 (.t 60), none⟩, ⟨(some 62), (some (53, true)), false, .load 1 false (.t 61), none⟩, ⟨(some 63), (some (53, true)), false, .fieldA 0 (.t 4), none⟩, ⟨(some 64), (some (53, true)), false, .load 1 false (.t 63), none⟩, ⟨(some 65), (some (53, true)), false, .bin .gtr (.t 62) (.t 64), none⟩, ⟨(some 66), (some (53, true)), false, .mv (.t 65), (some [0, 3, 4, 53, 66])⟩, ⟨(some 67), (some (66, false)), false, .mv (.t 0), none⟩, ⟨(some 68), (some (66, false)), false, .nilchk (.t 67), none⟩, ⟨(some 69), (some (66, false)), false, .fieldA 1 (.t 68), none⟩, ⟨(some 70), (some (66, false)), false, .load 1 false (.t 69), none⟩, ⟨(some 71), (some (66, false)), false, .mv (.t 3), none⟩, ⟨(some 72), (some (66, false)), true, .bin .sub (.t 71) (.c (.int .i64 1)), none⟩, ⟨(some 73), (some (66, false)), false, .idxA 3 (.t 70) (.t 72), (some [0, 3, 4, 53, 66, 73])⟩, ⟨(some 74), (some (66, false)), false, .fieldA 0 (.t 73), none⟩, ⟨(some 75), (some (66, false)), false, .load 1 false (.t 74), none⟩, ⟨(some 76), (some (66, false)), false, .fieldA 0 (.t 4), none⟩, ⟨(some 77), (some (66, false)), false, .load 1 false (.t 76), none⟩, ⟨(some 78), (some (66, false)), false, .bin .eql (.t 75) (.t 77), none⟩, ⟨(some 79), (some (66, false)), false, .mv (.t 78), none⟩, ⟨(some 80), (some (79, true)), false, .mv (.t 0), (some [0, 3, 4, 53, 66, 79, 80])⟩, ⟨(some 81), (some (79, true)), false, .nilchk (.t 80), none⟩, ⟨(some 82), (some (79, true)), false, .fieldA 1 (.t 81), none⟩, ⟨(some 83), (some (79, true)), false, .load 1 false (.t 82), none⟩, ⟨(some 84), (some (79, true)), false, .mv (.t 3), none⟩, ⟨(some 85), (some (79, true)), true, .bin .sub (.t 84) (.c (.int .i64 1)), none⟩, ⟨(some 86), (some (79, true)), false, .idxA 3 (.t 83) (.t 85), none⟩, ⟨(some 87), (some (79, true)), false, .fieldA 1 (.t 86), (some [0, 3, 4, 53, 66, 79, 87])⟩, ⟨(some 88), (some (79, true)), false, .load 1 false (.t 87), none⟩, ⟨(some 89), (some (79, true)), false, .fieldA 1 (.t 4), none⟩, ⟨(some 90), (some (79, true)), false, .load 1 false (.t 89), none⟩, ⟨(some 91), (some (79, true)), false, .bin .geq (.t 88) (.t 90), none⟩, ⟨(some 92), (some (66, false)), false, .pick (.t 79) (.t 91) (.c (.bool false)), none⟩, ⟨(some 93), (some (53, true)), false, .pick (.t 66) (.c (.bool true)) (.t 92), none⟩, ⟨(some 94), none, false, .pick (.t 53) (.t 93) (.c (.bool false)), (some [0, 3, 94])⟩]
abbrev k25_o9 : List AJ := [.o ⟨(some 2), none, false, .mv (.c (.bool false)), (some [2])⟩]
def k25_18 : ACode := .seq (.region k25_o9) .ret
def k25_19 : ACode := .cond (.t 94) k25_18 .skip
def k25_20 : ACode := .seq (.draw k25_o8 [] rfl) k25_19
def k25_21 : ACode := .seq k25_15 k25_20
def k25_22 : ACode := .seq (.region k25_o5) k25_21
abbrev k25_o10 : List AJ := [.o ⟨(some 18), none, false, .mv (.t 3), none⟩, .o ⟨(some 19), none, true, .bin .add (.t 18) (.c (.int .i64 1)), none⟩, .o ⟨(some 3), none, false, .mv (.t 19), (some [0, 3])⟩]
def k25_24 : ACode := .region k25_o10
def k25_25 : ACode := .seq (.block 1 k25_22) k25_24
def k25_26 : ACode := .seq k25_9 k25_25
def k25_27 : ACode := .loop k25_26
def k25_28 : ACode := .block 0 k25_27
def k25_29 : ACode := .seq (.region k25_o3) k25_28
abbrev k25_o11 : List AJ := [.o ⟨(some 95), none, false, .mv (.t 0), none⟩, .o ⟨(some 96), none, false, .nilchk (.t 95), none⟩, .o ⟨(some 97), none, false, .fieldA 1 (.t 96), none⟩, .o ⟨(some 98), none, false, .load 1 false (.t 97), none⟩, .o ⟨(some 99), none, false, .len (.t 98), none⟩, .o ⟨(some 100), none, false, .bin .leq (.t 99) (.c (.int .i64 24)), none⟩, .o ⟨(some 2), none, false, .mv (.t 100), (some [2])⟩]
def k25_31 : ACode := .seq (.region k25_o11) .ret
def k25_32 : ACode := .seq k25_29 k25_31
def k25_33 : ACode := .seq k25_5 k25_32
def k25_34 : ACode := .seq (.region k25_o0) k25_33
@[simp, simp ↓] theorem k25_3r : sR k25_3 k25_o2 .ret := yR rfl
@[simp, simp ↓] theorem k25_4r : rC k25_4 (.t 10) k25_3 .skip := zC rfl
@[simp, simp ↓] theorem k25_5r : sR k25_5 k25_o1 k25_4 := yR rfl
@[simp, simp ↓] theorem k25_8r : rC k25_8 (.t 17) .skip (.exit 0) := zC rfl
@[simp, simp ↓] theorem k25_9r : sR k25_9 k25_o4 k25_8 := yR rfl
@[simp, simp ↓] theorem k25_13r : sR k25_13 k25_o7 .ret := yR rfl
@[simp, simp ↓] theorem k25_14r : rC k25_14 (.t 50) k25_13 .skip := zC rfl
@[simp, simp ↓] theorem k25_15r : sD k25_15 k25_o6 [] k25_14 := yD rfl
@[simp, simp ↓] theorem k25_18r : sR k25_18 k25_o9 .ret := yR rfl
@[simp, simp ↓] theorem k25_19r : rC k25_19 (.t 94) k25_18 .skip := zC rfl
@[simp, simp ↓] theorem k25_20r : sD k25_20 k25_o8 [] k25_19 := yD rfl
@[simp, simp ↓] theorem k25_21r : rS k25_21 k25_15 k25_20 := zS rfl
@[simp, simp ↓] theorem k25_22r : sR k25_22 k25_o5 k25_21 := yR rfl
@[simp, simp ↓] theorem k25_24r : rR k25_24 k25_o10 := zR rfl
@[simp, simp ↓] theorem k25_25r : sB k25_25 1 k25_22 k25_24 := yB rfl
@[simp, simp ↓] theorem k25_26r : rS k25_26 k25_9 k25_25 := zS rfl
@[simp, simp ↓] theorem k25_27r : rL k25_27 k25_26 := zL rfl
@[simp, simp ↓] theorem k25_28r : rB k25_28 0 k25_27 := zB rfl
@[simp, simp ↓] theorem k25_29r : sR k25_29 k25_o3 k25_28 := yR rfl
@[simp, simp ↓] theorem k25_31r : sR k25_31 k25_o11 .ret := yR rfl
@[simp, simp ↓] theorem k25_32r : rS k25_32 k25_29 k25_31 := zS rfl
@[simp, simp ↓] theorem k25_33r : rS k25_33 k25_5 k25_32 := zS rfl
@[simp, simp ↓] theorem k25_34r : sR k25_34 k25_o0 k25_33 := yR rfl
noncomputable abbrev k25_C : Orc → Cx := mkC Try.prog [4] 25 101 [.tmp 2]
theorem k25_of0 : OfP0 Try.prog Try.f25 25 101 k25_C k25_34 := @ofP0 _ _ _ _ _ _ _ _ Try.func25 (by decide +kernel) rfl (by kernel_rfl) rfl (by kernel_rfl)
theorem l16Ok_c (x : Gr) (h : Heap) (hl : x.ts.length ≤ 1048576) (ok : x.ok) : ACalls Try.prog 25 [.ip [.int .i64 x.n, .snap 3 (x.ts.map T.av)]] h (fun v h' => v = .bool (decide x.valid) ∧ h' = h) := by
  refine k25_of0 rfl orc3_p fun I => ?_
  by_cases hn : 1 ≤ x.n ∧ x.n ≤ 12
  · refine Run2.of I 1000 ?_
    simp -implicitDefEqProofs [hn.1, hn.2]
    refine Run2.loop (fun i => [(0, .ip [.int .i64 x.n, .snap 3 (x.ts.map T.av)]), (3, .int .i64 (i : Nat))]) (fun i => h) (fun i => x.ts.length - i) (fun i => i ≤ x.ts.length ∧ x.good i) 0 ⟨Nat.zero_le _, fun _ _ h => absurd h (Nat.not_lt_zero _)⟩ fun i hi ih => ?_
    by_cases hlt : i < x.ts.length
    · have hok := ok.2 _ (List.getElem_mem hlt)
      have hbad := Gr.not_valid hlt
      have go := fun h1 => ih (i + 1) ⟨by omega, (Gr.good_succ hlt).2 ⟨hi.2, h1⟩⟩ (by omega)
      clear ih
      refine Run2.of I 1000 ?_
      cases i with
      | zero =>
        simp -implicitDefEqProofs [hlt]
        simp [Gr.el] at go hbad
        repeat' (first | refine And.intro ?_ ?_ | intro _)
        all_goals first | omega | (unfold in64; omega) | grind
      | succ i =>
        have hlt' : i < x.ts.length := by omega
        have hc : ((i : Int) + 1 - 1).toNat = i := by omega
        simp -implicitDefEqProofs [hlt, hlt', hc]
        simp [Gr.el, T.lt] at go hbad
        repeat' (first | refine And.intro ?_ ?_ | intro _)
        all_goals first | omega | (unfold in64; omega) | grind
    · obtain rfl : i = x.ts.length := by omega
      refine Run2.of I 1000 ?_
      simp -implicitDefEqProofs
      simp [Gr.valid, hn, hi.2]
      omega
  · have : ¬ x.valid := fun h => hn ⟨h.1, h.2.1⟩
    refine Run2.of I 1000 ?_
    simp -implicitDefEqProofs [this]
    omega
abbrev k27_o0 : List AJ := [.o ⟨(some 1), none, false, .box false 2 (.t 0), none⟩, .o ⟨(some 2), none, false, .mv (.c (.bool false)), (some [1])⟩]
abbrev k27_o1 : List AJ := [.o ⟨(some 5), none, false, .fieldA 1 (.t 1), none⟩, .o ⟨(some 6), none, false, .load 1 false (.t 5), none⟩, .o ⟨(some 7), none, false, .len (.t 6), none⟩, .o ⟨(some 8), none, false, .mv (.c (.int .i64 0)), (some [1, 6, 7, 8])⟩]
abbrev k27_o2 : List AJ := [.o ⟨(some 9), none, false, .bin .lss (.t 8) (.t 7), (some [1, 6, 7, 8, 9])⟩]
abbrev k27_o3 : List AJ := [.o ⟨(some 10), none, false, .mv (.t 8), none⟩, .o ⟨(some 11), none, false, .idxA 3 (.t 6) (.t 8), none⟩, .o ⟨(some 12), none, false, .load 3 true (.t 11), none⟩, .v 4 3 (.agg [(.int .i64 0), (.int .i64 0), (.int .i64 0)]) [(3, (.t 10))] (.t 12) (some [1, 3, 4, 6, 7, 8])]
abbrev k27_o4 : List AI := [⟨(some 13), none, false, .fieldA 0 (.t 4), none⟩, ⟨(some 14), none, false, .load 1 false (.t 13), none⟩, ⟨(some 15), none, false, .bin .lss (.t 14) (.c (.int .i64 0)), none⟩, ⟨(some 16), none, false, .mv (.t 15), none⟩, ⟨(some 17), (some (16, false)), false, .fieldA 0 (.t 4), none⟩, ⟨(some 18), (some (16, false)), false, .load 1 false (.t 17), none⟩, ⟨(some 19), (some (16, false)), false, .fieldA 1 (.t 4), none⟩, ⟨(some 20), (some (16, false)), false, .load 1 false (.t 19), none⟩, ⟨(some 21), (some (16, false)), false, .bin .geq (.t 18) (.t 20), (some [1, 3, 4, 6, 7, 8, 16, 21])⟩, ⟨(some 22), none, false, .pick (.t 16) (.c (.bool true)) (.t 21), none⟩, ⟨(some 23), none, false, .mv (.t 22), none⟩, ⟨(some 24), (some (23, false)), false, .fieldA 1 (.t 4), none⟩, ⟨(some 25), (some (23, false)), false, .load 1 false (.t 24), none⟩, ⟨(some 26), (some (23, false)), false, .fieldA 0 (.t 1), none⟩, ⟨(some 27), (some (23, false)), false, .load 1 false (.t 26), none⟩, ⟨(some 28), (some (23, false)), false, .bin .geq (.t 25) (.t 27), none⟩, ⟨(some 29), none, false, .pick (.t 23) (.c (.bool true)) (.t 28), none⟩, ⟨(some 30), none, false, .mv (.t 29), (some [1, 3, 4, 6, 7, 8, 30])⟩, ⟨(some 31), (some (30, false)), false, .fieldA 2 (.t 4), none⟩, ⟨(some 32), (some (30, false)), false, .load 1 false (.t 31), none⟩, ⟨(some 33), (some (30, false)), false, .call 32 [(.t 32), (.c (.int .i64 1)), (.c (.int .i64 9))], none⟩, ⟨(some 34), (some (30, false)), false, .un .not (.t 33), none⟩, ⟨(some 35), none, false, .pick (.t 30) (.c (.bool true)) (.t 34), none⟩, ⟨(some 36), none, false, .mv (.t 35), none⟩, ⟨(some 37), (some (36, false)), false, .mv (.t 3), none⟩, ⟨(some 38), (some (36, false)), false, .bin .gtr (.t 37) (.c (.int .i64 0)), (some [1, 3, 4, 6, 7, 8, 36, 38])⟩, ⟨(some 39), (some (36, false)), false, .mv (.t 38), none⟩, ⟨(some 40), (some (39, true)), false, .fieldA 1 (.t 1), none⟩, ⟨(some 41), (some (39, true)), false, .load 1 false (.t 40), none⟩, ⟨(some 42), (some (39, true)), false, .mv (.t 3), none⟩, ⟨(some 43), (some (39, true)), true, .bin .sub (.t 42) (.c (.int .i64 1)), none⟩, ⟨(some 44), (some (39, true)), false, .idxA 3 (.t 41) (.t 43), none⟩, ⟨(some 45), (some (39, true)), false, .load 3 true (.t 44), (some [1, 4, 6, 7, 8, 36, 39, 45])⟩, ⟨(some 46), (some (39, true)), false, .load 3 true (.t 4), none⟩, ⟨(some 47), (some (39, true)), false, .call 41 [(.t 45), (.t 46)], none⟩, ⟨(some 48), (some (39, true)), false, .bin .geq (.t 47) (.c (.int .i64 0)), none⟩, ⟨(some 49), (some (36, false)), false, .pick (.t 39) (.t 48) (.c (.bool false)), none⟩, ⟨(some 50), none, false, .pick (.t 36) (.c (.bool true)) (.t 49), (some [1, 6, 7, 8, 50])⟩]
abbrev k27_o5 : List AJ := [.o ⟨(some 2), none, false, .mv (.c (.bool false)), (some [2])⟩]
def k27_7 : ACode := .seq (.region k27_o5) .ret
def k27_8 : ACode := .cond (.t 50) k27_7 .skip
def k27_9 : ACode := .seq (.draw k27_o4 [] rfl) k27_8
def k27_10 : ACode := .seq (.region k27_o3) k27_9
abbrev k27_o6 : List AJ := [.o ⟨(some 51), none, true, .bin .add (.t 8) (.c (.int .i64 1)), none⟩, .o ⟨(some 8), none, false, .mv (.t 51), (some [1, 6, 7, 8])⟩]
def k27_12 : ACode := .region k27_o6
def k27_13 : ACode := .seq (.block 1 k27_10) k27_12
def k27_14 : ACode := .seq (.cond (.t 9) .skip (.exit 0)) k27_13
def k27_15 : ACode := .seq (.region k27_o2) k27_14
def k27_16 : ACode := .loop k27_15
def k27_17 : ACode := .block 0 k27_16
def k27_18 : ACode := .seq (.region k27_o1) k27_17
abbrev k27_o7 : List AJ := [.o ⟨(some 52), none, false, .fieldA 0 (.t 1), none⟩, .o ⟨(some 53), none, false, .load 1 false (.t 52), none⟩, .o ⟨(some 54), none, false, .call 32 [(.t 53), (.c (.int .i64 1)), (.c (.int .i64 12))], none⟩, .o ⟨(some 55), none, false, .mv (.t 54), none⟩, .o ⟨(some 56), (some (55, true)), false, .fieldA 1 (.t 1), none⟩, .o ⟨(some 57), (some (55, true)), false, .load 1 false (.t 56), none⟩, .o ⟨(some 58), (some (55, true)), false, .len (.t 57), none⟩, .o ⟨(some 59), (some (55, true)), false, .bin .leq (.t 58) (.c (.int .i64 24)), none⟩, .o ⟨(some 60), none, false, .pick (.t 55) (.t 59) (.c (.bool false)), none⟩, .o ⟨(some 2), none, false, .mv (.t 60), (some [2])⟩]
def k27_20 : ACode := .seq (.region k27_o7) .ret
def k27_21 : ACode := .seq k27_18 k27_20
def k27_22 : ACode := .seq (.region k27_o0) k27_21
@[simp, simp ↓] theorem k27_7r : sR k27_7 k27_o5 .ret := yR rfl
@[simp, simp ↓] theorem k27_8r : rC k27_8 (.t 50) k27_7 .skip := zC rfl
@[simp, simp ↓] theorem k27_9r : sD k27_9 k27_o4 [] k27_8 := yD rfl
@[simp, simp ↓] theorem k27_10r : sR k27_10 k27_o3 k27_9 := yR rfl
@[simp, simp ↓] theorem k27_12r : rR k27_12 k27_o6 := zR rfl
@[simp, simp ↓] theorem k27_13r : sB k27_13 1 k27_10 k27_12 := yB rfl
@[simp, simp ↓] theorem k27_14r : sC k27_14 (.t 9) .skip (.exit 0) k27_13 := yC rfl
@[simp, simp ↓] theorem k27_15r : sR k27_15 k27_o2 k27_14 := yR rfl
@[simp, simp ↓] theorem k27_16r : rL k27_16 k27_15 := zL rfl
@[simp, simp ↓] theorem k27_17r : rB k27_17 0 k27_16 := zB rfl
@[simp, simp ↓] theorem k27_18r : sR k27_18 k27_o1 k27_17 := yR rfl
@[simp, simp ↓] theorem k27_20r : sR k27_20 k27_o7 .ret := yR rfl
@[simp, simp ↓] theorem k27_21r : rS k27_21 k27_18 k27_20 := zS rfl
@[simp, simp ↓] theorem k27_22r : sR k27_22 k27_o0 k27_21 := yR rfl
noncomputable abbrev k27_C : Orc → Cx := mkC Try.prog [4] 27 61 [.tmp 2]
theorem k27_of0 : OfP0 Try.prog Try.f27 27 61 k27_C k27_22 := @ofP0 _ _ _ _ _ _ _ _ Try.func27 (by decide +kernel) rfl (by kernel_rfl) rfl (by kernel_rfl)
theorem valid_c (x : Gr) (h : Heap) (hl : x.ts.length ≤ 1048576) (ok : x.ok) : ACalls Try.prog 27 [x.av] h (fun v h' => v = .bool (decide x.valid) ∧ h' = h) := by
  refine k27_of0 rfl orc3_p fun I => ?_
  refine Run2.of I 1000 ?_
  simp -implicitDefEqProofs
  refine Run2.loop (fun i => [(1, .ip [.int .i64 x.n, .snap 3 (x.ts.map T.av)]), (6, .snap 3 (x.ts.map T.av)), (7, .int .i64 x.ts.length), (8, .int .i64 (i : Nat))]) (fun i => h) (fun i => x.ts.length - i) (fun i => i ≤ x.ts.length ∧ x.good i) 0 ⟨Nat.zero_le _, fun _ _ h => absurd h (Nat.not_lt_zero _)⟩ fun i hi ih => ?_
  by_cases hlt : i < x.ts.length
  · have hbad := Gr.not_valid hlt
    have go := fun h1 => ih (i + 1) ⟨by omega, (Gr.good_succ hlt).2 ⟨hi.2, h1⟩⟩ (by omega)
    clear ih
    refine Run2.of I 1000 ?_
    cases i with
    | zero =>
      simp -implicitDefEqProofs [hlt]
      simp [Gr.el] at go hbad
      repeat' (first | refine And.intro ?_ ?_ | intro _)
      all_goals first | omega | grind
    | succ i =>
      have hlt' : i < x.ts.length := by omega
      have hc : ((i : Int) + 1 - 1).toNat = i := by omega
      simp -implicitDefEqProofs [hlt, hlt', hc]
      simp only [orI2, orI2']
      simp [Gr.el, T.lt] at go hbad
      repeat' (first | refine And.intro ?_ ?_ | intro _)
      all_goals first | omega | grind
  · obtain rfl : i = x.ts.length := by omega
    refine Run2.of I 1000 ?_
    simp -implicitDefEqProofs
    unfold Gr.valid
    grind
noncomputable def o_l16Ok : List AV → Option (Prop × AV) := tab (fun (x : Int × List T) => match x with | (n, ts) => [.ip [.int .i64 n, .snap 3 (ts.map T.av)]]) (fun x => match x with | (n, ts) => (ts.length ≤ 1048576 ∧ Gr.ok ⟨n, ts⟩)) (fun x => match x with | (n, ts) => .bool (decide (Gr.valid ⟨n, ts⟩)))
@[simp] theorem o_l16Ok_e (n : Int) (ts : List T) : o_l16Ok [.ip [.int .i64 n, .snap 3 (ts.map T.av)]] = some ((ts.length ≤ 1048576 ∧ Gr.ok ⟨n, ts⟩), .bool (decide (Gr.valid ⟨n, ts⟩))) := tab_at (enc := fun (x : Int × List T) => match x with | (n, ts) => [.ip [.int .i64 n, .snap 3 (ts.map T.av)]]) (fun x y h => by
  obtain ⟨n1, ts1⟩ := x; obtain ⟨n2, ts2⟩ := y; simp at h; simp [h] <;> omega) _ _ (n, ts)
theorem o_l16Ok_k : Knows Try.prog 25 o_l16Ok := tab_knows fun x hx h => by
  obtain ⟨n, ts⟩ := x; exact l16Ok_c ⟨n, ts⟩ h hx.1 hx.2
noncomputable def o_valid : List AV → Option (Prop × AV) := tab (fun (x : Int × List T) => match x with | (n, ts) => [.agg [.int .i64 n, .snap 3 (ts.map T.av)]]) (fun x => match x with | (n, ts) => (ts.length ≤ 1048576 ∧ Gr.ok ⟨n, ts⟩)) (fun x => match x with | (n, ts) => .bool (decide (Gr.valid ⟨n, ts⟩)))
@[simp] theorem o_valid_e (n : Int) (ts : List T) : o_valid [.agg [.int .i64 n, .snap 3 (ts.map T.av)]] = some ((ts.length ≤ 1048576 ∧ Gr.ok ⟨n, ts⟩), .bool (decide (Gr.valid ⟨n, ts⟩))) := tab_at (enc := fun (x : Int × List T) => match x with | (n, ts) => [.agg [.int .i64 n, .snap 3 (ts.map T.av)]]) (fun x y h => by
  obtain ⟨n1, ts1⟩ := x; obtain ⟨n2, ts2⟩ := y; simp at h; simp [h] <;> omega) _ _ (n, ts)
theorem o_valid_k : Knows Try.prog 27 o_valid := tab_knows fun x hx h => by
  obtain ⟨n, ts⟩ := x; exact valid_c ⟨n, ts⟩ h hx.1 hx.2
noncomputable def orcV : List (Nat × (List AV → Option (Prop × AV))) := (25, o_l16Ok) :: (27, o_valid) :: orc3
theorem orcV_p : Pure Try.prog (lk orcV) := (lk_pure o_l16Ok_k (lk_pure o_valid_k orc3_p))
@[simp] theorem orcV_l (b : Bool) (g : FuncId) (l : List AV) : lk orcV b g l = if g = 25 then o_l16Ok l else if g = 27 then o_valid l else lk orc3 b g l := nr rfl
end Go.AG
