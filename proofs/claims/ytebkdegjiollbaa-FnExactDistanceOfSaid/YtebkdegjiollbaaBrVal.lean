/- What ValidBars and its counterpart of the reference ask of bars. No statement is made here. -/
import Derived.Test.YtebkdegjiollbaaBrV
namespace Go.AG
open Go.Proofs Go.Proofs.Ytebkdegjiollbaa
set_option linter.unusedSimpArgs false
set_option linter.unusedVariables false
set_option maxRecDepth 4000
/-- One bar is as it must be. -/
def T.el (t : T) : Prop := 0 ≤ t.f ∧ t.f ≤ 3 ∧ 0 ≤ t.t ∧ t.t ≤ 1000 ∧ (t.s = -1 ∨ t.t < t.s ∧ t.s ≤ 1000)
theorem T.bef_iff {a b : T} (ha : a.el) (hb : b.el) : a.bef b ↔ a.lt b := by
  unfold T.el at ha hb
  unfold T.bef T.lt T.en
  grind
/-- The first i bars are as they must be, in order. -/
def good (l : List T) (i : Nat) : Prop := ∀ j, (hj : j < l.length) → j < i → l[j].el ∧ (0 < j → ¬ l[j].lt l[j - 1])
def validB (l : List T) : Prop := good l l.length ∧ l.length ≤ 24
noncomputable instance (l : List T) : Decidable (validB l) := Classical.propDecidable _
theorem good_succ {l : List T} {i : Nat} (hi : i < l.length) : good l (i + 1) ↔ good l i ∧ l[i].el ∧ (0 < i → ¬ l[i].lt l[i - 1]) := by
  constructor
  · intro h
    exact ⟨fun j hj hji => h j hj (by omega), h i hi (by omega)⟩
  · rintro ⟨h1, h2⟩ j hj hji
    rcases Nat.lt_or_ge j i with h | h
    · exact h1 j hj h
    · obtain rfl : j = i := by omega
      exact h2
theorem good_mono {l : List T} {i j : Nat} (h : good l j) (hij : i ≤ j) : good l i := fun k hk hki => h k hk (by omega)
theorem not_validB {l : List T} {i : Nat} (hi : i < l.length) (h : ¬ (l[i].el ∧ (0 < i → ¬ l[i].lt l[i - 1]))) : ¬ validB l := fun hv =>
  h ((good_succ hi).1 (good_mono hv.1 (by omega))).2
theorem validB.el {l : List T} (h : validB l) {t : T} (ht : t ∈ l) : t.el := by
  obtain ⟨i, hi, rfl⟩ := List.mem_iff_getElem.1 ht
  exact (h.1 i hi hi).1
def okB (l : List T) : Prop := ∀ t ∈ l, t.ok
abbrev k64_o0 : List AJ := [.o ⟨(some 2), none, false, .mv (.c (.bool false)), (some [0])⟩]
abbrev k64_o1 : List AJ := [.o ⟨(some 3), none, false, .mv (.c (.int .i64 0)), (some [0, 3])⟩]
abbrev k64_o2 : List AJ := [.o ⟨(some 5), none, false, .mv (.t 3), none⟩, .o ⟨(some 6), none, false, .mv (.t 0), none⟩, .o ⟨(some 7), none, false, .len (.t 6), none⟩, .o ⟨(some 8), none, false, .bin .lss (.t 5) (.t 7), (some [0, 3, 8])⟩]
def k64_3 : ACode := .cond (.t 8) .skip (.exit 0)
def k64_4 : ACode := .seq (.region k64_o2) k64_3
abbrev k64_o3 : List AJ := [.o ⟨(some 11), none, false, .mv (.t 0), none⟩, .o ⟨(some 12), none, false, .mv (.t 3), none⟩, .o ⟨(some 13), none, false, .idxA 3 (.t 11) (.t 12), none⟩, .o ⟨(some 14), none, false, .load 3 true (.t 13), none⟩, .v 4 3 (.agg [(.int .i64 0), (.int .i64 0), (.int .i64 0)]) [] (.t 14) (some [0, 3, 4])]
abbrev k64_o4 : List AJ := [.o ⟨(some 15), none, false, .fieldA 0 (.t 4), none⟩, .o ⟨(some 16), none, false, .load 1 false (.t 15), none⟩, .o ⟨(some 17), none, false, .call 65 [(.t 16)], none⟩, .o ⟨(some 18), none, false, .un .not (.t 17), none⟩, .o ⟨(some 19), none, false, .mv (.t 18), none⟩, .o ⟨(some 20), (some (19, false)), false, .fieldA 1 (.t 4), none⟩, .o ⟨(some 21), (some (19, false)), false, .load 1 false (.t 20), none⟩, .o ⟨(some 22), (some (19, false)), false, .call 117 [(.t 21)], none⟩, .o ⟨(some 23), (some (19, false)), false, .un .not (.t 22), none⟩, .o ⟨(some 24), none, false, .pick (.t 19) (.c (.bool true)) (.t 23), (some [0, 3, 4, 24])⟩, .o ⟨(some 25), none, false, .mv (.t 24), none⟩, .o ⟨(some 26), (some (25, false)), false, .fieldA 2 (.t 4), none⟩, .o ⟨(some 27), (some (25, false)), false, .load 1 false (.t 26), none⟩, .o ⟨(some 28), (some (25, false)), false, .bin .neq (.t 27) (.c (.int .i64 (-1))), none⟩, .o ⟨(some 29), (some (25, false)), false, .mv (.t 28), none⟩, .o ⟨(some 30), (some (29, true)), false, .fieldA 2 (.t 4), none⟩, .o ⟨(some 31), (some (29, true)), false, .load 1 false (.t 30), none⟩, .o ⟨(some 32), (some (29, true)), false, .fieldA 1 (.t 4), (some [0, 3, 4, 25, 29, 31, 32])⟩, .o ⟨(some 33), (some (29, true)), false, .load 1 false (.t 32), none⟩, .o ⟨(some 34), (some (29, true)), false, .bin .leq (.t 31) (.t 33), none⟩, .o ⟨(some 35), (some (29, true)), false, .mv (.t 34), none⟩, .o ⟨(some 36), (some (35, false)), false, .fieldA 2 (.t 4), none⟩, .o ⟨(some 37), (some (35, false)), false, .load 1 false (.t 36), none⟩, .o ⟨(some 38), (some (35, false)), false, .call 117 [(.t 37)], none⟩, .o ⟨(some 39), (some (35, false)), false, .un .not (.t 38), (some [0, 3, 4, 25, 29, 35, 39])⟩, .o ⟨(some 40), (some (29, true)), false, .pick (.t 35) (.c (.bool true)) (.t 39), none⟩, .o ⟨(some 41), (some (25, false)), false, .pick (.t 29) (.t 40) (.c (.bool false)), none⟩, .o ⟨(some 42), none, false, .pick (.t 25) (.c (.bool true)) (.t 41), (some [0, 3, 4, 42])⟩]
abbrev k64_o5 : List AJ := [.o ⟨(some 2), none, false, .mv (.c (.bool false)), (some [2])⟩]
def k64_8 : ACode := .seq (.region k64_o5) .ret
def k64_9 : ACode := .cond (.t 42) k64_8 .skip
def k64_10 : ACode := .seq (.region k64_o4) k64_9
abbrev k64_o6 : List AJ := [.o ⟨(some 43), none, false, .mv (.t 3), none⟩, .o ⟨(some 44), none, false, .bin .gtr (.t 43) (.c (.int .i64 0)), none⟩, .o ⟨(some 45), none, false, .mv (.t 44), none⟩, .o ⟨(some 46), (some (45, true)), false, .mv (.t 0), none⟩, .o ⟨(some 47), (some (45, true)), false, .mv (.t 3), none⟩, .o ⟨(some 48), (some (45, true)), true, .bin .sub (.t 47) (.c (.int .i64 1)), none⟩, .o ⟨(some 49), (some (45, true)), false, .idxA 3 (.t 46) (.t 48), none⟩, .o ⟨(some 50), (some (45, true)), false, .call 118 [(.t 4), (.t 49)], none⟩, .o ⟨(some 51), none, false, .pick (.t 45) (.t 50) (.c (.bool false)), (some [0, 3, 51])⟩]
abbrev k64_o7 : List AJ := [.o ⟨(some 2), none, false, .mv (.c (.bool false)), (some [2])⟩]
def k64_13 : ACode := .seq (.region k64_o7) .ret
def k64_14 : ACode := .cond (.t 51) k64_13 .skip
def k64_15 : ACode := .seq (.region k64_o6) k64_14
def k64_16 : ACode := .seq k64_10 k64_15
def k64_17 : ACode := .seq (.region k64_o3) k64_16
abbrev k64_o8 : List AJ := [.o ⟨(some 9), none, false, .mv (.t 3), none⟩, .o ⟨(some 10), none, true, .bin .add (.t 9) (.c (.int .i64 1)), none⟩, .o ⟨(some 3), none, false, .mv (.t 10), (some [0, 3])⟩]
def k64_19 : ACode := .region k64_o8
def k64_20 : ACode := .seq (.block 1 k64_17) k64_19
def k64_21 : ACode := .seq k64_4 k64_20
def k64_22 : ACode := .loop k64_21
def k64_23 : ACode := .block 0 k64_22
def k64_24 : ACode := .seq (.region k64_o1) k64_23
abbrev k64_o9 : List AJ := [.o ⟨(some 52), none, false, .mv (.t 0), none⟩, .o ⟨(some 53), none, false, .len (.t 52), none⟩, .o ⟨(some 54), none, false, .bin .leq (.t 53) (.c (.int .i64 24)), none⟩, .o ⟨(some 2), none, false, .mv (.t 54), (some [2])⟩]
def k64_26 : ACode := .seq (.region k64_o9) .ret
def k64_27 : ACode := .seq k64_24 k64_26
def k64_28 : ACode := .seq (.region k64_o0) k64_27
@[simp, simp ↓] theorem k64_3r : rC k64_3 (.t 8) .skip (.exit 0) := zC rfl
@[simp, simp ↓] theorem k64_4r : sR k64_4 k64_o2 k64_3 := yR rfl
@[simp, simp ↓] theorem k64_8r : sR k64_8 k64_o5 .ret := yR rfl
@[simp, simp ↓] theorem k64_9r : rC k64_9 (.t 42) k64_8 .skip := zC rfl
@[simp, simp ↓] theorem k64_10r : sR k64_10 k64_o4 k64_9 := yR rfl
@[simp, simp ↓] theorem k64_13r : sR k64_13 k64_o7 .ret := yR rfl
@[simp, simp ↓] theorem k64_14r : rC k64_14 (.t 51) k64_13 .skip := zC rfl
@[simp, simp ↓] theorem k64_15r : sR k64_15 k64_o6 k64_14 := yR rfl
@[simp, simp ↓] theorem k64_16r : rS k64_16 k64_10 k64_15 := zS rfl
@[simp, simp ↓] theorem k64_17r : sR k64_17 k64_o3 k64_16 := yR rfl
@[simp, simp ↓] theorem k64_19r : rR k64_19 k64_o8 := zR rfl
@[simp, simp ↓] theorem k64_20r : sB k64_20 1 k64_17 k64_19 := yB rfl
@[simp, simp ↓] theorem k64_21r : rS k64_21 k64_4 k64_20 := zS rfl
@[simp, simp ↓] theorem k64_22r : rL k64_22 k64_21 := zL rfl
@[simp, simp ↓] theorem k64_23r : rB k64_23 0 k64_22 := zB rfl
@[simp, simp ↓] theorem k64_24r : sR k64_24 k64_o1 k64_23 := yR rfl
@[simp, simp ↓] theorem k64_26r : sR k64_26 k64_o9 .ret := yR rfl
@[simp, simp ↓] theorem k64_27r : rS k64_27 k64_24 k64_26 := zS rfl
@[simp, simp ↓] theorem k64_28r : sR k64_28 k64_o0 k64_27 := yR rfl
noncomputable abbrev k64_C : Orc → Cx := mkC Try.prog [4] 64 55 [.tmp 2]
theorem k64_of0 : OfP0 Try.prog Try.f64 64 55 k64_C k64_28 := @ofP0 _ _ _ _ _ _ _ _ Try.func64 (by decide +kernel) rfl (by kernel_rfl) rfl (by kernel_rfl)
theorem l21List_cL (l : List T) (h : Heap) (hl : l.length ≤ 4194304) (ok : ∀ t ∈ l, t.ok) : ACalls Try.prog 64 [.snap 3 (l.map T.av)] h (fun v h' => v = .bool (decide (validB l)) ∧ h' = h) := by
  refine k64_of0 rfl orc3_p fun I => ?_
  refine Run2.of I 1000 ?_
  simp -implicitDefEqProofs
  refine Run2.loop (fun i => [(0, .snap 3 (l.map T.av)), (3, .int .i64 (i : Nat))]) (fun i => h) (fun i => l.length - i) (fun i => i ≤ l.length ∧ good l i) 0 ⟨Nat.zero_le _, fun _ _ h => absurd h (Nat.not_lt_zero _)⟩ fun i hi ih => ?_
  by_cases hlt : i < l.length
  · have hok := ok _ (List.getElem_mem hlt)
    have hbad := not_validB hlt
    have go := fun h1 => ih (i + 1) ⟨by omega, (good_succ hlt).2 ⟨hi.2, h1⟩⟩ (by omega)
    clear ih
    refine Run2.of I 1000 ?_
    cases i with
    | zero =>
      simp -implicitDefEqProofs [hlt]
      simp [T.el] at go hbad
      repeat' (first | refine And.intro ?_ ?_ | intro _)
      all_goals first | omega | grind
    | succ i =>
      have hlt' : i < l.length := by omega
      have hp := (hi.2 i hlt' (by omega)).1
      have hc : ((i : Int) + 1 - 1).toNat = i := by omega
      have hb := fun (h1 : l[i + 1].el) => T.bef_iff h1 hp
      simp -implicitDefEqProofs [hlt, hlt', hc]
      simp [T.el] at go hbad hb
      repeat' (first | refine And.intro ?_ ?_ | intro _)
      all_goals first | omega | grind
  · obtain rfl : i = l.length := by omega
    refine Run2.of I 1000 ?_
    simp -implicitDefEqProofs
    simp [validB, hi.2]
    omega
abbrev k71_o0 : List AJ := [.o ⟨(some 2), none, false, .mv (.c (.bool false)), (some [0])⟩]
abbrev k71_o1 : List AJ := [.o ⟨(some 5), none, false, .mv (.t 0), none⟩, .o ⟨(some 6), none, false, .len (.t 5), none⟩, .o ⟨(some 7), none, false, .mv (.c (.int .i64 0)), (some [0, 5, 6, 7])⟩]
abbrev k71_o2 : List AJ := [.o ⟨(some 8), none, false, .bin .lss (.t 7) (.t 6), (some [0, 5, 6, 7, 8])⟩]
abbrev k71_o3 : List AJ := [.o ⟨(some 9), none, false, .mv (.t 7), none⟩, .o ⟨(some 10), none, false, .idxA 3 (.t 5) (.t 7), none⟩, .o ⟨(some 11), none, false, .load 3 true (.t 10), none⟩, .v 4 3 (.agg [(.int .i64 0), (.int .i64 0), (.int .i64 0)]) [(3, (.t 9))] (.t 11) (some [0, 3, 4, 5, 6, 7])]
abbrev k71_o4 : List AJ := [.o ⟨(some 12), none, false, .fieldA 0 (.t 4), none⟩, .o ⟨(some 13), none, false, .load 1 false (.t 12), none⟩, .o ⟨(some 14), none, false, .call 72 [(.t 13)], none⟩, .o ⟨(some 15), none, false, .un .not (.t 14), none⟩, .o ⟨(some 16), none, false, .mv (.t 15), none⟩, .o ⟨(some 17), (some (16, false)), false, .fieldA 1 (.t 4), none⟩, .o ⟨(some 18), (some (16, false)), false, .load 1 false (.t 17), none⟩, .o ⟨(some 19), (some (16, false)), false, .call 120 [(.t 18)], none⟩, .o ⟨(some 20), (some (16, false)), false, .un .not (.t 19), none⟩, .o ⟨(some 21), none, false, .pick (.t 16) (.c (.bool true)) (.t 20), (some [0, 3, 4, 5, 6, 7, 21])⟩, .o ⟨(some 22), none, false, .mv (.t 21), none⟩, .o ⟨(some 23), (some (22, false)), false, .fieldA 2 (.t 4), none⟩, .o ⟨(some 24), (some (22, false)), false, .load 1 false (.t 23), none⟩, .o ⟨(some 25), (some (22, false)), false, .bin .neq (.t 24) (.c (.int .i64 (-1))), none⟩, .o ⟨(some 26), (some (22, false)), false, .mv (.t 25), none⟩, .o ⟨(some 27), (some (26, true)), false, .fieldA 2 (.t 4), none⟩, .o ⟨(some 28), (some (26, true)), false, .load 1 false (.t 27), none⟩, .o ⟨(some 29), (some (26, true)), false, .fieldA 1 (.t 4), (some [0, 3, 4, 5, 6, 7, 22, 26, 28, 29])⟩, .o ⟨(some 30), (some (26, true)), false, .load 1 false (.t 29), none⟩, .o ⟨(some 31), (some (26, true)), true, .bin .add (.t 30) (.c (.int .i64 1)), none⟩, .o ⟨(some 32), (some (26, true)), false, .call 91 [(.t 28), (.t 31), (.c (.int .i64 1000))], none⟩, .o ⟨(some 33), (some (26, true)), false, .un .not (.t 32), none⟩, .o ⟨(some 34), (some (22, false)), false, .pick (.t 26) (.t 33) (.c (.bool false)), none⟩, .o ⟨(some 35), none, false, .pick (.t 22) (.c (.bool true)) (.t 34), (some [0, 3, 4, 5, 6, 7, 35])⟩]
abbrev k71_o5 : List AJ := [.o ⟨(some 2), none, false, .mv (.c (.bool false)), (some [2])⟩]
def k71_7 : ACode := .seq (.region k71_o5) .ret
def k71_8 : ACode := .cond (.t 35) k71_7 .skip
def k71_9 : ACode := .seq (.region k71_o4) k71_8
abbrev k71_o6 : List AI := [⟨(some 36), none, false, .mv (.t 3), none⟩, ⟨(some 37), none, false, .bin .gtr (.t 36) (.c (.int .i64 0)), none⟩, ⟨(some 38), none, false, .mv (.t 37), none⟩, ⟨(some 39), (some (38, true)), false, .mv (.t 0), none⟩, ⟨(some 40), (some (38, true)), false, .mv (.t 3), none⟩, ⟨(some 41), (some (38, true)), true, .bin .sub (.t 40) (.c (.int .i64 1)), none⟩, ⟨(some 42), (some (38, true)), false, .idxA 3 (.t 39) (.t 41), none⟩, ⟨(some 43), (some (38, true)), false, .load 3 true (.t 42), none⟩, ⟨(some 44), (some (38, true)), false, .load 3 true (.t 4), (some [0, 5, 6, 7, 38, 43, 44])⟩, ⟨(some 45), (some (38, true)), false, .call 121 [(.t 43), (.t 44)], none⟩, ⟨(some 46), (some (38, true)), false, .bin .gtr (.t 45) (.c (.int .i64 0)), none⟩, ⟨(some 47), none, false, .pick (.t 38) (.t 46) (.c (.bool false)), (some [0, 5, 6, 7, 47])⟩]
abbrev k71_o7 : List AJ := [.o ⟨(some 2), none, false, .mv (.c (.bool false)), (some [2])⟩]
def k71_12 : ACode := .seq (.region k71_o7) .ret
def k71_13 : ACode := .cond (.t 47) k71_12 .skip
def k71_14 : ACode := .seq (.draw k71_o6 [] rfl) k71_13
def k71_15 : ACode := .seq k71_9 k71_14
def k71_16 : ACode := .seq (.region k71_o3) k71_15
abbrev k71_o8 : List AJ := [.o ⟨(some 48), none, true, .bin .add (.t 7) (.c (.int .i64 1)), none⟩, .o ⟨(some 7), none, false, .mv (.t 48), (some [0, 5, 6, 7])⟩]
def k71_18 : ACode := .region k71_o8
def k71_19 : ACode := .seq (.block 1 k71_16) k71_18
def k71_20 : ACode := .seq (.cond (.t 8) .skip (.exit 0)) k71_19
def k71_21 : ACode := .seq (.region k71_o2) k71_20
def k71_22 : ACode := .loop k71_21
def k71_23 : ACode := .block 0 k71_22
def k71_24 : ACode := .seq (.region k71_o1) k71_23
abbrev k71_o9 : List AJ := [.o ⟨(some 49), none, false, .mv (.t 0), none⟩, .o ⟨(some 50), none, false, .len (.t 49), none⟩, .o ⟨(some 51), none, false, .bin .leq (.t 50) (.c (.int .i64 24)), none⟩, .o ⟨(some 2), none, false, .mv (.t 51), (some [2])⟩]
def k71_26 : ACode := .seq (.region k71_o9) .ret
def k71_27 : ACode := .seq k71_24 k71_26
def k71_28 : ACode := .seq (.region k71_o0) k71_27
@[simp, simp ↓] theorem k71_7r : sR k71_7 k71_o5 .ret := yR rfl
@[simp, simp ↓] theorem k71_8r : rC k71_8 (.t 35) k71_7 .skip := zC rfl
@[simp, simp ↓] theorem k71_9r : sR k71_9 k71_o4 k71_8 := yR rfl
@[simp, simp ↓] theorem k71_12r : sR k71_12 k71_o7 .ret := yR rfl
@[simp, simp ↓] theorem k71_13r : rC k71_13 (.t 47) k71_12 .skip := zC rfl
@[simp, simp ↓] theorem k71_14r : sD k71_14 k71_o6 [] k71_13 := yD rfl
@[simp, simp ↓] theorem k71_15r : rS k71_15 k71_9 k71_14 := zS rfl
@[simp, simp ↓] theorem k71_16r : sR k71_16 k71_o3 k71_15 := yR rfl
@[simp, simp ↓] theorem k71_18r : rR k71_18 k71_o8 := zR rfl
@[simp, simp ↓] theorem k71_19r : sB k71_19 1 k71_16 k71_18 := yB rfl
@[simp, simp ↓] theorem k71_20r : sC k71_20 (.t 8) .skip (.exit 0) k71_19 := yC rfl
@[simp, simp ↓] theorem k71_21r : sR k71_21 k71_o2 k71_20 := yR rfl
@[simp, simp ↓] theorem k71_22r : rL k71_22 k71_21 := zL rfl
@[simp, simp ↓] theorem k71_23r : rB k71_23 0 k71_22 := zB rfl
@[simp, simp ↓] theorem k71_24r : sR k71_24 k71_o1 k71_23 := yR rfl
@[simp, simp ↓] theorem k71_26r : sR k71_26 k71_o9 .ret := yR rfl
@[simp, simp ↓] theorem k71_27r : rS k71_27 k71_24 k71_26 := zS rfl
@[simp, simp ↓] theorem k71_28r : sR k71_28 k71_o0 k71_27 := yR rfl
noncomputable abbrev k71_C : Orc → Cx := mkC Try.prog [4] 71 52 [.tmp 2]
theorem k71_of0 : OfP0 Try.prog Try.f71 71 52 k71_C k71_28 := @ofP0 _ _ _ _ _ _ _ _ Try.func71 (by decide +kernel) rfl (by kernel_rfl) rfl (by kernel_rfl)
theorem valid_cL (l : List T) (h : Heap) (hl : l.length ≤ 4194304) (ok : ∀ t ∈ l, t.ok) : ACalls Try.prog 71 [.snap 3 (l.map T.av)] h (fun v h' => v = .bool (decide (validB l)) ∧ h' = h) := by
  refine k71_of0 rfl orc3_p fun I => ?_
  refine Run2.of I 1000 ?_
  simp -implicitDefEqProofs
  refine Run2.loop (fun i => [(0, .snap 3 (l.map T.av)), (5, .snap 3 (l.map T.av)), (6, .int .i64 l.length), (7, .int .i64 (i : Nat))]) (fun i => h) (fun i => l.length - i) (fun i => i ≤ l.length ∧ good l i) 0 ⟨Nat.zero_le _, fun _ _ h => absurd h (Nat.not_lt_zero _)⟩ fun i hi ih => ?_
  by_cases hlt : i < l.length
  · have hok := ok _ (List.getElem_mem hlt)
    have hbad := not_validB hlt
    have go := fun h1 => ih (i + 1) ⟨by omega, (good_succ hlt).2 ⟨hi.2, h1⟩⟩ (by omega)
    clear ih
    refine Run2.of I 1000 ?_
    cases i with
    | zero =>
      simp -implicitDefEqProofs [hlt]
      simp [T.el] at go hbad
      repeat' (first | refine And.intro ?_ ?_ | intro _)
      all_goals first | omega | (unfold in64; omega) | grind
    | succ i =>
      have hlt' : i < l.length := by omega
      have hc : ((i : Int) + 1 - 1).toNat = i := by omega
      simp -implicitDefEqProofs [hlt, hlt', hc, cmpB_pos]
      simp [T.el] at go hbad
      repeat' (first | refine And.intro ?_ ?_ | intro _)
      all_goals first | omega | (unfold in64; omega) | grind
  · obtain rfl : i = l.length := by omega
    refine Run2.of I 1000 ?_
    simp -implicitDefEqProofs
    simp [validB, hi.2]
    omega
theorem l21List_c (l : List T) (h : Heap) (hl : l.length ≤ 1048576) (ok : ∀ t ∈ l, t.ok) : ACalls Try.prog 64 [.snap 3 (l.map T.av)] h (fun v h' => v = .bool (decide (validB l)) ∧ h' = h) := l21List_cL l h (by omega) ok
theorem valid_c (l : List T) (h : Heap) (hl : l.length ≤ 1048576) (ok : ∀ t ∈ l, t.ok) : ACalls Try.prog 71 [.snap 3 (l.map T.av)] h (fun v h' => v = .bool (decide (validB l)) ∧ h' = h) := valid_cL l h (by omega) ok
noncomputable def o_l21List : List AV → Option (Prop × AV) := tab (fun (x : List T) => match x with | l => [.snap 3 (l.map T.av)]) (fun x => match x with | l => (l.length ≤ 1048576 ∧ okB l)) (fun x => match x with | l => .bool (decide (validB l)))
@[simp] theorem o_l21List_e (l : List T) : o_l21List [.snap 3 (l.map T.av)] = some ((l.length ≤ 1048576 ∧ okB l), .bool (decide (validB l))) := tab_at (enc := fun (x : List T) => match x with | l => [.snap 3 (l.map T.av)]) (fun x y h => by
  simp at h; simp [h] <;> omega) _ _ l
theorem o_l21List_k : Knows Try.prog 64 o_l21List := tab_knows fun x hx h => by
  exact l21List_c x h hx.1 hx.2
noncomputable def o_valid : List AV → Option (Prop × AV) := tab (fun (x : List T) => match x with | l => [.snap 3 (l.map T.av)]) (fun x => match x with | l => (l.length ≤ 1048576 ∧ okB l)) (fun x => match x with | l => .bool (decide (validB l)))
@[simp] theorem o_valid_e (l : List T) : o_valid [.snap 3 (l.map T.av)] = some ((l.length ≤ 1048576 ∧ okB l), .bool (decide (validB l))) := tab_at (enc := fun (x : List T) => match x with | l => [.snap 3 (l.map T.av)]) (fun x y h => by
  simp at h; simp [h] <;> omega) _ _ l
theorem o_valid_k : Knows Try.prog 71 o_valid := tab_knows fun x hx h => by
  exact valid_c x h hx.1 hx.2
noncomputable def orcV : List (Nat × (List AV → Option (Prop × AV))) := (64, o_l21List) :: (71, o_valid) :: orc3
theorem orcV_p : Pure Try.prog (lk orcV) := (lk_pure o_l21List_k (lk_pure o_valid_k orc3_p))
@[simp] theorem orcV_l (b : Bool) (g : FuncId) (l : List AV) : lk orcV b g l = if g = 64 then o_l21List l else if g = 71 then o_valid l else lk orc3 b g l := nr rfl
end Go.AG
