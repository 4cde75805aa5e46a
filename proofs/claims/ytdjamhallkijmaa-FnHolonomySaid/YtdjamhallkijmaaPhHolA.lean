/- Sums along paths: what the program's and the reference's functions give. No statement is made here. -/
import Derived.Test.YtdjamhallkijmaaPhC
namespace Go.AG
open Go.Proofs Go.Proofs.Ytdjamhallkijmaa
set_option linter.unusedSimpArgs false
set_option linter.unusedVariables false
set_option maxRecDepth 4000
def T.joins (a b : Int) (t : T) : Bool := decide (t.f = a ∧ t.t = b) || decide (t.f = b ∧ t.t = a)
/-- The difference along an edge, if there is one. -/
def Ph.step (x : Ph) (a b : Int) : Option Int := (x.ts.find? (T.joins a b)).map fun t => if t.f = a ∧ t.t = b then t.s else x.m - t.s
def stepAV : Option Int → AV
  | some d => .tup [.int .i64 d, .bool true]
  | none => .tup [.int .i64 0, .bool false]
@[simp] theorem stepAV_s (d : Int) : stepAV (some d) = .tup [.int .i64 d, .bool true] := rfl
@[simp] theorem stepAV_n : stepAV none = .tup [.int .i64 0, .bool false] := rfl
theorem find_at {α : Type} {q : α → Bool} {l : List α} {i : Nat} (h : i < l.length) (hb : ∀ j (hj : j < l.length), j < i → q l[j] = false) (ht : q l[i] = true) : l.find? q = some l[i] := by
  rw [List.find?_eq_some_iff_getElem]
  exact ⟨ht, i, h, rfl, fun j hj => by simp [hb j (by omega) hj]⟩
theorem find_none {α : Type} {q : α → Bool} {l : List α} (hb : ∀ j (hj : j < l.length), q l[j] = false) : l.find? q = none := by
  rw [List.find?_eq_none]
  intro a ha
  obtain ⟨j, hj, rfl⟩ := List.mem_iff_getElem.1 ha
  simp [hb j hj]
theorem Ph.step_at {x : Ph} {a b : Int} {i : Nat} (h : i < x.ts.length) (hb : ∀ j (hj : j < x.ts.length), j < i → T.joins a b x.ts[j] = false) :
    (x.ts[i].f = a → x.ts[i].t = b → x.step a b = some x.ts[i].s) ∧ (¬ (x.ts[i].f = a ∧ x.ts[i].t = b) → x.ts[i].f = b → x.ts[i].t = a → x.step a b = some (x.m - x.ts[i].s)) := by
  unfold Ph.step
  constructor
  · intro h1 h2
    rw [find_at h hb (by simp [T.joins, h1, h2])]
    simp [h1, h2]
  · intro h0 h1 h2
    rw [find_at h hb (by simp [T.joins, h1, h2])]
    simp only [Option.map_some, if_neg h0]
theorem Ph.step_none {x : Ph} {a b : Int} (hb : ∀ j (hj : j < x.ts.length), T.joins a b x.ts[j] = false) : x.step a b = none := by
  unfold Ph.step
  rw [find_none hb]; rfl
theorem upto_succ {P : Nat → Prop} {i : Nat} (h : ∀ j, j < i → P j) (hi : P i) : ∀ j, j < i + 1 → P j := fun j hj => by
  rcases Nat.lt_or_ge j i with h' | h'
  · exact h j h'
  · obtain rfl : j = i := by omega
    exact hi
abbrev k65_o0 : List AJ := [.o ⟨(some 6), none, false, .mv (.c (.int .i64 0)), none⟩, .o ⟨(some 7), none, false, .mv (.c (.bool false)), (some [0, 1, 2])⟩]
abbrev k65_o1 : List AJ := [.o ⟨(some 8), none, false, .mv (.c (.int .i64 0)), (some [0, 1, 2, 8])⟩]
abbrev k65_o2 : List AJ := [.o ⟨(some 10), none, false, .mv (.t 8), none⟩, .o ⟨(some 11), none, false, .mv (.t 0), none⟩, .o ⟨(some 12), none, false, .nilchk (.t 11), none⟩, .o ⟨(some 13), none, false, .fieldA 2 (.t 12), none⟩, .o ⟨(some 14), none, false, .load 1 false (.t 13), none⟩, .o ⟨(some 15), none, false, .len (.t 14), none⟩, .o ⟨(some 16), none, false, .bin .lss (.t 10) (.t 15), (some [0, 1, 2, 8, 16])⟩]
def k65_3 : ACode := .cond (.t 16) .skip (.exit 0)
def k65_4 : ACode := .seq (.region k65_o2) k65_3
abbrev k65_o3 : List AJ := [.o ⟨(some 19), none, false, .mv (.t 0), none⟩, .o ⟨(some 20), none, false, .nilchk (.t 19), none⟩, .o ⟨(some 21), none, false, .fieldA 2 (.t 20), none⟩, .o ⟨(some 22), none, false, .load 1 false (.t 21), none⟩, .o ⟨(some 23), none, false, .mv (.t 8), none⟩, .o ⟨(some 24), none, false, .idxA 3 (.t 22) (.t 23), none⟩, .o ⟨(some 25), none, false, .load 3 true (.t 24), none⟩, .v 9 3 (.agg [(.int .i64 0), (.int .i64 0), (.int .i64 0)]) [] (.t 25) (some [0, 1, 2, 8, 9])]
abbrev k65_o4 : List AJ := [.o ⟨(some 26), none, false, .fieldA 0 (.t 9), none⟩, .o ⟨(some 27), none, false, .load 1 false (.t 26), none⟩, .o ⟨(some 28), none, false, .mv (.t 1), none⟩, .o ⟨(some 29), none, false, .bin .eql (.t 27) (.t 28), none⟩, .o ⟨(some 30), none, false, .mv (.t 29), none⟩, .o ⟨(some 31), (some (30, true)), false, .fieldA 1 (.t 9), none⟩, .o ⟨(some 32), (some (30, true)), false, .load 1 false (.t 31), none⟩, .o ⟨(some 33), (some (30, true)), false, .mv (.t 2), none⟩, .o ⟨(some 34), (some (30, true)), false, .bin .eql (.t 32) (.t 33), none⟩, .o ⟨(some 35), none, false, .pick (.t 30) (.t 34) (.c (.bool false)), (some [0, 1, 2, 8, 9, 35])⟩]
abbrev k65_o5 : List AJ := [.o ⟨(some 36), none, false, .fieldA 2 (.t 9), none⟩, .o ⟨(some 37), none, false, .load 1 false (.t 36), none⟩, .o ⟨(some 6), none, false, .mv (.t 37), none⟩, .o ⟨(some 7), none, false, .mv (.c (.bool true)), (some [6, 7])⟩]
def k65_8 : ACode := .seq (.region k65_o5) .ret
def k65_9 : ACode := .cond (.t 35) k65_8 .skip
def k65_10 : ACode := .seq (.region k65_o4) k65_9
abbrev k65_o6 : List AJ := [.o ⟨(some 38), none, false, .fieldA 0 (.t 9), none⟩, .o ⟨(some 39), none, false, .load 1 false (.t 38), none⟩, .o ⟨(some 40), none, false, .mv (.t 2), none⟩, .o ⟨(some 41), none, false, .bin .eql (.t 39) (.t 40), none⟩, .o ⟨(some 42), none, false, .mv (.t 41), none⟩, .o ⟨(some 43), (some (42, true)), false, .fieldA 1 (.t 9), none⟩, .o ⟨(some 44), (some (42, true)), false, .load 1 false (.t 43), none⟩, .o ⟨(some 45), (some (42, true)), false, .mv (.t 1), none⟩, .o ⟨(some 46), (some (42, true)), false, .bin .eql (.t 44) (.t 45), none⟩, .o ⟨(some 47), none, false, .pick (.t 42) (.t 46) (.c (.bool false)), (some [0, 1, 2, 8, 9, 47])⟩]
abbrev k65_o7 : List AI := [⟨(some 48), none, false, .mv (.t 0), none⟩, ⟨(some 49), none, false, .nilchk (.t 48), none⟩, ⟨(some 50), none, false, .fieldA 1 (.t 49), none⟩, ⟨(some 51), none, false, .load 1 false (.t 50), none⟩, ⟨(some 52), none, false, .fieldA 2 (.t 9), none⟩, ⟨(some 53), none, false, .load 1 false (.t 52), none⟩, ⟨(some 54), none, true, .bin .sub (.t 51) (.t 53), none⟩, ⟨(some 55), none, false, .mv (.t 0), none⟩, ⟨(some 56), none, false, .nilchk (.t 55), none⟩, ⟨(some 57), none, false, .fieldA 1 (.t 56), none⟩, ⟨(some 58), none, false, .load 1 false (.t 57), none⟩, ⟨(some 59), none, false, .bin .rem (.t 54) (.t 58), none⟩, ⟨(some 6), none, false, .mv (.t 59), none⟩, ⟨(some 7), none, false, .mv (.c (.bool true)), (some [6, 7])⟩]
def k65_13 : ACode := .seq (.draw k65_o7 [] rfl) .ret
def k65_14 : ACode := .cond (.t 47) k65_13 .skip
def k65_15 : ACode := .seq (.region k65_o6) k65_14
def k65_16 : ACode := .seq k65_10 k65_15
def k65_17 : ACode := .seq (.region k65_o3) k65_16
abbrev k65_o8 : List AJ := [.o ⟨(some 17), none, false, .mv (.t 8), none⟩, .o ⟨(some 18), none, true, .bin .add (.t 17) (.c (.int .i64 1)), none⟩, .o ⟨(some 8), none, false, .mv (.t 18), (some [0, 1, 2, 8])⟩]
def k65_19 : ACode := .region k65_o8
def k65_20 : ACode := .seq (.block 1 k65_17) k65_19
def k65_21 : ACode := .seq k65_4 k65_20
def k65_22 : ACode := .loop k65_21
def k65_23 : ACode := .block 0 k65_22
def k65_24 : ACode := .seq (.region k65_o1) k65_23
abbrev k65_o9 : List AJ := [.o ⟨(some 6), none, false, .mv (.c (.int .i64 0)), none⟩, .o ⟨(some 7), none, false, .mv (.c (.bool false)), (some [6, 7])⟩]
def k65_26 : ACode := .seq (.region k65_o9) .ret
def k65_27 : ACode := .seq k65_24 k65_26
def k65_28 : ACode := .seq (.region k65_o0) k65_27
@[simp, simp ↓] theorem k65_3r : rC k65_3 (.t 16) .skip (.exit 0) := zC rfl
@[simp, simp ↓] theorem k65_4r : sR k65_4 k65_o2 k65_3 := yR rfl
@[simp, simp ↓] theorem k65_8r : sR k65_8 k65_o5 .ret := yR rfl
@[simp, simp ↓] theorem k65_9r : rC k65_9 (.t 35) k65_8 .skip := zC rfl
@[simp, simp ↓] theorem k65_10r : sR k65_10 k65_o4 k65_9 := yR rfl
@[simp, simp ↓] theorem k65_13r : sD k65_13 k65_o7 [] .ret := yD rfl
@[simp, simp ↓] theorem k65_14r : rC k65_14 (.t 47) k65_13 .skip := zC rfl
@[simp, simp ↓] theorem k65_15r : sR k65_15 k65_o6 k65_14 := yR rfl
@[simp, simp ↓] theorem k65_16r : rS k65_16 k65_10 k65_15 := zS rfl
@[simp, simp ↓] theorem k65_17r : sR k65_17 k65_o3 k65_16 := yR rfl
@[simp, simp ↓] theorem k65_19r : rR k65_19 k65_o8 := zR rfl
@[simp, simp ↓] theorem k65_20r : sB k65_20 1 k65_17 k65_19 := yB rfl
@[simp, simp ↓] theorem k65_21r : rS k65_21 k65_4 k65_20 := zS rfl
@[simp, simp ↓] theorem k65_22r : rL k65_22 k65_21 := zL rfl
@[simp, simp ↓] theorem k65_23r : rB k65_23 0 k65_22 := zB rfl
@[simp, simp ↓] theorem k65_24r : sR k65_24 k65_o1 k65_23 := yR rfl
@[simp, simp ↓] theorem k65_26r : sR k65_26 k65_o9 .ret := yR rfl
@[simp, simp ↓] theorem k65_27r : rS k65_27 k65_24 k65_26 := zS rfl
@[simp, simp ↓] theorem k65_28r : sR k65_28 k65_o0 k65_27 := yR rfl
noncomputable abbrev k65_C : Orc → Cx := mkC Try.prog [9] 65 60 [.tmp 6, .tmp 7]
theorem k65_of0 : OfP0 Try.prog Try.f65 65 60 k65_C k65_28 := @ofP0 _ _ _ _ _ _ _ _ Try.func65 (by decide +kernel) rfl (by kernel_rfl) rfl (by kernel_rfl)
theorem l23Step_c (x : Ph) (a b : Int) (h : Heap) (hv : x.valid) : ACalls Try.prog 65 [.ip [.int .i64 x.n, .int .i64 x.m, .snap 3 (x.ts.map T.av)], .int .i64 a, .int .i64 b] h (fun v h' => v = stepAV ((x.step a b).map (· % x.m)) ∧ h' = h) := by
  have hm1 := hv.2.2.1
  have hm2 := hv.2.2.2.1
  have hl := hv.2.2.2.2.2
  refine k65_of0 rfl noPure fun I => ?_
  refine Run2.of I 1000 ?_
  simp -implicitDefEqProofs
  refine Run2.loopE (fun i => [(0, .ip [.int .i64 x.n, .int .i64 x.m, .snap 3 (x.ts.map T.av)]), (1, .int .i64 a), (2, .int .i64 b), (8, .int .i64 (i : Nat))]) (fun i => h) (fun i => x.ts.length - i) (fun i => i ≤ x.ts.length ∧ ∀ j, j < i → (hj : j < x.ts.length) → T.joins a b x.ts[j] = false) 0 (by simp) rfl (by simp) fun i hi ih => ?_
  by_cases hlt : i < x.ts.length
  · obtain ⟨e1, e2, e3, e4, e5⟩ := Ph.edge hv hlt
    obtain ⟨s1, s2⟩ := Ph.step_at (a := a) (b := b) hlt fun j hj hji => hi.2 j hji hj
    have go := fun (h1 : T.joins a b x.ts[i] = false) => ih (i + 1) ⟨by omega, upto_succ hi.2 fun _ => h1⟩ (by omega)
    have hs := Int.emod_eq_of_lt e4 e5
    have ht : (x.m - x.ts[i].s).tmod x.m = (x.m - x.ts[i].s) % x.m := Int.tmod_eq_emod_of_nonneg (by omega)
    clear ih
    refine Run2.of I 1000 ?_
    simp -implicitDefEqProofs [hlt, ht]
    simp [T.joins] at go
    repeat' (first | refine And.intro ?_ ?_ | intro _)
    all_goals first | omega | exact go (by omega) (by omega) | (rw [s1 (by omega) (by omega)]; simp [*]; done) | (rw [s2 (by omega) (by omega) (by omega)]; simp [*]; done)
  · obtain rfl : i = x.ts.length := by omega
    have := Ph.step_none (x := x) (a := a) (b := b) fun j hj => hi.2 j hj hj
    refine Run2.of I 1000 ?_
    simp -implicitDefEqProofs [this]
abbrev k61_o0 : List AJ := [.o ⟨(some 3), none, false, .box false 3 (.t 0), none⟩, .o ⟨(some 6), none, false, .mv (.c (.int .i64 0)), none⟩, .o ⟨(some 7), none, false, .mv (.c (.bool false)), (some [1, 2, 3])⟩]
abbrev k61_o1 : List AJ := [.o ⟨(some 10), none, false, .fieldA 2 (.t 3), none⟩, .o ⟨(some 11), none, false, .load 1 false (.t 10), none⟩, .o ⟨(some 12), none, false, .len (.t 11), none⟩, .o ⟨(some 13), none, false, .mv (.c (.int .i64 0)), (some [1, 2, 3, 11, 12, 13])⟩]
abbrev k61_o2 : List AJ := [.o ⟨(some 14), none, false, .bin .lss (.t 13) (.t 12), (some [1, 2, 3, 11, 12, 13, 14])⟩]
abbrev k61_o3 : List AJ := [.o ⟨(some 15), none, false, .idxA 3 (.t 11) (.t 13), none⟩, .o ⟨(some 16), none, false, .load 3 true (.t 15), none⟩, .v 9 3 (.agg [(.int .i64 0), (.int .i64 0), (.int .i64 0)]) [] (.t 16) (some [1, 2, 3, 9, 11, 12, 13])]
abbrev k61_o4 : List AJ := [.o ⟨(some 18), none, false, .fieldA 0 (.t 9), none⟩, .o ⟨(some 19), none, false, .load 1 false (.t 18), none⟩, .o ⟨(some 20), none, false, .mv (.t 1), none⟩, .o ⟨(some 21), none, false, .bin .eql (.t 19) (.t 20), none⟩, .o ⟨(some 22), none, false, .mv (.t 21), none⟩, .o ⟨(some 23), (some (22, true)), false, .fieldA 1 (.t 9), none⟩, .o ⟨(some 24), (some (22, true)), false, .load 1 false (.t 23), none⟩, .o ⟨(some 25), (some (22, true)), false, .mv (.t 2), none⟩, .o ⟨(some 26), (some (22, true)), false, .bin .eql (.t 24) (.t 25), none⟩, .o ⟨(some 27), none, false, .pick (.t 22) (.t 26) (.c (.bool false)), (some [1, 2, 3, 9, 11, 12, 13, 27])⟩, .o ⟨(some 17), none, false, .mv (.t 27), (some [1, 2, 3, 9, 11, 12, 13, 17])⟩]
abbrev k61_o5 : List AJ := [.o ⟨(some 28), none, false, .fieldA 2 (.t 9), none⟩, .o ⟨(some 29), none, false, .load 1 false (.t 28), none⟩, .o ⟨(some 6), none, false, .mv (.t 29), none⟩, .o ⟨(some 7), none, false, .mv (.c (.bool true)), (some [6, 7])⟩]
def k61_7 : ACode := .seq (.region k61_o5) .ret
abbrev k61_o6 : List AJ := [.o ⟨(some 31), none, false, .fieldA 0 (.t 9), none⟩, .o ⟨(some 32), none, false, .load 1 false (.t 31), none⟩, .o ⟨(some 33), none, false, .mv (.t 2), none⟩, .o ⟨(some 34), none, false, .bin .eql (.t 32) (.t 33), none⟩, .o ⟨(some 35), none, false, .mv (.t 34), none⟩, .o ⟨(some 36), (some (35, true)), false, .fieldA 1 (.t 9), none⟩, .o ⟨(some 37), (some (35, true)), false, .load 1 false (.t 36), none⟩, .o ⟨(some 38), (some (35, true)), false, .mv (.t 1), none⟩, .o ⟨(some 39), (some (35, true)), false, .bin .eql (.t 37) (.t 38), none⟩, .o ⟨(some 40), none, false, .pick (.t 35) (.t 39) (.c (.bool false)), (some [1, 2, 3, 9, 11, 12, 13, 40])⟩, .o ⟨(some 30), none, false, .mv (.t 40), (some [1, 2, 3, 9, 11, 12, 13, 30])⟩]
abbrev k61_o7 : List AJ := [.o ⟨(some 41), none, false, .fieldA 1 (.t 3), none⟩, .o ⟨(some 42), none, false, .load 1 false (.t 41), none⟩, .o ⟨(some 43), none, false, .fieldA 2 (.t 9), none⟩, .o ⟨(some 44), none, false, .load 1 false (.t 43), none⟩, .o ⟨(some 45), none, true, .bin .sub (.t 42) (.t 44), none⟩, .o ⟨(some 6), none, false, .mv (.t 45), none⟩, .o ⟨(some 7), none, false, .mv (.c (.bool true)), (some [6, 7])⟩]
def k61_10 : ACode := .seq (.region k61_o7) .ret
def k61_11 : ACode := .cond (.t 30) k61_10 .skip
def k61_12 : ACode := .seq (.region k61_o6) k61_11
def k61_13 : ACode := .cond (.t 17) k61_7 k61_12
def k61_14 : ACode := .seq (.region k61_o4) k61_13
def k61_15 : ACode := .block 2 k61_14
def k61_16 : ACode := .seq (.region k61_o3) k61_15
abbrev k61_o8 : List AJ := [.o ⟨(some 46), none, true, .bin .add (.t 13) (.c (.int .i64 1)), none⟩, .o ⟨(some 13), none, false, .mv (.t 46), (some [1, 2, 3, 11, 12, 13])⟩]
def k61_18 : ACode := .region k61_o8
def k61_19 : ACode := .seq (.block 1 k61_16) k61_18
def k61_20 : ACode := .seq (.cond (.t 14) .skip (.exit 0)) k61_19
def k61_21 : ACode := .seq (.region k61_o2) k61_20
def k61_22 : ACode := .loop k61_21
def k61_23 : ACode := .block 0 k61_22
def k61_24 : ACode := .seq (.region k61_o1) k61_23
abbrev k61_o9 : List AJ := [.o ⟨(some 6), none, false, .mv (.c (.int .i64 0)), none⟩, .o ⟨(some 7), none, false, .mv (.c (.bool false)), (some [6, 7])⟩]
def k61_26 : ACode := .seq (.region k61_o9) .ret
def k61_27 : ACode := .seq k61_24 k61_26
def k61_28 : ACode := .seq (.region k61_o0) k61_27
@[simp, simp ↓] theorem k61_7r : sR k61_7 k61_o5 .ret := yR rfl
@[simp, simp ↓] theorem k61_10r : sR k61_10 k61_o7 .ret := yR rfl
@[simp, simp ↓] theorem k61_11r : rC k61_11 (.t 30) k61_10 .skip := zC rfl
@[simp, simp ↓] theorem k61_12r : sR k61_12 k61_o6 k61_11 := yR rfl
@[simp, simp ↓] theorem k61_13r : rC k61_13 (.t 17) k61_7 k61_12 := zC rfl
@[simp, simp ↓] theorem k61_14r : sR k61_14 k61_o4 k61_13 := yR rfl
@[simp, simp ↓] theorem k61_15r : rB k61_15 2 k61_14 := zB rfl
@[simp, simp ↓] theorem k61_16r : sR k61_16 k61_o3 k61_15 := yR rfl
@[simp, simp ↓] theorem k61_18r : rR k61_18 k61_o8 := zR rfl
@[simp, simp ↓] theorem k61_19r : sB k61_19 1 k61_16 k61_18 := yB rfl
@[simp, simp ↓] theorem k61_20r : sC k61_20 (.t 14) .skip (.exit 0) k61_19 := yC rfl
@[simp, simp ↓] theorem k61_21r : sR k61_21 k61_o2 k61_20 := yR rfl
@[simp, simp ↓] theorem k61_22r : rL k61_22 k61_21 := zL rfl
@[simp, simp ↓] theorem k61_23r : rB k61_23 0 k61_22 := zB rfl
@[simp, simp ↓] theorem k61_24r : sR k61_24 k61_o1 k61_23 := yR rfl
@[simp, simp ↓] theorem k61_26r : sR k61_26 k61_o9 .ret := yR rfl
@[simp, simp ↓] theorem k61_27r : rS k61_27 k61_24 k61_26 := zS rfl
@[simp, simp ↓] theorem k61_28r : sR k61_28 k61_o0 k61_27 := yR rfl
noncomputable abbrev k61_C : Orc → Cx := mkC Try.prog [9] 61 47 [.tmp 6, .tmp 7]
theorem k61_of0 : OfP0 Try.prog Try.f61 61 47 k61_C k61_28 := @ofP0 _ _ _ _ _ _ _ _ Try.func61 (by decide +kernel) rfl (by kernel_rfl) rfl (by kernel_rfl)
theorem shiftBetween_w (x : Ph) (a b : Int) (h : Heap) (hm1 : 2 ≤ x.m) (hm2 : x.m ≤ 360) (hl : x.ts.length ≤ 24) (hsh : ∀ (i : Nat) (hi : i < x.ts.length), 0 ≤ x.ts[i].s ∧ x.ts[i].s < x.m) : ACalls Try.prog 61 [x.av, .int .i64 a, .int .i64 b] h (fun v h' => v = stepAV (x.step a b) ∧ h' = h) := by
  refine k61_of0 rfl noPure fun I => ?_
  refine Run2.of I 1000 ?_
  simp -implicitDefEqProofs
  refine Run2.loopE (fun i => [(1, .int .i64 a), (2, .int .i64 b), (3, .ip [.int .i64 x.n, .int .i64 x.m, .snap 3 (x.ts.map T.av)]), (11, .snap 3 (x.ts.map T.av)), (12, .int .i64 x.ts.length), (13, .int .i64 (i : Nat))]) (fun i => h) (fun i => x.ts.length - i) (fun i => i ≤ x.ts.length ∧ ∀ j, j < i → (hj : j < x.ts.length) → T.joins a b x.ts[j] = false) 0 (by simp) rfl (by simp) fun i hi ih => ?_
  by_cases hlt : i < x.ts.length
  · obtain ⟨e4, e5⟩ := hsh i hlt
    obtain ⟨s1, s2⟩ := Ph.step_at (a := a) (b := b) hlt fun j hj hji => hi.2 j hji hj
    have go := fun (h1 : T.joins a b x.ts[i] = false) => ih (i + 1) ⟨by omega, upto_succ hi.2 fun _ => h1⟩ (by omega)
    clear ih
    refine Run2.of I 1000 ?_
    simp -implicitDefEqProofs [hlt]
    simp [T.joins] at go
    repeat' (first | refine And.intro ?_ ?_ | intro _)
    all_goals first | omega | exact go (by omega) (by omega) | (rw [s1 (by omega) (by omega)]; simp [*]; done) | (rw [s2 (by omega) (by omega) (by omega)]; simp [*]; done)
  · obtain rfl : i = x.ts.length := by omega
    have := Ph.step_none (x := x) (a := a) (b := b) fun j hj => hi.2 j hj hj
    refine Run2.of I 1000 ?_
    simp -implicitDefEqProofs [this]
theorem shiftBetween_c (x : Ph) (a b : Int) (h : Heap) (hv : x.valid) : ACalls Try.prog 61 [x.av, .int .i64 a, .int .i64 b] h (fun v h' => v = stepAV (x.step a b) ∧ h' = h) :=
  shiftBetween_w x a b h hv.2.2.1 hv.2.2.2.1 hv.2.2.2.2.2 fun i hi => (Ph.edge hv hi).2.2.2
/-- The sum along a path. -/
def holR (st : Int → Int → Option Int) (m : Int) : Int → List Int → Option Int
  | acc, a :: b :: r => match st a b with
    | some d => holR st m ((acc + d) % m) (b :: r)
    | none => none
  | acc, _ => some acc
def Ph.hol (x : Ph) (p : List Int) : Option Int := holR x.step x.m 0 p
theorem holR_mod (st : Int → Int → Option Int) (m : Int) : ∀ (p : List Int) (acc : Int), holR (fun a b => (st a b).map (· % m)) m acc p = holR st m acc p
  | [], _ => rfl
  | [_], _ => rfl
  | a :: b :: r, acc => by
    simp only [holR]
    cases st a b with
    | none => rfl
    | some d =>
      simp only [Option.map_some]
      rw [holR_mod st m (b :: r), Int.add_emod_emod]
theorem Ph.step_bd {x : Ph} (hv : x.valid) {a b d : Int} (h : x.step a b = some d) : 0 ≤ d ∧ d ≤ x.m := by
  unfold Ph.step at h
  obtain ⟨t, ht, rfl⟩ := Option.map_eq_some_iff.1 h
  obtain ⟨i, hi, rfl⟩ := List.mem_iff_getElem.1 (List.mem_of_find?_eq_some ht)
  obtain ⟨e1, e2, e3, e4, e5⟩ := Ph.edge hv hi
  split <;> omega
def holAV : Option Int → AV := stepAV
abbrev k42_o0 : List AJ := [.o ⟨(some 4), none, false, .mv (.c (.int .i64 0)), none⟩, .o ⟨(some 5), none, false, .mv (.c (.bool false)), (some [0, 1])⟩]
abbrev k42_o1 : List AJ := [.o ⟨(some 6), none, false, .mv (.c (.int .i64 0)), (some [0, 1, 6])⟩]
abbrev k42_o2 : List AJ := [.o ⟨(some 7), none, false, .mv (.c (.int .i64 1)), (some [0, 1, 6, 7])⟩]
abbrev k42_o3 : List AJ := [.o ⟨(some 10), none, false, .mv (.t 7), none⟩, .o ⟨(some 11), none, false, .mv (.t 1), none⟩, .o ⟨(some 12), none, false, .len (.t 11), none⟩, .o ⟨(some 13), none, false, .bin .lss (.t 10) (.t 12), (some [0, 1, 6, 7, 13])⟩]
def k42_4 : ACode := .cond (.t 13) .skip (.exit 0)
def k42_5 : ACode := .seq (.region k42_o3) k42_4
abbrev k42_o4 : List AI := [⟨(some 17), none, false, .mv (.t 0), none⟩, ⟨(some 18), none, false, .mv (.t 1), none⟩, ⟨(some 19), none, false, .mv (.t 7), none⟩, ⟨(some 20), none, true, .bin .sub (.t 19) (.c (.int .i64 1)), none⟩, ⟨(some 21), none, false, .idxA 1 (.t 18) (.t 20), none⟩, ⟨(some 22), none, false, .load 1 false (.t 21), none⟩, ⟨(some 23), none, false, .mv (.t 1), none⟩, ⟨(some 24), none, false, .mv (.t 7), none⟩, ⟨(some 25), none, false, .idxA 1 (.t 23) (.t 24), none⟩, ⟨(some 26), none, false, .load 1 false (.t 25), none⟩, ⟨(some 27), none, false, .call 65 [(.t 17), (.t 22), (.t 26)], none⟩, ⟨(some 16), none, false, .mv (.t 27), none⟩, ⟨(some 28), none, false, .extract (.t 16) 0, none⟩, ⟨(some 29), none, false, .extract (.t 16) 1, (some [0, 1, 6, 7, 28, 29])⟩, ⟨(some 8), none, false, .mv (.t 28), none⟩, ⟨(some 9), none, false, .mv (.t 29), (some [0, 1, 6, 7, 8, 9])⟩]
abbrev k42_o5 : List AJ := [.o ⟨(some 30), none, false, .mv (.t 9), none⟩, .o ⟨(some 31), none, false, .un .not (.t 30), (some [0, 1, 6, 7, 8, 31])⟩]
abbrev k42_o6 : List AJ := [.o ⟨(some 4), none, false, .mv (.c (.int .i64 0)), none⟩, .o ⟨(some 5), none, false, .mv (.c (.bool false)), (some [4, 5])⟩]
def k42_9 : ACode := .seq (.region k42_o6) .ret
def k42_10 : ACode := .cond (.t 31) k42_9 .skip
def k42_11 : ACode := .seq (.region k42_o5) k42_10
abbrev k42_o7 : List AJ := [.o ⟨(some 32), none, false, .mv (.t 6), none⟩, .o ⟨(some 33), none, false, .mv (.t 8), none⟩, .o ⟨(some 34), none, true, .bin .add (.t 32) (.t 33), none⟩, .o ⟨(some 35), none, false, .mv (.t 0), none⟩, .o ⟨(some 36), none, false, .nilchk (.t 35), none⟩, .o ⟨(some 37), none, false, .fieldA 1 (.t 36), none⟩, .o ⟨(some 38), none, false, .load 1 false (.t 37), none⟩, .o ⟨(some 39), none, false, .bin .rem (.t 34) (.t 38), none⟩, .o ⟨(some 6), none, false, .mv (.t 39), (some [0, 1, 6, 7])⟩]
def k42_12 : ACode := .region k42_o7
def k42_13 : ACode := .seq k42_11 k42_12
def k42_14 : ACode := .seq (.draw k42_o4 [] rfl) k42_13
abbrev k42_o8 : List AJ := [.o ⟨(some 14), none, false, .mv (.t 7), none⟩, .o ⟨(some 15), none, true, .bin .add (.t 14) (.c (.int .i64 1)), none⟩, .o ⟨(some 7), none, false, .mv (.t 15), (some [0, 1, 6, 7])⟩]
def k42_16 : ACode := .region k42_o8
def k42_17 : ACode := .seq (.block 1 k42_14) k42_16
def k42_18 : ACode := .seq k42_5 k42_17
def k42_19 : ACode := .loop k42_18
def k42_20 : ACode := .block 0 k42_19
def k42_21 : ACode := .seq (.region k42_o2) k42_20
abbrev k42_o9 : List AJ := [.o ⟨(some 40), none, false, .mv (.t 6), none⟩, .o ⟨(some 4), none, false, .mv (.t 40), none⟩, .o ⟨(some 5), none, false, .mv (.c (.bool true)), (some [4, 5])⟩]
def k42_23 : ACode := .seq (.region k42_o9) .ret
def k42_24 : ACode := .seq k42_21 k42_23
def k42_25 : ACode := .seq (.region k42_o1) k42_24
def k42_26 : ACode := .seq (.region k42_o0) k42_25
@[simp, simp ↓] theorem k42_4r : rC k42_4 (.t 13) .skip (.exit 0) := zC rfl
@[simp, simp ↓] theorem k42_5r : sR k42_5 k42_o3 k42_4 := yR rfl
@[simp, simp ↓] theorem k42_9r : sR k42_9 k42_o6 .ret := yR rfl
@[simp, simp ↓] theorem k42_10r : rC k42_10 (.t 31) k42_9 .skip := zC rfl
@[simp, simp ↓] theorem k42_11r : sR k42_11 k42_o5 k42_10 := yR rfl
@[simp, simp ↓] theorem k42_12r : rR k42_12 k42_o7 := zR rfl
@[simp, simp ↓] theorem k42_13r : rS k42_13 k42_11 k42_12 := zS rfl
@[simp, simp ↓] theorem k42_14r : sD k42_14 k42_o4 [] k42_13 := yD rfl
@[simp, simp ↓] theorem k42_16r : rR k42_16 k42_o8 := zR rfl
@[simp, simp ↓] theorem k42_17r : sB k42_17 1 k42_14 k42_16 := yB rfl
@[simp, simp ↓] theorem k42_18r : rS k42_18 k42_5 k42_17 := zS rfl
@[simp, simp ↓] theorem k42_19r : rL k42_19 k42_18 := zL rfl
@[simp, simp ↓] theorem k42_20r : rB k42_20 0 k42_19 := zB rfl
@[simp, simp ↓] theorem k42_21r : sR k42_21 k42_o2 k42_20 := yR rfl
@[simp, simp ↓] theorem k42_23r : sR k42_23 k42_o9 .ret := yR rfl
@[simp, simp ↓] theorem k42_24r : rS k42_24 k42_21 k42_23 := zS rfl
@[simp, simp ↓] theorem k42_25r : sR k42_25 k42_o1 k42_24 := yR rfl
@[simp, simp ↓] theorem k42_26r : sR k42_26 k42_o0 k42_25 := yR rfl
noncomputable abbrev k42_C : Orc → Cx := mkC Try.prog [] 42 41 [.tmp 4, .tmp 5]
theorem k42_of0 : OfP0 Try.prog Try.f42 42 41 k42_C k42_26 := @ofP0 _ _ _ _ _ _ _ _ Try.func42 (by decide +kernel) rfl (by kernel_rfl) rfl (by kernel_rfl)
theorem l23Sum_c (x : Ph) (p : List Int) (h : Heap) (hv : x.valid) (hp : p.length ≤ 1048576) : ACalls Try.prog 42 [.ip [.int .i64 x.n, .int .i64 x.m, .snap 3 (x.ts.map T.av)], .snap 1 (p.map iv)] h (fun v h' => v = stepAV (x.hol p) ∧ h' = h) := by
  have hm1 := hv.2.2.1
  have hm2 := hv.2.2.2.1
  refine k42_of0 rfl noPure fun I => ?_
  refine Run2.of I 1000 ?_
  simp -implicitDefEqProofs
  refine Run2.loopE (α := Nat × Int) (fun s => [(0, .ip [.int .i64 x.n, .int .i64 x.m, .snap 3 (x.ts.map T.av)]), (1, .snap 1 (p.map iv)), (6, .int .i64 s.2), (7, .int .i64 (s.1 + 1 : Nat))]) (fun i => h) (fun s => p.length - s.1) (fun s => (0 ≤ s.2 ∧ s.2 < x.m) ∧ holR x.step x.m s.2 (p.drop s.1) = x.hol p) (0, 0) (by simp) rfl ⟨by simp; omega, rfl⟩ ?_
  rintro ⟨i, acc⟩ ⟨ha, hi⟩ ih
  simp only at ha hi ih ⊢
  by_cases hlt : i + 1 < p.length
  · have hd : p.drop i = p[i] :: p[i + 1] :: p.drop (i + 2) := by rw [List.drop_eq_getElem_cons (by omega), List.drop_eq_getElem_cons hlt]
    have hd1 : p.drop (i + 1) = p[i + 1] :: p.drop (i + 2) := List.drop_eq_getElem_cons hlt
    rw [hd] at hi
    have hlt0 : i < p.length := by omega
    have hc : ((i : Int) + 1 - 1).toNat = i := by omega
    have hI : (i : Int) + 1 < p.length := by omega
    have hcall := fun h => l23Step_c x p[i] p[i + 1] h hv
    cases hst : x.step p[i] p[i + 1] with
    | none =>
      simp only [holR, hst] at hi
      simp only [hst, Option.map_none] at hcall
      refine Run2.of I 1000 ?_
      simp -implicitDefEqProofs [hlt, hlt0, hc, hI]
      refine ⟨by omega, by omega, dcallK (hcall h) ?_⟩
      simp -implicitDefEqProofs [← hi]
    | some d =>
      have hbd := Ph.step_bd hv hst
      simp only [holR, hst] at hi
      simp only [hst, Option.map_some] at hcall
      have go := ih (i + 1, (acc + d) % x.m) ⟨⟨Int.emod_nonneg _ (by omega), Int.emod_lt_of_pos _ (by omega)⟩, by rw [hd1]; exact hi⟩ (by simp; omega)
      have hdm := Int.emod_nonneg d (show x.m ≠ 0 by omega)
      have hdl := Int.emod_lt_of_pos d (show 0 < x.m by omega)
      have ht : (acc + d % x.m).tmod x.m = (acc + d) % x.m := by rw [Int.tmod_eq_emod_of_nonneg (by omega), Int.add_emod_emod]
      clear ih
      refine Run2.of I 1000 ?_
      simp -implicitDefEqProofs [hlt, hlt0, hc, hI]
      refine ⟨by omega, by omega, dcallK (hcall h) ?_⟩
      simp -implicitDefEqProofs [ht]
      exact ⟨by omega, by omega, by omega, by simpa using go⟩
  · have : x.hol p = some acc := by
      rw [← hi]
      have : (p.drop i).length ≤ 1 := by simp; omega
      match hp : p.drop i, this with
      | [], _ => rfl
      | [_], _ => rfl
    have hI : ¬ (i : Int) + 1 < p.length := by omega
    refine Run2.of I 1000 ?_
    simp -implicitDefEqProofs [hI, this]
abbrev k30_o0 : List AJ := [.o ⟨(some 2), none, false, .box false 3 (.t 0), none⟩, .o ⟨(some 4), none, false, .mv (.c (.int .i64 0)), none⟩, .o ⟨(some 5), none, false, .mv (.c (.bool false)), (some [1, 2])⟩]
abbrev k30_o1 : List AJ := [.o ⟨(some 6), none, false, .mv (.c (.int .i64 0)), (some [1, 2, 6])⟩]
abbrev k30_o2 : List AJ := [.o ⟨(some 7), none, false, .mv (.c (.int .i64 1)), (some [1, 2, 6, 7])⟩]
abbrev k30_o3 : List AJ := [.o ⟨(some 10), none, false, .mv (.t 7), none⟩, .o ⟨(some 11), none, false, .mv (.t 1), none⟩, .o ⟨(some 12), none, false, .len (.t 11), none⟩, .o ⟨(some 13), none, false, .bin .lss (.t 10) (.t 12), (some [1, 2, 6, 7, 13])⟩]
def k30_4 : ACode := .cond (.t 13) .skip (.exit 0)
def k30_5 : ACode := .seq (.region k30_o3) k30_4
abbrev k30_o4 : List AI := [⟨(some 17), none, false, .load 3 true (.t 2), none⟩, ⟨(some 18), none, false, .mv (.t 1), none⟩, ⟨(some 19), none, false, .mv (.t 7), none⟩, ⟨(some 20), none, true, .bin .sub (.t 19) (.c (.int .i64 1)), none⟩, ⟨(some 21), none, false, .idxA 1 (.t 18) (.t 20), none⟩, ⟨(some 22), none, false, .load 1 false (.t 21), none⟩, ⟨(some 23), none, false, .mv (.t 1), none⟩, ⟨(some 24), none, false, .mv (.t 7), none⟩, ⟨(some 25), none, false, .idxA 1 (.t 23) (.t 24), none⟩, ⟨(some 26), none, false, .load 1 false (.t 25), none⟩, ⟨(some 27), none, false, .call 61 [(.t 17), (.t 22), (.t 26)], none⟩, ⟨(some 16), none, false, .mv (.t 27), none⟩, ⟨(some 28), none, false, .extract (.t 16) 0, none⟩, ⟨(some 29), none, false, .extract (.t 16) 1, (some [1, 2, 6, 7, 28, 29])⟩, ⟨(some 8), none, false, .mv (.t 28), none⟩, ⟨(some 9), none, false, .mv (.t 29), (some [1, 2, 6, 7, 8, 9])⟩]
abbrev k30_o5 : List AJ := [.o ⟨(some 30), none, false, .mv (.t 9), none⟩, .o ⟨(some 31), none, false, .un .not (.t 30), (some [1, 2, 6, 7, 8, 31])⟩]
abbrev k30_o6 : List AJ := [.o ⟨(some 4), none, false, .mv (.c (.int .i64 0)), none⟩, .o ⟨(some 5), none, false, .mv (.c (.bool false)), (some [4, 5])⟩]
def k30_9 : ACode := .seq (.region k30_o6) .ret
def k30_10 : ACode := .cond (.t 31) k30_9 .skip
def k30_11 : ACode := .seq (.region k30_o5) k30_10
abbrev k30_o7 : List AJ := [.o ⟨(some 32), none, false, .mv (.t 6), none⟩, .o ⟨(some 33), none, false, .mv (.t 8), none⟩, .o ⟨(some 34), none, true, .bin .add (.t 32) (.t 33), none⟩, .o ⟨(some 35), none, false, .fieldA 1 (.t 2), none⟩, .o ⟨(some 36), none, false, .load 1 false (.t 35), none⟩, .o ⟨(some 37), none, false, .bin .rem (.t 34) (.t 36), none⟩, .o ⟨(some 6), none, false, .mv (.t 37), (some [1, 2, 6, 7])⟩]
def k30_12 : ACode := .region k30_o7
def k30_13 : ACode := .seq k30_11 k30_12
def k30_14 : ACode := .seq (.draw k30_o4 [] rfl) k30_13
abbrev k30_o8 : List AJ := [.o ⟨(some 14), none, false, .mv (.t 7), none⟩, .o ⟨(some 15), none, true, .bin .add (.t 14) (.c (.int .i64 1)), none⟩, .o ⟨(some 7), none, false, .mv (.t 15), (some [1, 2, 6, 7])⟩]
def k30_16 : ACode := .region k30_o8
def k30_17 : ACode := .seq (.block 1 k30_14) k30_16
def k30_18 : ACode := .seq k30_5 k30_17
def k30_19 : ACode := .loop k30_18
def k30_20 : ACode := .block 0 k30_19
def k30_21 : ACode := .seq (.region k30_o2) k30_20
abbrev k30_o9 : List AJ := [.o ⟨(some 38), none, false, .mv (.t 6), none⟩, .o ⟨(some 4), none, false, .mv (.t 38), none⟩, .o ⟨(some 5), none, false, .mv (.c (.bool true)), (some [4, 5])⟩]
def k30_23 : ACode := .seq (.region k30_o9) .ret
def k30_24 : ACode := .seq k30_21 k30_23
def k30_25 : ACode := .seq (.region k30_o1) k30_24
def k30_26 : ACode := .seq (.region k30_o0) k30_25
@[simp, simp ↓] theorem k30_4r : rC k30_4 (.t 13) .skip (.exit 0) := zC rfl
@[simp, simp ↓] theorem k30_5r : sR k30_5 k30_o3 k30_4 := yR rfl
@[simp, simp ↓] theorem k30_9r : sR k30_9 k30_o6 .ret := yR rfl
@[simp, simp ↓] theorem k30_10r : rC k30_10 (.t 31) k30_9 .skip := zC rfl
@[simp, simp ↓] theorem k30_11r : sR k30_11 k30_o5 k30_10 := yR rfl
@[simp, simp ↓] theorem k30_12r : rR k30_12 k30_o7 := zR rfl
@[simp, simp ↓] theorem k30_13r : rS k30_13 k30_11 k30_12 := zS rfl
@[simp, simp ↓] theorem k30_14r : sD k30_14 k30_o4 [] k30_13 := yD rfl
@[simp, simp ↓] theorem k30_16r : rR k30_16 k30_o8 := zR rfl
@[simp, simp ↓] theorem k30_17r : sB k30_17 1 k30_14 k30_16 := yB rfl
@[simp, simp ↓] theorem k30_18r : rS k30_18 k30_5 k30_17 := zS rfl
@[simp, simp ↓] theorem k30_19r : rL k30_19 k30_18 := zL rfl
@[simp, simp ↓] theorem k30_20r : rB k30_20 0 k30_19 := zB rfl
@[simp, simp ↓] theorem k30_21r : sR k30_21 k30_o2 k30_20 := yR rfl
@[simp, simp ↓] theorem k30_23r : sR k30_23 k30_o9 .ret := yR rfl
@[simp, simp ↓] theorem k30_24r : rS k30_24 k30_21 k30_23 := zS rfl
@[simp, simp ↓] theorem k30_25r : sR k30_25 k30_o1 k30_24 := yR rfl
@[simp, simp ↓] theorem k30_26r : sR k30_26 k30_o0 k30_25 := yR rfl
noncomputable abbrev k30_C : Orc → Cx := mkC Try.prog [] 30 39 [.tmp 4, .tmp 5]
theorem k30_of0 : OfP0 Try.prog Try.f30 30 39 k30_C k30_26 := @ofP0 _ _ _ _ _ _ _ _ Try.func30 (by decide +kernel) rfl (by kernel_rfl) rfl (by kernel_rfl)
theorem holonomy_c (x : Ph) (p : List Int) (h : Heap) (hv : x.valid) (hp : p.length ≤ 1048576) : ACalls Try.prog 30 [x.av, .snap 1 (p.map iv)] h (fun v h' => v = stepAV (x.hol p) ∧ h' = h) := by
  have hm1 := hv.2.2.1
  have hm2 := hv.2.2.2.1
  refine k30_of0 rfl noPure fun I => ?_
  refine Run2.of I 1000 ?_
  simp -implicitDefEqProofs
  refine Run2.loopE (α := Nat × Int) (fun s => [(1, .snap 1 (p.map iv)), (2, .ip [.int .i64 x.n, .int .i64 x.m, .snap 3 (x.ts.map T.av)]), (6, .int .i64 s.2), (7, .int .i64 (s.1 + 1 : Nat))]) (fun i => h) (fun s => p.length - s.1) (fun s => (0 ≤ s.2 ∧ s.2 < x.m) ∧ holR x.step x.m s.2 (p.drop s.1) = x.hol p) (0, 0) (by simp) rfl ⟨by simp; omega, rfl⟩ ?_
  rintro ⟨i, acc⟩ ⟨ha, hi⟩ ih
  simp only at ha hi ih ⊢
  by_cases hlt : i + 1 < p.length
  · have hd : p.drop i = p[i] :: p[i + 1] :: p.drop (i + 2) := by rw [List.drop_eq_getElem_cons (by omega), List.drop_eq_getElem_cons hlt]
    have hd1 : p.drop (i + 1) = p[i + 1] :: p.drop (i + 2) := List.drop_eq_getElem_cons hlt
    rw [hd] at hi
    have hlt0 : i < p.length := by omega
    have hc : ((i : Int) + 1 - 1).toNat = i := by omega
    have hI : (i : Int) + 1 < p.length := by omega
    have hcall := fun h => shiftBetween_c x p[i] p[i + 1] h hv
    cases hst : x.step p[i] p[i + 1] with
    | none =>
      simp only [holR, hst] at hi
      simp only [hst] at hcall
      refine Run2.of I 1000 ?_
      simp -implicitDefEqProofs [hlt, hlt0, hc, hI]
      refine ⟨by omega, by omega, dcallK (hcall h) ?_⟩
      simp -implicitDefEqProofs [← hi]
    | some d =>
      have hbd := Ph.step_bd hv hst
      simp only [holR, hst] at hi
      simp only [hst] at hcall
      have go := ih (i + 1, (acc + d) % x.m) ⟨⟨Int.emod_nonneg _ (by omega), Int.emod_lt_of_pos _ (by omega)⟩, by rw [hd1]; exact hi⟩ (by simp; omega)
      have ht : (acc + d).tmod x.m = (acc + d) % x.m := by rw [Int.tmod_eq_emod_of_nonneg (by omega)]
      clear ih
      refine Run2.of I 1000 ?_
      simp -implicitDefEqProofs [hlt, hlt0, hc, hI]
      refine ⟨by omega, by omega, dcallK (hcall h) ?_⟩
      simp -implicitDefEqProofs [ht]
      exact ⟨by omega, by omega, by omega, by simpa using go⟩
  · have : x.hol p = some acc := by
      rw [← hi]
      have : (p.drop i).length ≤ 1 := by simp; omega
      match hp : p.drop i, this with
      | [], _ => rfl
      | [_], _ => rfl
    have hI : ¬ (i : Int) + 1 < p.length := by omega
    refine Run2.of I 1000 ?_
    simp -implicitDefEqProofs [hI, this]
/-- What HolonomyOf gives. -/
noncomputable def Ph.hol2 (x : Ph) (p : List Int) : Int × Int := if x.valid then (if p.length ≤ 64 then (if ∀ a ∈ p, 0 ≤ a ∧ a < x.n then (match x.hol p with | some s => (s, 0) | none => (0, 3)) else (0, 2)) else (0, 5)) else (0, 1)
noncomputable def o_l23Sum : List AV → Option (Prop × AV) := tab (fun (x : Int × Int × List T × List Int) => match x with | (n, m, ts, p) => [.ip [.int .i64 n, .int .i64 m, .snap 3 (ts.map T.av)], .snap 1 (p.map iv)]) (fun x => match x with | (n, m, ts, p) => (Ph.valid ⟨n, m, ts⟩ ∧ p.length ≤ 1048576)) (fun x => match x with | (n, m, ts, p) => stepAV (Ph.hol ⟨n, m, ts⟩ p))
@[simp] theorem o_l23Sum_e (n : Int) (m : Int) (ts : List T) (p : List Int) : o_l23Sum [.ip [.int .i64 n, .int .i64 m, .snap 3 (ts.map T.av)], .snap 1 (p.map iv)] = some ((Ph.valid ⟨n, m, ts⟩ ∧ p.length ≤ 1048576), stepAV (Ph.hol ⟨n, m, ts⟩ p)) := tab_at (enc := fun (x : Int × Int × List T × List Int) => match x with | (n, m, ts, p) => [.ip [.int .i64 n, .int .i64 m, .snap 3 (ts.map T.av)], .snap 1 (p.map iv)]) (fun x y h => by
  obtain ⟨n1, m1, ts1, p1⟩ := x; obtain ⟨n2, m2, ts2, p2⟩ := y; simp at h; simp [h] <;> omega) _ _ (n, m, ts, p)
theorem o_l23Sum_k : Knows Try.prog 42 o_l23Sum := tab_knows fun x hx h => by
  obtain ⟨n, m, ts, p⟩ := x; exact l23Sum_c ⟨n, m, ts⟩ p h hx.1 hx.2
noncomputable def orcH : List (Nat × (List AV → Option (Prop × AV))) := (42, o_l23Sum) :: orcC3
theorem orcH_p : Pure Try.prog (lk orcH) := (lk_pure o_l23Sum_k orcC3_p)
@[simp] theorem orcH_l (b : Bool) (g : FuncId) (l : List AV) : lk orcH b g l = if g = 42 then o_l23Sum l else lk orcC3 b g l := nr rfl
abbrev k11_o0 : List AJ := [.o ⟨(some 2), none, false, .box false 3 (.t 0), none⟩, .o ⟨(some 4), none, false, .mv (.c (.int .i64 0)), none⟩, .o ⟨(some 5), none, false, .mv (.c (.int .i64 0)), (some [1, 2])⟩]
abbrev k11_o1 : List AJ := [.o ⟨(some 9), none, false, .call 40 [(.t 2)], none⟩, .o ⟨(some 10), none, false, .un .not (.t 9), (some [1, 2, 10])⟩]
abbrev k11_o2 : List AJ := [.o ⟨(some 4), none, false, .mv (.c (.int .i64 0)), none⟩, .o ⟨(some 5), none, false, .mv (.c (.int .i64 1)), (some [4, 5])⟩]
def k11_3 : ACode := .seq (.region k11_o2) .ret
def k11_4 : ACode := .cond (.t 10) k11_3 .skip
def k11_5 : ACode := .seq (.region k11_o1) k11_4
abbrev k11_o3 : List AJ := [.o ⟨(some 11), none, false, .mv (.t 1), none⟩, .o ⟨(some 12), none, false, .len (.t 11), none⟩, .o ⟨(some 13), none, false, .bin .gtr (.t 12) (.c (.int .i64 64)), (some [1, 2, 13])⟩]
abbrev k11_o4 : List AJ := [.o ⟨(some 4), none, false, .mv (.c (.int .i64 0)), none⟩, .o ⟨(some 5), none, false, .mv (.c (.int .i64 5)), (some [4, 5])⟩]
def k11_8 : ACode := .seq (.region k11_o4) .ret
def k11_9 : ACode := .cond (.t 13) k11_8 .skip
def k11_10 : ACode := .seq (.region k11_o3) k11_9
abbrev k11_o5 : List AJ := [.o ⟨(some 6), none, false, .mv (.c (.int .i64 0)), (some [1, 2, 6])⟩]
abbrev k11_o6 : List AJ := [.o ⟨(some 14), none, false, .mv (.t 6), none⟩, .o ⟨(some 15), none, false, .mv (.t 1), none⟩, .o ⟨(some 16), none, false, .len (.t 15), none⟩, .o ⟨(some 17), none, false, .bin .lss (.t 14) (.t 16), (some [1, 2, 6, 17])⟩]
def k11_13 : ACode := .cond (.t 17) .skip (.exit 0)
def k11_14 : ACode := .seq (.region k11_o6) k11_13
abbrev k11_o7 : List AI := [⟨(some 20), none, false, .mv (.t 1), none⟩, ⟨(some 21), none, false, .mv (.t 6), none⟩, ⟨(some 22), none, false, .idxA 1 (.t 20) (.t 21), none⟩, ⟨(some 23), none, false, .load 1 false (.t 22), none⟩, ⟨(some 24), none, false, .fieldA 0 (.t 2), none⟩, ⟨(some 25), none, false, .load 1 false (.t 24), none⟩, ⟨(some 26), none, true, .bin .sub (.t 25) (.c (.int .i64 1)), none⟩, ⟨(some 27), none, false, .call 41 [(.t 23), (.c (.int .i64 0)), (.t 26)], none⟩, ⟨(some 28), none, false, .un .not (.t 27), (some [1, 2, 6, 28])⟩]
abbrev k11_o8 : List AJ := [.o ⟨(some 4), none, false, .mv (.c (.int .i64 0)), none⟩, .o ⟨(some 5), none, false, .mv (.c (.int .i64 2)), (some [4, 5])⟩]
def k11_17 : ACode := .seq (.region k11_o8) .ret
def k11_18 : ACode := .cond (.t 28) k11_17 .skip
def k11_19 : ACode := .seq (.draw k11_o7 [] rfl) k11_18
abbrev k11_o9 : List AJ := [.o ⟨(some 18), none, false, .mv (.t 6), none⟩, .o ⟨(some 19), none, true, .bin .add (.t 18) (.c (.int .i64 1)), none⟩, .o ⟨(some 6), none, false, .mv (.t 19), (some [1, 2, 6])⟩]
def k11_21 : ACode := .region k11_o9
def k11_22 : ACode := .seq (.block 1 k11_19) k11_21
def k11_23 : ACode := .seq k11_14 k11_22
def k11_24 : ACode := .loop k11_23
def k11_25 : ACode := .block 0 k11_24
def k11_26 : ACode := .seq (.region k11_o5) k11_25
abbrev k11_o10 : List AJ := [.o ⟨(some 30), none, false, .mv (.t 1), none⟩, .o ⟨(some 31), none, false, .call 42 [(.t 2), (.t 30)], none⟩, .o ⟨(some 29), none, false, .mv (.t 31), none⟩, .o ⟨(some 32), none, false, .extract (.t 29) 0, none⟩, .o ⟨(some 33), none, false, .extract (.t 29) 1, none⟩, .o ⟨(some 7), none, false, .mv (.t 32), none⟩, .o ⟨(some 8), none, false, .mv (.t 33), (some [7, 8])⟩]
abbrev k11_o11 : List AJ := [.o ⟨(some 34), none, false, .mv (.t 8), none⟩, .o ⟨(some 35), none, false, .un .not (.t 34), (some [7, 35])⟩]
abbrev k11_o12 : List AJ := [.o ⟨(some 4), none, false, .mv (.c (.int .i64 0)), none⟩, .o ⟨(some 5), none, false, .mv (.c (.int .i64 3)), (some [4, 5])⟩]
def k11_30 : ACode := .seq (.region k11_o12) .ret
def k11_31 : ACode := .cond (.t 35) k11_30 .skip
def k11_32 : ACode := .seq (.region k11_o11) k11_31
abbrev k11_o13 : List AJ := [.o ⟨(some 36), none, false, .mv (.t 7), none⟩, .o ⟨(some 4), none, false, .mv (.t 36), none⟩, .o ⟨(some 5), none, false, .mv (.c (.int .i64 0)), (some [4, 5])⟩]
def k11_34 : ACode := .seq (.region k11_o13) .ret
def k11_35 : ACode := .seq k11_32 k11_34
def k11_36 : ACode := .seq (.region k11_o10) k11_35
def k11_37 : ACode := .seq k11_26 k11_36
def k11_38 : ACode := .seq k11_10 k11_37
def k11_39 : ACode := .seq k11_5 k11_38
def k11_40 : ACode := .seq (.region k11_o0) k11_39
@[simp, simp ↓] theorem k11_3r : sR k11_3 k11_o2 .ret := yR rfl
@[simp, simp ↓] theorem k11_4r : rC k11_4 (.t 10) k11_3 .skip := zC rfl
@[simp, simp ↓] theorem k11_5r : sR k11_5 k11_o1 k11_4 := yR rfl
@[simp, simp ↓] theorem k11_8r : sR k11_8 k11_o4 .ret := yR rfl
@[simp, simp ↓] theorem k11_9r : rC k11_9 (.t 13) k11_8 .skip := zC rfl
@[simp, simp ↓] theorem k11_10r : sR k11_10 k11_o3 k11_9 := yR rfl
@[simp, simp ↓] theorem k11_13r : rC k11_13 (.t 17) .skip (.exit 0) := zC rfl
@[simp, simp ↓] theorem k11_14r : sR k11_14 k11_o6 k11_13 := yR rfl
@[simp, simp ↓] theorem k11_17r : sR k11_17 k11_o8 .ret := yR rfl
@[simp, simp ↓] theorem k11_18r : rC k11_18 (.t 28) k11_17 .skip := zC rfl
@[simp, simp ↓] theorem k11_19r : sD k11_19 k11_o7 [] k11_18 := yD rfl
@[simp, simp ↓] theorem k11_21r : rR k11_21 k11_o9 := zR rfl
@[simp, simp ↓] theorem k11_22r : sB k11_22 1 k11_19 k11_21 := yB rfl
@[simp, simp ↓] theorem k11_23r : rS k11_23 k11_14 k11_22 := zS rfl
@[simp, simp ↓] theorem k11_24r : rL k11_24 k11_23 := zL rfl
@[simp, simp ↓] theorem k11_25r : rB k11_25 0 k11_24 := zB rfl
@[simp, simp ↓] theorem k11_26r : sR k11_26 k11_o5 k11_25 := yR rfl
@[simp, simp ↓] theorem k11_30r : sR k11_30 k11_o12 .ret := yR rfl
@[simp, simp ↓] theorem k11_31r : rC k11_31 (.t 35) k11_30 .skip := zC rfl
@[simp, simp ↓] theorem k11_32r : sR k11_32 k11_o11 k11_31 := yR rfl
@[simp, simp ↓] theorem k11_34r : sR k11_34 k11_o13 .ret := yR rfl
@[simp, simp ↓] theorem k11_35r : rS k11_35 k11_32 k11_34 := zS rfl
@[simp, simp ↓] theorem k11_36r : sR k11_36 k11_o10 k11_35 := yR rfl
@[simp, simp ↓] theorem k11_37r : rS k11_37 k11_26 k11_36 := zS rfl
@[simp, simp ↓] theorem k11_38r : rS k11_38 k11_10 k11_37 := zS rfl
@[simp, simp ↓] theorem k11_39r : rS k11_39 k11_5 k11_38 := zS rfl
@[simp, simp ↓] theorem k11_40r : sR k11_40 k11_o0 k11_39 := yR rfl
noncomputable abbrev k11_C : Orc → Cx := mkC Try.prog [] 11 37 [.tmp 4, .tmp 5]
theorem k11_of0 : OfP0 Try.prog Try.f11 11 37 k11_C k11_40 := @ofP0 _ _ _ _ _ _ _ _ Try.func11 (by decide +kernel) rfl (by kernel_rfl) rfl (by kernel_rfl)
theorem specHol_c (x : Ph) (p : List Int) (h : Heap) (ok : x.ok) (hl : x.ts.length ≤ 1048576) (hp : p.length ≤ 1048576) : ACalls Try.prog 11 [x.av, .snap 1 (p.map iv)] h (fun v h' => v = .tup [.int .i64 (x.hol2 p).1, .int .i64 (x.hol2 p).2] ∧ h' = h) := by
  refine k11_of0 rfl orcC3_p fun I => ?_
  refine Run2.of I 1000 ?_
  simp -implicitDefEqProofs [ok, hl, hp]
  refine ⟨fun hv => by simp [Ph.hol2, hv], fun hv => ⟨fun h1 => by simp [Ph.hol2, hv, show ¬ p.length ≤ 64 by omega], fun h1 => ?_⟩⟩
  have hn1 := hv.1
  have hn2 := hv.2.1
  have h64 : p.length ≤ 64 := by omega
  refine Run2.loopE (fun i => [(1, .snap 1 (p.map iv)), (2, .ip [.int .i64 x.n, .int .i64 x.m, .snap 3 (x.ts.map T.av)]), (6, .int .i64 (i : Nat))]) (fun i => h) (fun i => p.length - i) (fun i => i ≤ p.length ∧ ∀ a ∈ p.take i, 0 ≤ a ∧ a < x.n) 0 (by simp) rfl (by simp) fun i hi ih => ?_
  by_cases hlt : i < p.length
  · have hbad : ¬ (0 ≤ p[i] ∧ p[i] < x.n) → x.hol2 p = (0, 2) := fun h1 => by
      have : ¬ ∀ a ∈ p, 0 ≤ a ∧ a < x.n := fun h2 => h1 (h2 _ (List.getElem_mem hlt))
      unfold Ph.hol2
      rw [if_pos hv, if_pos h64, if_neg this]
    have go := fun (h1 : 0 ≤ p[i] ∧ p[i] < x.n) => ih (i + 1) ⟨by omega, (take_all _ hlt).2 ⟨hi.2, h1⟩⟩ (by omega)
    clear ih
    refine Run2.of I 1000 ?_
    simp -implicitDefEqProofs [hlt]
    repeat' (first | refine And.intro ?_ ?_ | intro _)
    all_goals first | omega | (rw [hbad (by omega)]; done) | exact go (by omega)
  · obtain rfl : i = p.length := by omega
    have h2 := hi.2
    rw [List.take_length] at h2
    have hh : x.hol2 p = (match x.hol p with | some s => (s, 0) | none => (0, 3)) := by
      unfold Ph.hol2
      rw [if_pos hv, if_pos h64, if_pos h2]
    refine Run2.of I 1000 ?_
    simp -implicitDefEqProofs
    refine (l23Sum_c x p h hv hp).mono ?_
    rintro v h' ⟨rfl, rfl⟩
    refine gK.go ?_
    cases hs : x.hol p <;> rw [hs] at hh <;> simp -implicitDefEqProofs [hh]
end Go.AG
