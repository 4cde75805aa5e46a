/- Sums along paths: what the program's and the reference's functions give. No statement is made here. -/
import Derived.Test.YtgofekmoimjcmaaGreatDoorPhC
namespace Go.AG.P
open Go.Proofs Go.Proofs.YtgofekmoimjcmaaGreatDoor
set_option linter.unusedSimpArgs false
set_option linter.unusedVariables false
set_option maxRecDepth 4000
def T.joins (a b : Int) (t : T) : Bool := decide (t.f = a ∧ t.t = b) || decide (t.f = b ∧ t.t = a)
/-- The difference along an edge, if there is one. -/
def Ph.step (x : Ph) (a b : Int) : Option Int := (x.ts.find? (T.joins a b)).map fun t => if t.f = a ∧ t.t = b then t.s else x.m - t.s
def stepAV : Option Int → AV
  | some d => .tup [.int .i64 d, .bool true]
  | none => .tup [.int .i64 0, .bool false]
@[simp] theorem stepAV_s (d : Int) : stepAV (some d) = .tup [.int .i64 d, .bool true] := rfl
@[simp] theorem stepAV_n : stepAV none = .tup [.int .i64 0, .bool false] := rfl
theorem find_at {α : Type} {q : α → Bool} {l : List α} {i : Nat} (h : i < l.length) (hb : ∀ j (hj : j < l.length), j < i → q l[j] = false) (ht : q l[i] = true) : l.find? q = some l[i] := by
  rw [List.find?_eq_some_iff_getElem]
  exact ⟨ht, i, h, rfl, fun j hj => by simp [hb j (by omega) hj]⟩
theorem find_none {α : Type} {q : α → Bool} {l : List α} (hb : ∀ j (hj : j < l.length), q l[j] = false) : l.find? q = none := by
  rw [List.find?_eq_none]
  intro a ha
  obtain ⟨j, hj, rfl⟩ := List.mem_iff_getElem.1 ha
  simp [hb j hj]
theorem Ph.step_at {x : Ph} {a b : Int} {i : Nat} (h : i < x.ts.length) (hb : ∀ j (hj : j < x.ts.length), j < i → T.joins a b x.ts[j] = false) :
    (x.ts[i].f = a → x.ts[i].t = b → x.step a b = some x.ts[i].s) ∧ (¬ (x.ts[i].f = a ∧ x.ts[i].t = b) → x.ts[i].f = b → x.ts[i].t = a → x.step a b = some (x.m - x.ts[i].s)) := by
  unfold Ph.step
  constructor
  · intro h1 h2
    rw [find_at h hb (by simp [T.joins, h1, h2])]
    simp [h1, h2]
  · intro h0 h1 h2
    rw [find_at h hb (by simp [T.joins, h1, h2])]
    simp only [Option.map_some, if_neg h0]
theorem Ph.step_none {x : Ph} {a b : Int} (hb : ∀ j (hj : j < x.ts.length), T.joins a b x.ts[j] = false) : x.step a b = none := by
  unfold Ph.step
  rw [find_none hb]; rfl
theorem upto_succ {P : Nat → Prop} {i : Nat} (h : ∀ j, j < i → P j) (hi : P i) : ∀ j, j < i + 1 → P j := fun j hj => by
  rcases Nat.lt_or_ge j i with h' | h'
  · exact h j h'
  · obtain rfl : j = i := by omega
    exact hi
abbrev k50_o0 : List AJ := [.o ⟨(some 3), none, false, .box false 3 (.t 0), none⟩, .o ⟨(some 6), none, false, .mv (.c (.int .i64 0)), none⟩, .o ⟨(some 7), none, false, .mv (.c (.bool false)), (some [1, 2, 3])⟩]
abbrev k50_o1 : List AJ := [.o ⟨(some 10), none, false, .fieldA 2 (.t 3), none⟩, .o ⟨(some 11), none, false, .load 1 false (.t 10), none⟩, .o ⟨(some 12), none, false, .len (.t 11), none⟩, .o ⟨(some 13), none, false, .mv (.c (.int .i64 0)), (some [1, 2, 3, 11, 12, 13])⟩]
abbrev k50_o2 : List AJ := [.o ⟨(some 14), none, false, .bin .lss (.t 13) (.t 12), (some [1, 2, 3, 11, 12, 13, 14])⟩]
abbrev k50_o3 : List AJ := [.o ⟨(some 15), none, false, .idxA 3 (.t 11) (.t 13), none⟩, .o ⟨(some 16), none, false, .load 3 true (.t 15), none⟩, .v 9 3 (.agg [(.int .i64 0), (.int .i64 0), (.int .i64 0)]) [] (.t 16) (some [1, 2, 3, 9, 11, 12, 13])]
abbrev k50_o4 : List AJ := [.o ⟨(some 18), none, false, .fieldA 0 (.t 9), none⟩, .o ⟨(some 19), none, false, .load 1 false (.t 18), none⟩, .o ⟨(some 20), none, false, .mv (.t 1), none⟩, .o ⟨(some 21), none, false, .bin .eql (.t 19) (.t 20), none⟩, .o ⟨(some 22), none, false, .mv (.t 21), none⟩, .o ⟨(some 23), (some (22, true)), false, .fieldA 1 (.t 9), none⟩, .o ⟨(some 24), (some (22, true)), false, .load 1 false (.t 23), none⟩, .o ⟨(some 25), (some (22, true)), false, .mv (.t 2), none⟩, .o ⟨(some 26), (some (22, true)), false, .bin .eql (.t 24) (.t 25), none⟩, .o ⟨(some 27), none, false, .pick (.t 22) (.t 26) (.c (.bool false)), (some [1, 2, 3, 9, 11, 12, 13, 27])⟩, .o ⟨(some 17), none, false, .mv (.t 27), (some [1, 2, 3, 9, 11, 12, 13, 17])⟩]
abbrev k50_o5 : List AJ := [.o ⟨(some 28), none, false, .fieldA 2 (.t 9), none⟩, .o ⟨(some 29), none, false, .load 1 false (.t 28), none⟩, .o ⟨(some 6), none, false, .mv (.t 29), none⟩, .o ⟨(some 7), none, false, .mv (.c (.bool true)), (some [6, 7])⟩]
def k50_7 : ACode := .seq (.region k50_o5) .ret
abbrev k50_o6 : List AJ := [.o ⟨(some 31), none, false, .fieldA 0 (.t 9), none⟩, .o ⟨(some 32), none, false, .load 1 false (.t 31), none⟩, .o ⟨(some 33), none, false, .mv (.t 2), none⟩, .o ⟨(some 34), none, false, .bin .eql (.t 32) (.t 33), none⟩, .o ⟨(some 35), none, false, .mv (.t 34), none⟩, .o ⟨(some 36), (some (35, true)), false, .fieldA 1 (.t 9), none⟩, .o ⟨(some 37), (some (35, true)), false, .load 1 false (.t 36), none⟩, .o ⟨(some 38), (some (35, true)), false, .mv (.t 1), none⟩, .o ⟨(some 39), (some (35, true)), false, .bin .eql (.t 37) (.t 38), none⟩, .o ⟨(some 40), none, false, .pick (.t 35) (.t 39) (.c (.bool false)), (some [1, 2, 3, 9, 11, 12, 13, 40])⟩, .o ⟨(some 30), none, false, .mv (.t 40), (some [1, 2, 3, 9, 11, 12, 13, 30])⟩]
abbrev k50_o7 : List AJ := [.o ⟨(some 41), none, false, .fieldA 1 (.t 3), none⟩, .o ⟨(some 42), none, false, .load 1 false (.t 41), none⟩, .o ⟨(some 43), none, false, .fieldA 2 (.t 9), none⟩, .o ⟨(some 44), none, false, .load 1 false (.t 43), none⟩, .o ⟨(some 45), none, true, .bin .sub (.t 42) (.t 44), none⟩, .o ⟨(some 6), none, false, .mv (.t 45), none⟩, .o ⟨(some 7), none, false, .mv (.c (.bool true)), (some [6, 7])⟩]
def k50_10 : ACode := .seq (.region k50_o7) .ret
def k50_11 : ACode := .cond (.t 30) k50_10 .skip
def k50_12 : ACode := .seq (.region k50_o6) k50_11
def k50_13 : ACode := .cond (.t 17) k50_7 k50_12
def k50_14 : ACode := .seq (.region k50_o4) k50_13
def k50_15 : ACode := .block 2 k50_14
def k50_16 : ACode := .seq (.region k50_o3) k50_15
abbrev k50_o8 : List AJ := [.o ⟨(some 46), none, true, .bin .add (.t 13) (.c (.int .i64 1)), none⟩, .o ⟨(some 13), none, false, .mv (.t 46), (some [1, 2, 3, 11, 12, 13])⟩]
def k50_18 : ACode := .region k50_o8
def k50_19 : ACode := .seq (.block 1 k50_16) k50_18
def k50_20 : ACode := .seq (.cond (.t 14) .skip (.exit 0)) k50_19
def k50_21 : ACode := .seq (.region k50_o2) k50_20
def k50_22 : ACode := .loop k50_21
def k50_23 : ACode := .block 0 k50_22
def k50_24 : ACode := .seq (.region k50_o1) k50_23
abbrev k50_o9 : List AJ := [.o ⟨(some 6), none, false, .mv (.c (.int .i64 0)), none⟩, .o ⟨(some 7), none, false, .mv (.c (.bool false)), (some [6, 7])⟩]
def k50_26 : ACode := .seq (.region k50_o9) .ret
def k50_27 : ACode := .seq k50_24 k50_26
def k50_28 : ACode := .seq (.region k50_o0) k50_27
@[simp, simp ↓] theorem k50_7r : sR k50_7 k50_o5 .ret := yR rfl
@[simp, simp ↓] theorem k50_10r : sR k50_10 k50_o7 .ret := yR rfl
@[simp, simp ↓] theorem k50_11r : rC k50_11 (.t 30) k50_10 .skip := zC rfl
@[simp, simp ↓] theorem k50_12r : sR k50_12 k50_o6 k50_11 := yR rfl
@[simp, simp ↓] theorem k50_13r : rC k50_13 (.t 17) k50_7 k50_12 := zC rfl
@[simp, simp ↓] theorem k50_14r : sR k50_14 k50_o4 k50_13 := yR rfl
@[simp, simp ↓] theorem k50_15r : rB k50_15 2 k50_14 := zB rfl
@[simp, simp ↓] theorem k50_16r : sR k50_16 k50_o3 k50_15 := yR rfl
@[simp, simp ↓] theorem k50_18r : rR k50_18 k50_o8 := zR rfl
@[simp, simp ↓] theorem k50_19r : sB k50_19 1 k50_16 k50_18 := yB rfl
@[simp, simp ↓] theorem k50_20r : sC k50_20 (.t 14) .skip (.exit 0) k50_19 := yC rfl
@[simp, simp ↓] theorem k50_21r : sR k50_21 k50_o2 k50_20 := yR rfl
@[simp, simp ↓] theorem k50_22r : rL k50_22 k50_21 := zL rfl
@[simp, simp ↓] theorem k50_23r : rB k50_23 0 k50_22 := zB rfl
@[simp, simp ↓] theorem k50_24r : sR k50_24 k50_o1 k50_23 := yR rfl
@[simp, simp ↓] theorem k50_26r : sR k50_26 k50_o9 .ret := yR rfl
@[simp, simp ↓] theorem k50_27r : rS k50_27 k50_24 k50_26 := zS rfl
@[simp, simp ↓] theorem k50_28r : sR k50_28 k50_o0 k50_27 := yR rfl
noncomputable abbrev k50_C : Orc → Cx := mkC Tryz.prog [9] 50 47 [.tmp 6, .tmp 7]
theorem k50_of0 : OfP0 Tryz.prog Tryz.f50 50 47 k50_C k50_28 := @ofP0 _ _ _ _ _ _ _ _ Tryz.func50 (by decide +kernel) rfl (by kernel_rfl) rfl (by kernel_rfl)
theorem shiftBetween_w (x : Ph) (a b : Int) (h : Heap) (hm1 : 2 ≤ x.m) (hm2 : x.m ≤ 360) (hl : x.ts.length ≤ 24) (hsh : ∀ (i : Nat) (hi : i < x.ts.length), 0 ≤ x.ts[i].s ∧ x.ts[i].s < x.m) : ACalls Tryz.prog 50 [x.av, .int .i64 a, .int .i64 b] h (fun v h' => v = stepAV (x.step a b) ∧ h' = h) := by
  refine k50_of0 rfl noPure fun I => ?_
  refine Run2.of I 1000 ?_
  simp -implicitDefEqProofs
  refine Run2.loopE (fun i => [(1, .int .i64 a), (2, .int .i64 b), (3, .ip [.int .i64 x.n, .int .i64 x.m, .snap 3 (x.ts.map T.av)]), (11, .snap 3 (x.ts.map T.av)), (12, .int .i64 x.ts.length), (13, .int .i64 (i : Nat))]) (fun i => h) (fun i => x.ts.length - i) (fun i => i ≤ x.ts.length ∧ ∀ j, j < i → (hj : j < x.ts.length) → T.joins a b x.ts[j] = false) 0 (by simp) rfl (by simp) fun i hi ih => ?_
  by_cases hlt : i < x.ts.length
  · obtain ⟨e4, e5⟩ := hsh i hlt
    obtain ⟨s1, s2⟩ := Ph.step_at (a := a) (b := b) hlt fun j hj hji => hi.2 j hji hj
    have go := fun (h1 : T.joins a b x.ts[i] = false) => ih (i + 1) ⟨by omega, upto_succ hi.2 fun _ => h1⟩ (by omega)
    clear ih
    refine Run2.of I 1000 ?_
    simp -implicitDefEqProofs [hlt]
    simp [T.joins] at go
    repeat' (first | refine And.intro ?_ ?_ | intro _)
    all_goals first | omega | exact go (by omega) (by omega) | (rw [s1 (by omega) (by omega)]; simp [*]; done) | (rw [s2 (by omega) (by omega) (by omega)]; simp [*]; done)
  · obtain rfl : i = x.ts.length := by omega
    have := Ph.step_none (x := x) (a := a) (b := b) fun j hj => hi.2 j hj hj
    refine Run2.of I 1000 ?_
    simp -implicitDefEqProofs [this]
theorem shiftBetween_c (x : Ph) (a b : Int) (h : Heap) (hv : x.valid) : ACalls Tryz.prog 50 [x.av, .int .i64 a, .int .i64 b] h (fun v h' => v = stepAV (x.step a b) ∧ h' = h) :=
  shiftBetween_w x a b h hv.2.2.1 hv.2.2.2.1 hv.2.2.2.2.2 fun i hi => (Ph.edge hv hi).2.2.2
/-- The sum along a path. -/
def holR (st : Int → Int → Option Int) (m : Int) : Int → List Int → Option Int
  | acc, a :: b :: r => match st a b with
    | some d => holR st m ((acc + d) % m) (b :: r)
    | none => none
  | acc, _ => some acc
def Ph.hol (x : Ph) (p : List Int) : Option Int := holR x.step x.m 0 p
theorem holR_mod (st : Int → Int → Option Int) (m : Int) : ∀ (p : List Int) (acc : Int), holR (fun a b => (st a b).map (· % m)) m acc p = holR st m acc p
  | [], _ => rfl
  | [_], _ => rfl
  | a :: b :: r, acc => by
    simp only [holR]
    cases st a b with
    | none => rfl
    | some d =>
      simp only [Option.map_some]
      rw [holR_mod st m (b :: r), Int.add_emod_emod]
theorem Ph.step_bd {x : Ph} (hv : x.valid) {a b d : Int} (h : x.step a b = some d) : 0 ≤ d ∧ d ≤ x.m := by
  unfold Ph.step at h
  obtain ⟨t, ht, rfl⟩ := Option.map_eq_some_iff.1 h
  obtain ⟨i, hi, rfl⟩ := List.mem_iff_getElem.1 (List.mem_of_find?_eq_some ht)
  obtain ⟨e1, e2, e3, e4, e5⟩ := Ph.edge hv hi
  split <;> omega
def holAV : Option Int → AV := stepAV
abbrev k37_o0 : List AJ := [.o ⟨(some 2), none, false, .box false 3 (.t 0), none⟩, .o ⟨(some 4), none, false, .mv (.c (.int .i64 0)), none⟩, .o ⟨(some 5), none, false, .mv (.c (.bool false)), (some [1, 2])⟩]
abbrev k37_o1 : List AJ := [.o ⟨(some 6), none, false, .mv (.c (.int .i64 0)), (some [1, 2, 6])⟩]
abbrev k37_o2 : List AJ := [.o ⟨(some 7), none, false, .mv (.c (.int .i64 1)), (some [1, 2, 6, 7])⟩]
abbrev k37_o3 : List AJ := [.o ⟨(some 10), none, false, .mv (.t 7), none⟩, .o ⟨(some 11), none, false, .mv (.t 1), none⟩, .o ⟨(some 12), none, false, .len (.t 11), none⟩, .o ⟨(some 13), none, false, .bin .lss (.t 10) (.t 12), (some [1, 2, 6, 7, 13])⟩]
def k37_4 : ACode := .cond (.t 13) .skip (.exit 0)
def k37_5 : ACode := .seq (.region k37_o3) k37_4
abbrev k37_o4 : List AI := [⟨(some 17), none, false, .load 3 true (.t 2), none⟩, ⟨(some 18), none, false, .mv (.t 1), none⟩, ⟨(some 19), none, false, .mv (.t 7), none⟩, ⟨(some 20), none, true, .bin .sub (.t 19) (.c (.int .i64 1)), none⟩, ⟨(some 21), none, false, .idxA 1 (.t 18) (.t 20), none⟩, ⟨(some 22), none, false, .load 1 false (.t 21), none⟩, ⟨(some 23), none, false, .mv (.t 1), none⟩, ⟨(some 24), none, false, .mv (.t 7), none⟩, ⟨(some 25), none, false, .idxA 1 (.t 23) (.t 24), none⟩, ⟨(some 26), none, false, .load 1 false (.t 25), none⟩, ⟨(some 27), none, false, .call 50 [(.t 17), (.t 22), (.t 26)], none⟩, ⟨(some 16), none, false, .mv (.t 27), none⟩, ⟨(some 28), none, false, .extract (.t 16) 0, none⟩, ⟨(some 29), none, false, .extract (.t 16) 1, (some [1, 2, 6, 7, 28, 29])⟩, ⟨(some 8), none, false, .mv (.t 28), none⟩, ⟨(some 9), none, false, .mv (.t 29), (some [1, 2, 6, 7, 8, 9])⟩]
abbrev k37_o5 : List AJ := [.o ⟨(some 30), none, false, .mv (.t 9), none⟩, .o ⟨(some 31), none, false, .un .not (.t 30), (some [1, 2, 6, 7, 8, 31])⟩]
abbrev k37_o6 : List AJ := [.o ⟨(some 4), none, false, .mv (.c (.int .i64 0)), none⟩, .o ⟨(some 5), none, false, .mv (.c (.bool false)), (some [4, 5])⟩]
def k37_9 : ACode := .seq (.region k37_o6) .ret
def k37_10 : ACode := .cond (.t 31) k37_9 .skip
def k37_11 : ACode := .seq (.region k37_o5) k37_10
abbrev k37_o7 : List AJ := [.o ⟨(some 32), none, false, .mv (.t 6), none⟩, .o ⟨(some 33), none, false, .mv (.t 8), none⟩, .o ⟨(some 34), none, true, .bin .add (.t 32) (.t 33), none⟩, .o ⟨(some 35), none, false, .fieldA 1 (.t 2), none⟩, .o ⟨(some 36), none, false, .load 1 false (.t 35), none⟩, .o ⟨(some 37), none, false, .bin .rem (.t 34) (.t 36), none⟩, .o ⟨(some 6), none, false, .mv (.t 37), (some [1, 2, 6, 7])⟩]
def k37_12 : ACode := .region k37_o7
def k37_13 : ACode := .seq k37_11 k37_12
def k37_14 : ACode := .seq (.draw k37_o4 [] rfl) k37_13
abbrev k37_o8 : List AJ := [.o ⟨(some 14), none, false, .mv (.t 7), none⟩, .o ⟨(some 15), none, true, .bin .add (.t 14) (.c (.int .i64 1)), none⟩, .o ⟨(some 7), none, false, .mv (.t 15), (some [1, 2, 6, 7])⟩]
def k37_16 : ACode := .region k37_o8
def k37_17 : ACode := .seq (.block 1 k37_14) k37_16
def k37_18 : ACode := .seq k37_5 k37_17
def k37_19 : ACode := .loop k37_18
def k37_20 : ACode := .block 0 k37_19
def k37_21 : ACode := .seq (.region k37_o2) k37_20
abbrev k37_o9 : List AJ := [.o ⟨(some 38), none, false, .mv (.t 6), none⟩, .o ⟨(some 4), none, false, .mv (.t 38), none⟩, .o ⟨(some 5), none, false, .mv (.c (.bool true)), (some [4, 5])⟩]
def k37_23 : ACode := .seq (.region k37_o9) .ret
def k37_24 : ACode := .seq k37_21 k37_23
def k37_25 : ACode := .seq (.region k37_o1) k37_24
def k37_26 : ACode := .seq (.region k37_o0) k37_25
@[simp, simp ↓] theorem k37_4r : rC k37_4 (.t 13) .skip (.exit 0) := zC rfl
@[simp, simp ↓] theorem k37_5r : sR k37_5 k37_o3 k37_4 := yR rfl
@[simp, simp ↓] theorem k37_9r : sR k37_9 k37_o6 .ret := yR rfl
@[simp, simp ↓] theorem k37_10r : rC k37_10 (.t 31) k37_9 .skip := zC rfl
@[simp, simp ↓] theorem k37_11r : sR k37_11 k37_o5 k37_10 := yR rfl
@[simp, simp ↓] theorem k37_12r : rR k37_12 k37_o7 := zR rfl
@[simp, simp ↓] theorem k37_13r : rS k37_13 k37_11 k37_12 := zS rfl
@[simp, simp ↓] theorem k37_14r : sD k37_14 k37_o4 [] k37_13 := yD rfl
@[simp, simp ↓] theorem k37_16r : rR k37_16 k37_o8 := zR rfl
@[simp, simp ↓] theorem k37_17r : sB k37_17 1 k37_14 k37_16 := yB rfl
@[simp, simp ↓] theorem k37_18r : rS k37_18 k37_5 k37_17 := zS rfl
@[simp, simp ↓] theorem k37_19r : rL k37_19 k37_18 := zL rfl
@[simp, simp ↓] theorem k37_20r : rB k37_20 0 k37_19 := zB rfl
@[simp, simp ↓] theorem k37_21r : sR k37_21 k37_o2 k37_20 := yR rfl
@[simp, simp ↓] theorem k37_23r : sR k37_23 k37_o9 .ret := yR rfl
@[simp, simp ↓] theorem k37_24r : rS k37_24 k37_21 k37_23 := zS rfl
@[simp, simp ↓] theorem k37_25r : sR k37_25 k37_o1 k37_24 := yR rfl
@[simp, simp ↓] theorem k37_26r : sR k37_26 k37_o0 k37_25 := yR rfl
noncomputable abbrev k37_C : Orc → Cx := mkC Tryz.prog [] 37 39 [.tmp 4, .tmp 5]
theorem k37_of0 : OfP0 Tryz.prog Tryz.f37 37 39 k37_C k37_26 := @ofP0 _ _ _ _ _ _ _ _ Tryz.func37 (by decide +kernel) rfl (by kernel_rfl) rfl (by kernel_rfl)
theorem holonomy_c (x : Ph) (p : List Int) (h : Heap) (hv : x.valid) (hp : p.length ≤ 1048576) : ACalls Tryz.prog 37 [x.av, .snap 1 (p.map iv)] h (fun v h' => v = stepAV (x.hol p) ∧ h' = h) := by
  have hm1 := hv.2.2.1
  have hm2 := hv.2.2.2.1
  refine k37_of0 rfl noPure fun I => ?_
  refine Run2.of I 1000 ?_
  simp -implicitDefEqProofs
  refine Run2.loopE (α := Nat × Int) (fun s => [(1, .snap 1 (p.map iv)), (2, .ip [.int .i64 x.n, .int .i64 x.m, .snap 3 (x.ts.map T.av)]), (6, .int .i64 s.2), (7, .int .i64 (s.1 + 1 : Nat))]) (fun i => h) (fun s => p.length - s.1) (fun s => (0 ≤ s.2 ∧ s.2 < x.m) ∧ holR x.step x.m s.2 (p.drop s.1) = x.hol p) (0, 0) (by simp) rfl ⟨by simp; omega, rfl⟩ ?_
  rintro ⟨i, acc⟩ ⟨ha, hi⟩ ih
  simp only at ha hi ih ⊢
  by_cases hlt : i + 1 < p.length
  · have hd : p.drop i = p[i] :: p[i + 1] :: p.drop (i + 2) := by rw [List.drop_eq_getElem_cons (by omega), List.drop_eq_getElem_cons hlt]
    have hd1 : p.drop (i + 1) = p[i + 1] :: p.drop (i + 2) := List.drop_eq_getElem_cons hlt
    rw [hd] at hi
    have hlt0 : i < p.length := by omega
    have hc : ((i : Int) + 1 - 1).toNat = i := by omega
    have hI : (i : Int) + 1 < p.length := by omega
    have hcall := fun h => shiftBetween_c x p[i] p[i + 1] h hv
    cases hst : x.step p[i] p[i + 1] with
    | none =>
      simp only [holR, hst] at hi
      simp only [hst] at hcall
      refine Run2.of I 1000 ?_
      simp -implicitDefEqProofs [hlt, hlt0, hc, hI]
      refine ⟨by omega, by omega, dcallK (hcall h) ?_⟩
      simp -implicitDefEqProofs [← hi]
    | some d =>
      have hbd := Ph.step_bd hv hst
      simp only [holR, hst] at hi
      simp only [hst] at hcall
      have go := ih (i + 1, (acc + d) % x.m) ⟨⟨Int.emod_nonneg _ (by omega), Int.emod_lt_of_pos _ (by omega)⟩, by rw [hd1]; exact hi⟩ (by simp; omega)
      have ht : (acc + d).tmod x.m = (acc + d) % x.m := by rw [Int.tmod_eq_emod_of_nonneg (by omega)]
      clear ih
      refine Run2.of I 1000 ?_
      simp -implicitDefEqProofs [hlt, hlt0, hc, hI]
      refine ⟨by omega, by omega, dcallK (hcall h) ?_⟩
      simp -implicitDefEqProofs [ht]
      exact ⟨by omega, by omega, by omega, by simpa using go⟩
  · have : x.hol p = some acc := by
      rw [← hi]
      have : (p.drop i).length ≤ 1 := by simp; omega
      match hp : p.drop i, this with
      | [], _ => rfl
      | [_], _ => rfl
    have hI : ¬ (i : Int) + 1 < p.length := by omega
    refine Run2.of I 1000 ?_
    simp -implicitDefEqProofs [hI, this]
/-- What HolonomyOf gives. -/
noncomputable def Ph.hol2 (x : Ph) (p : List Int) : Int × Int := if x.valid then (if p.length ≤ 64 then (if ∀ a ∈ p, 0 ≤ a ∧ a < x.n then (match x.hol p with | some s => (s, 0) | none => (0, 3)) else (0, 2)) else (0, 5)) else (0, 1)

noncomputable def orcH : List (Nat × (List AV → Option (Prop × AV))) := orcC3
theorem orcH_p : Pure Tryz.prog (lk orcH) := orcC3_p
@[simp] theorem orcH_l (b : Bool) (g : FuncId) (l : List AV) : lk orcH b g l = lk orcC3 b g l := nr rfl
abbrev k17_o0 : List AJ := [.o ⟨(some 2), none, false, .box false 3 (.t 0), none⟩, .o ⟨(some 4), none, false, .mv (.c (.int .i64 0)), none⟩, .o ⟨(some 5), none, false, .mv (.c (.int .i64 0)), (some [1, 2])⟩]
abbrev k17_o1 : List AJ := [.o ⟨(some 9), none, false, .load 3 true (.t 2), none⟩, .o ⟨(some 10), none, false, .call 21 [(.t 9)], none⟩, .o ⟨(some 11), none, false, .un .not (.t 10), none⟩, .o ⟨(some 8), none, false, .mv (.t 11), (some [1, 2, 8])⟩]
abbrev k17_o2 : List AJ := [.o ⟨(some 4), none, false, .mv (.c (.int .i64 0)), none⟩, .o ⟨(some 5), none, false, .mv (.c (.int .i64 1)), (some [4, 5])⟩]
def k17_3 : ACode := .seq (.region k17_o2) .ret
abbrev k17_o3 : List AJ := [.o ⟨(some 13), none, false, .mv (.t 1), none⟩, .o ⟨(some 14), none, false, .len (.t 13), none⟩, .o ⟨(some 15), none, false, .bin .gtr (.t 14) (.c (.int .i64 64)), none⟩, .o ⟨(some 12), none, false, .mv (.t 15), (some [1, 2, 12])⟩]
abbrev k17_o4 : List AJ := [.o ⟨(some 4), none, false, .mv (.c (.int .i64 0)), none⟩, .o ⟨(some 5), none, false, .mv (.c (.int .i64 5)), (some [4, 5])⟩]
def k17_6 : ACode := .seq (.region k17_o4) .ret
abbrev k17_o5 : List AJ := [.o ⟨(some 17), none, false, .mv (.t 1), none⟩, .o ⟨(some 18), none, false, .fieldA 0 (.t 2), none⟩, .o ⟨(some 19), none, false, .load 1 false (.t 18), none⟩, .o ⟨(some 20), none, false, .call 36 [(.t 17), (.t 19)], none⟩, .o ⟨(some 21), none, false, .un .not (.t 20), none⟩, .o ⟨(some 16), none, false, .mv (.t 21), (some [1, 2, 16])⟩]
abbrev k17_o6 : List AJ := [.o ⟨(some 4), none, false, .mv (.c (.int .i64 0)), none⟩, .o ⟨(some 5), none, false, .mv (.c (.int .i64 2)), (some [4, 5])⟩]
def k17_9 : ACode := .seq (.region k17_o6) .ret
def k17_10 : ACode := .cond (.t 16) k17_9 .skip
def k17_11 : ACode := .seq (.region k17_o5) k17_10
def k17_12 : ACode := .cond (.t 12) k17_6 k17_11
def k17_13 : ACode := .seq (.region k17_o3) k17_12
def k17_14 : ACode := .cond (.t 8) k17_3 k17_13
def k17_15 : ACode := .seq (.region k17_o1) k17_14
abbrev k17_o7 : List AJ := [.o ⟨(some 23), none, false, .load 3 true (.t 2), none⟩, .o ⟨(some 24), none, false, .mv (.t 1), none⟩, .o ⟨(some 25), none, false, .call 37 [(.t 23), (.t 24)], none⟩, .o ⟨(some 22), none, false, .mv (.t 25), none⟩, .o ⟨(some 26), none, false, .extract (.t 22) 0, none⟩, .o ⟨(some 27), none, false, .extract (.t 22) 1, none⟩, .o ⟨(some 6), none, false, .mv (.t 26), none⟩, .o ⟨(some 7), none, false, .mv (.t 27), (some [6, 7])⟩]
abbrev k17_o8 : List AJ := [.o ⟨(some 28), none, false, .mv (.t 7), none⟩, .o ⟨(some 29), none, false, .un .not (.t 28), (some [6, 29])⟩]
abbrev k17_o9 : List AJ := [.o ⟨(some 4), none, false, .mv (.c (.int .i64 0)), none⟩, .o ⟨(some 5), none, false, .mv (.c (.int .i64 3)), (some [4, 5])⟩]
def k17_20 : ACode := .seq (.region k17_o9) .ret
def k17_21 : ACode := .cond (.t 29) k17_20 .skip
def k17_22 : ACode := .seq (.region k17_o8) k17_21
abbrev k17_o10 : List AJ := [.o ⟨(some 30), none, false, .mv (.t 6), none⟩, .o ⟨(some 4), none, false, .mv (.t 30), none⟩, .o ⟨(some 5), none, false, .mv (.c (.int .i64 0)), (some [4, 5])⟩]
def k17_24 : ACode := .seq (.region k17_o10) .ret
def k17_25 : ACode := .seq k17_22 k17_24
def k17_26 : ACode := .seq (.region k17_o7) k17_25
def k17_27 : ACode := .seq (.block 0 k17_15) k17_26
def k17_28 : ACode := .seq (.region k17_o0) k17_27
@[simp, simp ↓] theorem k17_3r : sR k17_3 k17_o2 .ret := yR rfl
@[simp, simp ↓] theorem k17_6r : sR k17_6 k17_o4 .ret := yR rfl
@[simp, simp ↓] theorem k17_9r : sR k17_9 k17_o6 .ret := yR rfl
@[simp, simp ↓] theorem k17_10r : rC k17_10 (.t 16) k17_9 .skip := zC rfl
@[simp, simp ↓] theorem k17_11r : sR k17_11 k17_o5 k17_10 := yR rfl
@[simp, simp ↓] theorem k17_12r : rC k17_12 (.t 12) k17_6 k17_11 := zC rfl
@[simp, simp ↓] theorem k17_13r : sR k17_13 k17_o3 k17_12 := yR rfl
@[simp, simp ↓] theorem k17_14r : rC k17_14 (.t 8) k17_3 k17_13 := zC rfl
@[simp, simp ↓] theorem k17_15r : sR k17_15 k17_o1 k17_14 := yR rfl
@[simp, simp ↓] theorem k17_20r : sR k17_20 k17_o9 .ret := yR rfl
@[simp, simp ↓] theorem k17_21r : rC k17_21 (.t 29) k17_20 .skip := zC rfl
@[simp, simp ↓] theorem k17_22r : sR k17_22 k17_o8 k17_21 := yR rfl
@[simp, simp ↓] theorem k17_24r : sR k17_24 k17_o10 .ret := yR rfl
@[simp, simp ↓] theorem k17_25r : rS k17_25 k17_22 k17_24 := zS rfl
@[simp, simp ↓] theorem k17_26r : sR k17_26 k17_o7 k17_25 := yR rfl
@[simp, simp ↓] theorem k17_27r : sB k17_27 0 k17_15 k17_26 := yB rfl
@[simp, simp ↓] theorem k17_28r : sR k17_28 k17_o0 k17_27 := yR rfl
noncomputable abbrev k17_C : Orc → Cx := mkC Tryz.prog [] 17 31 [.tmp 4, .tmp 5]
theorem k17_of0 : OfP0 Tryz.prog Tryz.f17 17 31 k17_C k17_28 := @ofP0 _ _ _ _ _ _ _ _ Tryz.func17 (by decide +kernel) rfl (by kernel_rfl) rfl (by kernel_rfl)
theorem implHol_c (x : Ph) (p : List Int) (h : Heap) (ok : x.ok) (hl : x.ts.length ≤ 1048576) (hp : p.length ≤ 1048576) : ACalls Tryz.prog 17 [x.av, .snap 1 (p.map iv)] h (fun v h' => v = .tup [.int .i64 (x.hol2 p).1, .int .i64 (x.hol2 p).2] ∧ h' = h) := by
  refine k17_of0 rfl orcF_p fun I => ?_
  refine Run2.of I 1000 ?_
  simp -implicitDefEqProofs [ok, hl, hp]
  refine ⟨fun hv => by simp [Ph.hol2, hv], fun hv => ⟨fun h1 => by simp [Ph.hol2, hv, show ¬ p.length ≤ 64 by omega], fun h1 => ?_⟩⟩
  have hn1 := hv.1
  have hn2 := hv.2.1
  have h64 : p.length ≤ 64 := by omega
  refine ⟨by omega, fun a ha hb => ?_, fun h2 => ?_⟩
  · have : ¬ ∀ a ∈ p, 0 ≤ a ∧ a < x.n := fun h2 => by have := h2 a ha; omega
    unfold Ph.hol2
    rw [if_pos hv, if_pos h64, if_neg this]
    exact ⟨rfl, rfl⟩
  · have hh : x.hol2 p = (match x.hol p with | some s => (s, 0) | none => (0, 3)) := by
      unfold Ph.hol2
      rw [if_pos hv, if_pos h64, if_pos h2]
    refine (holonomy_c x p h hv hp).mono ?_
    rintro v h' ⟨rfl, rfl⟩
    refine gK.go ?_
    cases hs : x.hol p <;> rw [hs] at hh <;> simp -implicitDefEqProofs [hh]
end Go.AG.P
