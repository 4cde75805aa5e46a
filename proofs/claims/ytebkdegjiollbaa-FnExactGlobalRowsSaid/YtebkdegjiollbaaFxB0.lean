/- Small functions on numbers and lists of numbers, and what they give. No statement is made here. -/
import Derived.Test.YtebkdegjiollbaaRows
import Derived.Test.YtebkdegjiollbaaAGLists2
namespace Go.AG
open Go.Proofs Go.Proofs.Ytebkdegjiollbaa
set_option linter.unusedSimpArgs false
set_option linter.unusedVariables false
set_option maxRecDepth 4000
abbrev k45_o0 : List AJ := [.o ⟨(some 6), none, false, .mv (.c (.bool false)), (some [0, 1, 2])⟩]
abbrev k45_o1 : List AJ := [.o ⟨(some 7), none, false, .mv (.t 0), none⟩, .o ⟨(some 8), none, false, .mv (.t 1), none⟩, .o ⟨(some 9), none, false, .bin .geq (.t 7) (.t 8), none⟩, .o ⟨(some 10), none, false, .mv (.t 9), none⟩, .o ⟨(some 11), (some (10, true)), false, .mv (.t 0), none⟩, .o ⟨(some 12), (some (10, true)), false, .mv (.t 2), none⟩, .o ⟨(some 13), (some (10, true)), false, .bin .leq (.t 11) (.t 12), none⟩, .o ⟨(some 14), none, false, .pick (.t 10) (.t 13) (.c (.bool false)), none⟩, .o ⟨(some 6), none, false, .mv (.t 14), (some [6])⟩]
def k45_2 : ACode := .seq (.region k45_o1) .ret
def k45_3 : ACode := .seq (.region k45_o0) k45_2
@[simp, simp ↓] theorem k45_2r : sR k45_2 k45_o1 .ret := yR rfl
@[simp, simp ↓] theorem k45_3r : sR k45_3 k45_o0 k45_2 := yR rfl
noncomputable abbrev k45_C : Orc → Cx := mkC Try.prog [] 45 15 [.tmp 6]
theorem k45_of0 : OfP0 Try.prog Try.f45 45 15 k45_C k45_3 := @ofP0 _ _ _ _ _ _ _ _ Try.func45 (by decide +kernel) rfl (by kernel_rfl) rfl (by kernel_rfl)
theorem l00In_c (a b c : Int) (h : Heap) : ACalls Try.prog 45 [.int .i64 a, .int .i64 b, .int .i64 c] h (fun v h' => v = .bool (decide (b ≤ a) && decide (a ≤ c)) ∧ h' = h) := by
  refine k45_of0 rfl noPure fun I => ?_
  refine Run2.of I 1000 ?_
  simp -implicitDefEqProofs
  grind
noncomputable def o_l00In : List AV → Option (Prop × AV) := tab (fun (x : Int × Int × Int) => match x with | (a, b, c) => [.int .i64 a, .int .i64 b, .int .i64 c]) (fun x => match x with | (a, b, c) => True) (fun x => match x with | (a, b, c) => .bool (decide (b ≤ a) && decide (a ≤ c)))
@[simp] theorem o_l00In_e (a : Int) (b : Int) (c : Int) : o_l00In [.int .i64 a, .int .i64 b, .int .i64 c] = some (True, .bool (decide (b ≤ a) && decide (a ≤ c))) := tab_at (enc := fun (x : Int × Int × Int) => match x with | (a, b, c) => [.int .i64 a, .int .i64 b, .int .i64 c]) (fun x y h => by
  obtain ⟨a1, b1, c1⟩ := x; obtain ⟨a2, b2, c2⟩ := y; simp at h; simp [h] <;> omega) _ _ (a, b, c)
theorem o_l00In_k : Knows Try.prog 45 o_l00In := tab_knows fun x hx h => by
  obtain ⟨a, b, c⟩ := x; exact l00In_c _ _ _ h
abbrev k91_o0 : List AJ := [.o ⟨(some 6), none, false, .mv (.c (.bool false)), (some [0, 1, 2])⟩]
abbrev k91_o1 : List AJ := [.o ⟨(some 7), none, false, .mv (.t 0), none⟩, .o ⟨(some 8), none, false, .mv (.t 1), none⟩, .o ⟨(some 9), none, false, .bin .geq (.t 7) (.t 8), none⟩, .o ⟨(some 10), none, false, .mv (.t 9), none⟩, .o ⟨(some 11), (some (10, true)), false, .mv (.t 0), none⟩, .o ⟨(some 12), (some (10, true)), false, .mv (.t 2), none⟩, .o ⟨(some 13), (some (10, true)), false, .bin .leq (.t 11) (.t 12), none⟩, .o ⟨(some 14), none, false, .pick (.t 10) (.t 13) (.c (.bool false)), none⟩, .o ⟨(some 6), none, false, .mv (.t 14), (some [6])⟩]
def k91_2 : ACode := .seq (.region k91_o1) .ret
def k91_3 : ACode := .seq (.region k91_o0) k91_2
@[simp, simp ↓] theorem k91_2r : sR k91_2 k91_o1 .ret := yR rfl
@[simp, simp ↓] theorem k91_3r : sR k91_3 k91_o0 k91_2 := yR rfl
noncomputable abbrev k91_C : Orc → Cx := mkC Try.prog [] 91 15 [.tmp 6]
theorem k91_of0 : OfP0 Try.prog Try.f91 91 15 k91_C k91_3 := @ofP0 _ _ _ _ _ _ _ _ Try.func91 (by decide +kernel) rfl (by kernel_rfl) rfl (by kernel_rfl)
theorem within_c (a b c : Int) (h : Heap) : ACalls Try.prog 91 [.int .i64 a, .int .i64 b, .int .i64 c] h (fun v h' => v = .bool (decide (b ≤ a) && decide (a ≤ c)) ∧ h' = h) := by
  refine k91_of0 rfl noPure fun I => ?_
  refine Run2.of I 1000 ?_
  simp -implicitDefEqProofs
  grind
noncomputable def o_within : List AV → Option (Prop × AV) := tab (fun (x : Int × Int × Int) => match x with | (a, b, c) => [.int .i64 a, .int .i64 b, .int .i64 c]) (fun x => match x with | (a, b, c) => True) (fun x => match x with | (a, b, c) => .bool (decide (b ≤ a) && decide (a ≤ c)))
@[simp] theorem o_within_e (a : Int) (b : Int) (c : Int) : o_within [.int .i64 a, .int .i64 b, .int .i64 c] = some (True, .bool (decide (b ≤ a) && decide (a ≤ c))) := tab_at (enc := fun (x : Int × Int × Int) => match x with | (a, b, c) => [.int .i64 a, .int .i64 b, .int .i64 c]) (fun x y h => by
  obtain ⟨a1, b1, c1⟩ := x; obtain ⟨a2, b2, c2⟩ := y; simp at h; simp [h] <;> omega) _ _ (a, b, c)
theorem o_within_k : Knows Try.prog 91 o_within := tab_knows fun x hx h => by
  obtain ⟨a, b, c⟩ := x; exact within_c _ _ _ h
abbrev k159_o0 : List AJ := [.o ⟨(some 4), none, false, .mv (.c (.int .i64 0)), (some [0, 1])⟩]
abbrev k159_o1 : List AJ := [.o ⟨(some 6), none, false, .mv (.t 0), none⟩, .o ⟨(some 7), none, false, .len (.t 6), none⟩, .o ⟨(some 8), none, false, .mv (.c (.int .i64 0)), (some [0, 1, 7, 8])⟩]
abbrev k159_o2 : List AJ := [.o ⟨(some 9), none, false, .bin .lss (.t 8) (.t 7), (some [0, 1, 7, 8, 9])⟩]
abbrev k159_o3 : List AJ := [.o ⟨(some 10), none, false, .mv (.t 8), none⟩, .o ⟨(some 5), none, false, .mv (.t 10), (some [0, 1, 5, 7, 8])⟩]
abbrev k159_o4 : List AJ := [.o ⟨(some 11), none, false, .mv (.t 1), none⟩, .o ⟨(some 12), none, false, .mv (.t 0), none⟩, .o ⟨(some 13), none, false, .mv (.t 5), none⟩, .o ⟨(some 14), none, false, .idxA 1 (.t 12) (.t 13), none⟩, .o ⟨(some 15), none, false, .load 1 false (.t 14), none⟩, .o ⟨(some 16), none, false, .callv (.t 11) [(.t 15)], (some [0, 1, 5, 7, 8, 16])⟩]
abbrev k159_o5 : List AJ := [.o ⟨(some 17), none, false, .mv (.t 5), none⟩, .o ⟨(some 4), none, false, .mv (.t 17), (some [4])⟩]
def k159_7 : ACode := .seq (.region k159_o5) .ret
def k159_8 : ACode := .cond (.t 16) k159_7 .skip
def k159_9 : ACode := .seq (.region k159_o4) k159_8
def k159_10 : ACode := .seq (.region k159_o3) k159_9
abbrev k159_o6 : List AJ := [.o ⟨(some 18), none, true, .bin .add (.t 8) (.c (.int .i64 1)), none⟩, .o ⟨(some 8), none, false, .mv (.t 18), (some [0, 1, 7, 8])⟩]
def k159_12 : ACode := .region k159_o6
def k159_13 : ACode := .seq (.block 1 k159_10) k159_12
def k159_14 : ACode := .seq (.cond (.t 9) .skip (.exit 0)) k159_13
def k159_15 : ACode := .seq (.region k159_o2) k159_14
def k159_16 : ACode := .loop k159_15
def k159_17 : ACode := .block 0 k159_16
def k159_18 : ACode := .seq (.region k159_o1) k159_17
abbrev k159_o7 : List AJ := [.o ⟨(some 4), none, false, .mv (.c (.int .i64 (-1))), (some [4])⟩]
def k159_20 : ACode := .seq (.region k159_o7) .ret
def k159_21 : ACode := .seq k159_18 k159_20
def k159_22 : ACode := .seq (.region k159_o0) k159_21
@[simp, simp ↓] theorem k159_7r : sR k159_7 k159_o5 .ret := yR rfl
@[simp, simp ↓] theorem k159_8r : rC k159_8 (.t 16) k159_7 .skip := zC rfl
@[simp, simp ↓] theorem k159_9r : sR k159_9 k159_o4 k159_8 := yR rfl
@[simp, simp ↓] theorem k159_10r : sR k159_10 k159_o3 k159_9 := yR rfl
@[simp, simp ↓] theorem k159_12r : rR k159_12 k159_o6 := zR rfl
@[simp, simp ↓] theorem k159_13r : sB k159_13 1 k159_10 k159_12 := yB rfl
@[simp, simp ↓] theorem k159_14r : sC k159_14 (.t 9) .skip (.exit 0) k159_13 := yC rfl
@[simp, simp ↓] theorem k159_15r : sR k159_15 k159_o2 k159_14 := yR rfl
@[simp, simp ↓] theorem k159_16r : rL k159_16 k159_15 := zL rfl
@[simp, simp ↓] theorem k159_17r : rB k159_17 0 k159_16 := zB rfl
@[simp, simp ↓] theorem k159_18r : sR k159_18 k159_o1 k159_17 := yR rfl
@[simp, simp ↓] theorem k159_20r : sR k159_20 k159_o7 .ret := yR rfl
@[simp, simp ↓] theorem k159_21r : rS k159_21 k159_18 k159_20 := zS rfl
@[simp, simp ↓] theorem k159_22r : sR k159_22 k159_o0 k159_21 := yR rfl
noncomputable abbrev k159_C : Orc → Cx := mkC Try.prog [] 159 19 [.tmp 4]
theorem k159_of0 : OfP0 Try.prog Try.f159 159 19 k159_C k159_22 := @ofP0 _ _ _ _ _ _ _ _ Try.func159 (by decide +kernel) rfl (by kernel_rfl) rfl (by kernel_rfl)
/-- The first place where q holds. -/
def idxf (q : Int → Bool) (l : List Int) : Int := match l.findIdx? q with
  | some i => i
  | none => -1
theorem idxf_at {q : Int → Bool} {l : List Int} {i : Nat} (h : i < l.length) (hb : ∀ j (hj : j < l.length), j < i → q l[j] = false) (ht : q l[i] = true) : idxf q l = i := by
  have : l.findIdx? q = some i := List.findIdx?_eq_some_iff_getElem.2 ⟨h, ht, fun j hj => by simp [hb j (by omega) hj]⟩
  unfold idxf; rw [this]
theorem idxf_none {q : Int → Bool} {l : List Int} (hb : ∀ j (hj : j < l.length), q l[j] = false) : idxf q l = -1 := by
  have : l.findIdx? q = none := List.findIdx?_eq_none_iff.2 fun a ha => by
    obtain ⟨j, hj, rfl⟩ := List.mem_iff_getElem.1 ha
    simp [hb j hj]
  unfold idxf; rw [this]
theorem idxf_ge (q : Int → Bool) (l : List Int) : (0 ≤ idxf q l) ↔ ∃ a ∈ l, q a = true := by
  unfold idxf
  cases h : l.findIdx? q with
  | none =>
    rw [List.findIdx?_eq_none_iff] at h
    simp only [show ¬ (0 : Int) ≤ -1 by omega, false_iff]
    rintro ⟨a, ha, hq⟩
    have := h a ha
    rw [hq] at this; cases this
  | some i =>
    obtain ⟨hi, hq, _⟩ := List.findIdx?_eq_some_iff_getElem.1 h
    simp only [Int.natCast_nonneg, true_iff]
    exact ⟨_, List.getElem_mem hi, hq⟩
theorem IndexFunc_s (l : List Int) (g : FuncId) (caps : List AV) (q : Int → Bool) (h : Heap) (hl : l.length ≤ 1048576) (hq : ∀ a ∈ l, ACalls Try.prog g (.int .i64 a :: caps) h (fun v h' => v = .bool (q a) ∧ h' = h)) :
    ACalls Try.prog 159 [.snap 1 (l.map iv), .fn g caps] h (fun v h' => v = .int .i64 (idxf q l) ∧ h' = h) := by
  refine k159_of0 rfl noPure fun I => ?_
  refine Run2.of I 1000 ?_
  simp -implicitDefEqProofs
  refine Run2.loopE (fun i => [(0, .snap 1 (l.map iv)), (1, .fn g caps), (7, .int .i64 l.length), (8, .int .i64 (i : Nat))]) (fun i => h) (fun i => l.length - i) (fun i => i ≤ l.length ∧ ∀ j (hj : j < l.length), j < i → q l[j] = false) 0 (by simp) rfl ⟨Nat.zero_le _, fun _ _ h => absurd h (Nat.not_lt_zero _)⟩ fun i hi ih => ?_
  by_cases hlt : i < l.length
  · have go := fun (h1 : q l[i] = false) => ih (i + 1) ⟨by omega, fun j hj hji => by
      rcases Nat.lt_or_ge j i with h | h
      · exact hi.2 j hj h
      · obtain rfl : j = i := by omega
        exact h1⟩ (by omega)
    have hat := idxf_at (q := q) hlt hi.2
    clear ih
    refine Run2.of I 1000 ?_
    simp -implicitDefEqProofs [hlt]
    refine (hq _ (List.getElem_mem hlt)).mono ?_
    rintro v h' ⟨rfl, rfl⟩
    refine gK.go ?_
    simp -implicitDefEqProofs
    refine ⟨fun h => (hat h).symm, fun h => ⟨by omega, ?_⟩⟩
    simpa using go h
  · obtain rfl : i = l.length := by omega
    have := idxf_none (q := q) (l := l) fun j hj => hi.2 j hj hj
    refine Run2.of I 1000 ?_
    simp -implicitDefEqProofs
    exact this.symm
abbrev k130_o0 : List AJ := [.o ⟨(some 4), none, false, .mv (.c (.bool false)), (some [0, 1])⟩]
abbrev k130_o1 : List AJ := [.o ⟨(some 5), none, false, .mv (.t 0), none⟩, .o ⟨(some 6), none, false, .mv (.t 1), none⟩, .o ⟨(some 7), none, false, .call 159 [(.t 5), (.t 6)], none⟩, .o ⟨(some 8), none, false, .bin .geq (.t 7) (.c (.int .i64 0)), none⟩, .o ⟨(some 4), none, false, .mv (.t 8), (some [4])⟩]
def k130_2 : ACode := .seq (.region k130_o1) .ret
def k130_3 : ACode := .seq (.region k130_o0) k130_2
@[simp, simp ↓] theorem k130_2r : sR k130_2 k130_o1 .ret := yR rfl
@[simp, simp ↓] theorem k130_3r : sR k130_3 k130_o0 k130_2 := yR rfl
noncomputable abbrev k130_C : Orc → Cx := mkC Try.prog [] 130 9 [.tmp 4]
theorem k130_of0 : OfP0 Try.prog Try.f130 130 9 k130_C k130_3 := @ofP0 _ _ _ _ _ _ _ _ Try.func130 (by decide +kernel) rfl (by kernel_rfl) rfl (by kernel_rfl)
theorem ContainsFunc_s (l : List Int) (g : FuncId) (caps : List AV) (q : Int → Bool) (h : Heap) (hl : l.length ≤ 1048576) (hq : ∀ a ∈ l, ACalls Try.prog g (.int .i64 a :: caps) h (fun v h' => v = .bool (q a) ∧ h' = h)) :
    ACalls Try.prog 130 [.snap 1 (l.map iv), .fn g caps] h (fun v h' => v = .bool (l.any q) ∧ h' = h) := by
  refine k130_of0 rfl noPure fun I => ?_
  refine Run2.of I 1000 ?_
  simp -implicitDefEqProofs
  refine (IndexFunc_s l g caps q h hl hq).mono ?_
  rintro v h' ⟨rfl, rfl⟩
  refine gK.go ?_
  simp -implicitDefEqProofs [idxf_ge]
  rw [Bool.eq_iff_iff]
  simp
end Go.AG
