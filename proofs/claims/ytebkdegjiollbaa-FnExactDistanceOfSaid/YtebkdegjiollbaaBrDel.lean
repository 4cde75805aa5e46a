/- Lists of bars out of which some are taken. No statement is made here. -/
import Derived.Test.YtebkdegjiollbaaBrVal
namespace Go.AG
open Go.Proofs Go.Proofs.Ytebkdegjiollbaa
set_option linter.unusedSimpArgs false
set_option linter.unusedVariables false
set_option maxRecDepth 4000
abbrev k123_o0 : List AJ := [.o ⟨(some 2), none, false, .mv (.c .nilsl), (some [0])⟩]
abbrev k123_o1 : List AJ := [.o ⟨(some 3), none, false, .mv (.t 0), none⟩, .o ⟨(some 4), none, false, .eqn 0 false (.t 3), (some [0, 4])⟩]
abbrev k123_o2 : List AJ := [.o ⟨(some 2), none, false, .mv (.c .nilsl), (some [2])⟩]
def k123_3 : ACode := .seq (.region k123_o2) .ret
def k123_4 : ACode := .cond (.t 4) k123_3 .skip
def k123_5 : ACode := .seq (.region k123_o1) k123_4
abbrev k123_o3 : List AJ := [.e 5 3 none, .o ⟨(some 6), none, false, .mv (.t 0), none⟩, .o ⟨(some 7), none, false, .append 3 24 (.t 5) (.t 6), none⟩, .o ⟨(some 2), none, false, .mv (.t 7), (some [2])⟩]
def k123_7 : ACode := .seq (.region k123_o3) .ret
def k123_8 : ACode := .seq k123_5 k123_7
def k123_9 : ACode := .seq (.region k123_o0) k123_8
@[simp, simp ↓] theorem k123_3r : sR k123_3 k123_o2 .ret := yR rfl
@[simp, simp ↓] theorem k123_4r : rC k123_4 (.t 4) k123_3 .skip := zC rfl
@[simp, simp ↓] theorem k123_5r : sR k123_5 k123_o1 k123_4 := yR rfl
@[simp, simp ↓] theorem k123_7r : sR k123_7 k123_o3 .ret := yR rfl
@[simp, simp ↓] theorem k123_8r : rS k123_8 k123_5 k123_7 := zS rfl
@[simp, simp ↓] theorem k123_9r : sR k123_9 k123_o0 k123_8 := yR rfl
noncomputable abbrev k123_C : Orc → Cx := mkC Try.prog [5] 123 8 [.tmp 2]
theorem k123_of0 : OfP0 Try.prog Try.f123 123 8 k123_C k123_9 := @ofP0 _ _ _ _ _ _ _ _ Try.func123 (by decide +kernel) rfl (by kernel_rfl) rfl (by kernel_rfl)
theorem CloneB_w (l : List T) (h : Heap) (hl : l.length ≤ 1048576) : ACalls Try.prog 123 [.snap 3 (l.map T.av)] h (fun v h' => ∃ hp, Grow 3 v (l.map T.av) hp ∧ h' = hp ++ h) := by
  refine k123_of0 rfl noPure fun I => ?_
  cases l with
  | nil =>
    refine Run2.of I 1000 ?_
    simp -implicitDefEqProofs
    exact ⟨.nil, .emp⟩
  | cons a l =>
    refine Run2.of I 1000 ?_
    simp -implicitDefEqProofs
    refine ⟨by simp at hl; omega, fun id hid => ⟨[(id, _)], .sl id _ _ (by simp), rfl⟩⟩
abbrev k157_o0 : List AJ := [.o ⟨(some 4), none, false, .mv (.c (.int .i64 0)), (some [0, 1])⟩]
abbrev k157_o1 : List AJ := [.o ⟨(some 6), none, false, .mv (.t 0), none⟩, .o ⟨(some 7), none, false, .len (.t 6), none⟩, .o ⟨(some 8), none, false, .mv (.c (.int .i64 0)), (some [0, 1, 7, 8])⟩]
abbrev k157_o2 : List AJ := [.o ⟨(some 9), none, false, .bin .lss (.t 8) (.t 7), (some [0, 1, 7, 8, 9])⟩]
abbrev k157_o3 : List AJ := [.o ⟨(some 10), none, false, .mv (.t 8), none⟩, .o ⟨(some 5), none, false, .mv (.t 10), (some [0, 1, 5, 7, 8])⟩]
abbrev k157_o4 : List AJ := [.o ⟨(some 11), none, false, .mv (.t 1), none⟩, .o ⟨(some 12), none, false, .mv (.t 0), none⟩, .o ⟨(some 13), none, false, .mv (.t 5), none⟩, .o ⟨(some 14), none, false, .idxA 3 (.t 12) (.t 13), none⟩, .o ⟨(some 15), none, false, .load 3 true (.t 14), none⟩, .o ⟨(some 16), none, false, .callv (.t 11) [(.t 15)], (some [0, 1, 5, 7, 8, 16])⟩]
abbrev k157_o5 : List AJ := [.o ⟨(some 17), none, false, .mv (.t 5), none⟩, .o ⟨(some 4), none, false, .mv (.t 17), (some [4])⟩]
def k157_7 : ACode := .seq (.region k157_o5) .ret
def k157_8 : ACode := .cond (.t 16) k157_7 .skip
def k157_9 : ACode := .seq (.region k157_o4) k157_8
def k157_10 : ACode := .seq (.region k157_o3) k157_9
abbrev k157_o6 : List AJ := [.o ⟨(some 18), none, true, .bin .add (.t 8) (.c (.int .i64 1)), none⟩, .o ⟨(some 8), none, false, .mv (.t 18), (some [0, 1, 7, 8])⟩]
def k157_12 : ACode := .region k157_o6
def k157_13 : ACode := .seq (.block 1 k157_10) k157_12
def k157_14 : ACode := .seq (.cond (.t 9) .skip (.exit 0)) k157_13
def k157_15 : ACode := .seq (.region k157_o2) k157_14
def k157_16 : ACode := .loop k157_15
def k157_17 : ACode := .block 0 k157_16
def k157_18 : ACode := .seq (.region k157_o1) k157_17
abbrev k157_o7 : List AJ := [.o ⟨(some 4), none, false, .mv (.c (.int .i64 (-1))), (some [4])⟩]
def k157_20 : ACode := .seq (.region k157_o7) .ret
def k157_21 : ACode := .seq k157_18 k157_20
def k157_22 : ACode := .seq (.region k157_o0) k157_21
@[simp, simp ↓] theorem k157_7r : sR k157_7 k157_o5 .ret := yR rfl
@[simp, simp ↓] theorem k157_8r : rC k157_8 (.t 16) k157_7 .skip := zC rfl
@[simp, simp ↓] theorem k157_9r : sR k157_9 k157_o4 k157_8 := yR rfl
@[simp, simp ↓] theorem k157_10r : sR k157_10 k157_o3 k157_9 := yR rfl
@[simp, simp ↓] theorem k157_12r : rR k157_12 k157_o6 := zR rfl
@[simp, simp ↓] theorem k157_13r : sB k157_13 1 k157_10 k157_12 := yB rfl
@[simp, simp ↓] theorem k157_14r : sC k157_14 (.t 9) .skip (.exit 0) k157_13 := yC rfl
@[simp, simp ↓] theorem k157_15r : sR k157_15 k157_o2 k157_14 := yR rfl
@[simp, simp ↓] theorem k157_16r : rL k157_16 k157_15 := zL rfl
@[simp, simp ↓] theorem k157_17r : rB k157_17 0 k157_16 := zB rfl
@[simp, simp ↓] theorem k157_18r : sR k157_18 k157_o1 k157_17 := yR rfl
@[simp, simp ↓] theorem k157_20r : sR k157_20 k157_o7 .ret := yR rfl
@[simp, simp ↓] theorem k157_21r : rS k157_21 k157_18 k157_20 := zS rfl
@[simp, simp ↓] theorem k157_22r : sR k157_22 k157_o0 k157_21 := yR rfl
noncomputable abbrev k157_C : Orc → Cx := mkC Try.prog [] 157 19 [.tmp 4]
theorem k157_of0 : OfP0 Try.prog Try.f157 157 19 k157_C k157_22 := @ofP0 _ _ _ _ _ _ _ _ Try.func157 (by decide +kernel) rfl (by kernel_rfl) rfl (by kernel_rfl)
/-- The first place where q holds. -/
def idxf (q : T → Bool) (l : List T) : Int := match l.findIdx? q with
  | some i => i
  | none => -1
theorem idxf_at {q : T → Bool} {l : List T} {i : Nat} (h : i < l.length) (hb : ∀ j (hj : j < l.length), j < i → q l[j] = false) (ht : q l[i] = true) : idxf q l = i := by
  have : l.findIdx? q = some i := List.findIdx?_eq_some_iff_getElem.2 ⟨h, ht, fun j hj => by simp [hb j (by omega) hj]⟩
  unfold idxf; rw [this]
theorem idxf_none {q : T → Bool} {l : List T} (hb : ∀ j (hj : j < l.length), q l[j] = false) : idxf q l = -1 := by
  have : l.findIdx? q = none := List.findIdx?_eq_none_iff.2 fun a ha => by
    obtain ⟨j, hj, rfl⟩ := List.mem_iff_getElem.1 ha
    simp [hb j hj]
  unfold idxf; rw [this]
theorem idxf_cases (q : T → Bool) (l : List T) : (idxf q l = -1 ∧ l.filter (fun x => !q x) = l) ∨ ∃ (i : Nat) (hi : i < l.length), idxf q l = i ∧ q l[i] = true ∧ (l.take (i + 1)).filter (fun x => !q x) = l.take i := by
  unfold idxf
  cases h : l.findIdx? q with
  | none =>
    rw [List.findIdx?_eq_none_iff] at h
    exact .inl ⟨rfl, List.filter_eq_self.2 fun a ha => by simp [h a ha]⟩
  | some i =>
    obtain ⟨hi, hq, hb⟩ := List.findIdx?_eq_some_iff_getElem.1 h
    refine .inr ⟨i, hi, rfl, hq, ?_⟩
    rw [List.take_succ_eq_append_getElem hi, List.filter_append]
    have : (l.take i).filter (fun x => !q x) = l.take i := List.filter_eq_self.2 fun a ha => by
      obtain ⟨j, hj, rfl⟩ := List.mem_iff_getElem.1 ha
      simp only [List.length_take] at hj
      simp only [List.getElem_take]
      simpa using hb j (by omega)
    rw [this]
    simp [hq]
theorem IndexFuncB_s (l : List T) (g : FuncId) (caps : List AV) (q : T → Bool) (h : Heap) (hl : l.length ≤ 1048576) (hq : ∀ a ∈ l, ACalls Try.prog g (a.av :: caps) h (fun v h' => v = .bool (q a) ∧ h' = h)) :
    ACalls Try.prog 157 [.snap 3 (l.map T.av), .fn g caps] h (fun v h' => v = .int .i64 (idxf q l) ∧ h' = h) := by
  refine k157_of0 rfl noPure fun I => ?_
  refine Run2.of I 1000 ?_
  simp -implicitDefEqProofs
  refine Run2.loopE (fun i => [(0, .snap 3 (l.map T.av)), (1, .fn g caps), (7, .int .i64 l.length), (8, .int .i64 (i : Nat))]) (fun i => h) (fun i => l.length - i) (fun i => i ≤ l.length ∧ ∀ j (hj : j < l.length), j < i → q l[j] = false) 0 (by simp) rfl ⟨Nat.zero_le _, fun _ _ h => absurd h (Nat.not_lt_zero _)⟩ fun i hi ih => ?_
  by_cases hlt : i < l.length
  · have go := fun (h1 : q l[i] = false) => ih (i + 1) ⟨by omega, fun j hj hji => by
      rcases Nat.lt_or_ge j i with h | h
      · exact hi.2 j hj h
      · obtain rfl : j = i := by omega
        exact h1⟩ (by omega)
    have hat := idxf_at (q := q) hlt hi.2
    clear ih
    have hq' := hq _ (List.getElem_mem hlt)
    refine Run2.of I 1000 ?_
    simp -implicitDefEqProofs [hlt]
    refine ACalls.mono (by simpa using hq') ?_
    rintro v h' ⟨rfl, rfl⟩
    refine gK.go ?_
    simp -implicitDefEqProofs
    refine ⟨fun h => (hat h).symm, fun h => ⟨by omega, ?_⟩⟩
    simpa using go h
  · obtain rfl : i = l.length := by omega
    have := idxf_none (q := q) (l := l) fun j hj => hi.2 j hj hj
    refine Run2.of I 1000 ?_
    simp -implicitDefEqProofs
    exact this.symm
abbrev k122_o0 : List AJ := [.o ⟨(some 4), none, false, .mv (.c .nilsl), (some [0, 1])⟩]
abbrev k122_o1 : List AJ := [.o ⟨(some 8), none, false, .mv (.t 0), none⟩, .o ⟨(some 9), none, false, .mv (.t 1), none⟩, .o ⟨(some 10), none, false, .call 157 [(.t 8), (.t 9)], none⟩, .o ⟨(some 5), none, false, .mv (.t 10), (some [0, 1, 5])⟩]
abbrev k122_o2 : List AJ := [.o ⟨(some 11), none, false, .mv (.t 5), none⟩, .o ⟨(some 12), none, false, .bin .eql (.t 11) (.c (.int .i64 (-1))), (some [0, 1, 5, 12])⟩]
abbrev k122_o3 : List AJ := [.o ⟨(some 13), none, false, .mv (.t 0), none⟩, .o ⟨(some 4), none, false, .mv (.t 13), (some [4])⟩]
def k122_4 : ACode := .seq (.region k122_o3) .ret
def k122_5 : ACode := .cond (.t 12) k122_4 .skip
def k122_6 : ACode := .seq (.region k122_o2) k122_5
abbrev k122_o4 : List AJ := [.o ⟨(some 14), none, false, .mv (.t 5), none⟩, .o ⟨(some 15), none, true, .bin .add (.t 14) (.c (.int .i64 1)), none⟩, .o ⟨(some 6), none, false, .mv (.t 15), (some [0, 1, 5, 6])⟩]
abbrev k122_o5 : List AJ := [.o ⟨(some 16), none, false, .mv (.t 6), none⟩, .o ⟨(some 17), none, false, .mv (.t 0), none⟩, .o ⟨(some 18), none, false, .len (.t 17), none⟩, .o ⟨(some 19), none, false, .bin .lss (.t 16) (.t 18), (some [0, 1, 5, 6, 19])⟩]
def k122_9 : ACode := .cond (.t 19) .skip (.exit 0)
def k122_10 : ACode := .seq (.region k122_o5) k122_9
abbrev k122_o6 : List AJ := [.o ⟨(some 22), none, false, .mv (.t 0), none⟩, .o ⟨(some 23), none, false, .mv (.t 6), none⟩, .o ⟨(some 24), none, false, .idxA 3 (.t 22) (.t 23), none⟩, .o ⟨(some 25), none, false, .load 3 true (.t 24), none⟩, .v 7 3 (.agg [(.int .i64 0), (.int .i64 0), (.int .i64 0)]) [] (.t 25) (some [0, 1, 5, 6, 7])]
abbrev k122_o7 : List AJ := [.o ⟨(some 26), none, false, .mv (.t 1), none⟩, .o ⟨(some 27), none, false, .load 3 true (.t 7), none⟩, .o ⟨(some 28), none, false, .callv (.t 26) [(.t 27)], none⟩, .o ⟨(some 29), none, false, .un .not (.t 28), (some [0, 1, 5, 6, 7, 29])⟩]
abbrev k122_o8 : List AJ := [.o ⟨(some 30), none, false, .mv (.t 0), none⟩, .o ⟨(some 31), none, false, .mv (.t 5), none⟩, .o ⟨(some 32), none, false, .load 3 true (.t 7), none⟩, .o ⟨(some 33), none, false, .idxA 3 (.t 30) (.t 31), none⟩, .o ⟨none, none, false, .store 3 (.t 33) (.t 32), (some [0, 1, 5, 6])⟩]
abbrev k122_o9 : List AJ := [.o ⟨(some 34), none, false, .mv (.t 5), none⟩, .o ⟨(some 35), none, true, .bin .add (.t 34) (.c (.int .i64 1)), none⟩, .o ⟨(some 5), none, false, .mv (.t 35), (some [0, 1, 5, 6])⟩]
def k122_14 : ACode := .region k122_o9
def k122_15 : ACode := .seq (.region k122_o8) k122_14
def k122_16 : ACode := .cond (.t 29) k122_15 .skip
def k122_17 : ACode := .seq (.region k122_o7) k122_16
def k122_18 : ACode := .seq (.region k122_o6) k122_17
abbrev k122_o10 : List AJ := [.o ⟨(some 20), none, false, .mv (.t 6), none⟩, .o ⟨(some 21), none, true, .bin .add (.t 20) (.c (.int .i64 1)), none⟩, .o ⟨(some 6), none, false, .mv (.t 21), (some [0, 1, 5, 6])⟩]
def k122_20 : ACode := .region k122_o10
def k122_21 : ACode := .seq (.block 1 k122_18) k122_20
def k122_22 : ACode := .seq k122_10 k122_21
def k122_23 : ACode := .loop k122_22
def k122_24 : ACode := .block 0 k122_23
def k122_25 : ACode := .seq (.region k122_o4) k122_24
abbrev k122_o11 : List AJ := [.o ⟨(some 36), none, false, .mv (.t 0), none⟩, .o ⟨(some 37), none, false, .mv (.t 5), none⟩, .o ⟨(some 38), none, false, .slice 3 (.t 36) (some (.t 37)) none none, none⟩, .o ⟨none, none, false, .clear 3 (.agg [(.int .i64 0), (.int .i64 0), (.int .i64 0)]) (.t 38), (some [0, 5])⟩]
abbrev k122_o12 : List AJ := [.o ⟨(some 39), none, false, .mv (.t 0), none⟩, .o ⟨(some 40), none, false, .mv (.t 5), none⟩, .o ⟨(some 41), none, false, .slice 3 (.t 39) none (some (.t 40)) none, none⟩, .o ⟨(some 4), none, false, .mv (.t 41), (some [4])⟩]
def k122_28 : ACode := .seq (.region k122_o12) .ret
def k122_29 : ACode := .seq (.region k122_o11) k122_28
def k122_30 : ACode := .seq k122_25 k122_29
def k122_31 : ACode := .seq k122_6 k122_30
def k122_32 : ACode := .seq (.region k122_o1) k122_31
def k122_33 : ACode := .seq (.region k122_o0) k122_32
@[simp, simp ↓] theorem k122_4r : sR k122_4 k122_o3 .ret := yR rfl
@[simp, simp ↓] theorem k122_5r : rC k122_5 (.t 12) k122_4 .skip := zC rfl
@[simp, simp ↓] theorem k122_6r : sR k122_6 k122_o2 k122_5 := yR rfl
@[simp, simp ↓] theorem k122_9r : rC k122_9 (.t 19) .skip (.exit 0) := zC rfl
@[simp, simp ↓] theorem k122_10r : sR k122_10 k122_o5 k122_9 := yR rfl
@[simp, simp ↓] theorem k122_14r : rR k122_14 k122_o9 := zR rfl
@[simp, simp ↓] theorem k122_15r : sR k122_15 k122_o8 k122_14 := yR rfl
@[simp, simp ↓] theorem k122_16r : rC k122_16 (.t 29) k122_15 .skip := zC rfl
@[simp, simp ↓] theorem k122_17r : sR k122_17 k122_o7 k122_16 := yR rfl
@[simp, simp ↓] theorem k122_18r : sR k122_18 k122_o6 k122_17 := yR rfl
@[simp, simp ↓] theorem k122_20r : rR k122_20 k122_o10 := zR rfl
@[simp, simp ↓] theorem k122_21r : sB k122_21 1 k122_18 k122_20 := yB rfl
@[simp, simp ↓] theorem k122_22r : rS k122_22 k122_10 k122_21 := zS rfl
@[simp, simp ↓] theorem k122_23r : rL k122_23 k122_22 := zL rfl
@[simp, simp ↓] theorem k122_24r : rB k122_24 0 k122_23 := zB rfl
@[simp, simp ↓] theorem k122_25r : sR k122_25 k122_o4 k122_24 := yR rfl
@[simp, simp ↓] theorem k122_28r : sR k122_28 k122_o12 .ret := yR rfl
@[simp, simp ↓] theorem k122_29r : sR k122_29 k122_o11 k122_28 := yR rfl
@[simp, simp ↓] theorem k122_30r : rS k122_30 k122_25 k122_29 := zS rfl
@[simp, simp ↓] theorem k122_31r : rS k122_31 k122_6 k122_30 := zS rfl
@[simp, simp ↓] theorem k122_32r : sR k122_32 k122_o1 k122_31 := yR rfl
@[simp, simp ↓] theorem k122_33r : sR k122_33 k122_o0 k122_32 := yR rfl
noncomputable abbrev k122_C : Orc → Cx := mkC Try.prog [7] 122 42 [.tmp 4]
theorem k122_of0 : OfP0 Try.prog Try.f122 122 42 k122_C k122_33 := @ofP0 _ _ _ _ _ _ _ _ Try.func122 (by decide +kernel) rfl (by kernel_rfl) rfl (by kernel_rfl)
/-- What is left of the first j when those are taken out. -/
theorem filt_succ (q : T → Bool) (l : List T) {j : Nat} (hj : j < l.length) : (l.take (j + 1)).filter (fun x => !q x) = (l.take j).filter (fun x => !q x) ++ if q l[j] then [] else [l[j]] := by
  rw [List.take_succ_eq_append_getElem hj, List.filter_append]
  congr 1
  by_cases h : q l[j] = true <;> simp [h]
/-- What stands in the block while those are taken out: i of the first j are left. -/
structure DInv (q : T → Bool) (l A : List T) (i j : Nat) : Prop where
  lt : i < j
  le : j ≤ l.length
  len : A.length = l.length
  left : A.take i = (l.take j).filter (fun x => !q x)
  rest : ∀ k, j ≤ k → A[k]? = l[k]?
theorem DInv.skip {q : T → Bool} {l A : List T} {i j : Nat} (D : DInv q l A i j) (hj : j < l.length) (h : q l[j] = true) : DInv q l A i (j + 1) :=
  ⟨by have := D.lt; omega, hj, D.len, by rw [D.left, filt_succ q l hj, h]; simp, fun k hk => D.rest k (by omega)⟩
theorem DInv.put {q : T → Bool} {l A : List T} {i j : Nat} (D : DInv q l A i j) (hj : j < l.length) (h : q l[j] = false) : DInv q l (A.set i l[j]) (i + 1) (j + 1) := by
  have h1 := D.lt
  have h2 := D.len
  refine ⟨by omega, hj, by simp [D.len], ?_, fun k hk => ?_⟩
  · rw [filt_succ q l hj, h, ← D.left]
    have hi : i < (A.set i l[j]).length := by simp; omega
    rw [List.take_succ_eq_append_getElem hi, List.take_set_of_le (Nat.le_refl _)]
    simp
  · rw [List.getElem?_set_ne (by omega)]
    exact D.rest k (by omega)
theorem DeleteFuncB_o {w : AV} {l : List T} {hp : Heap} (G : Grow 3 w (l.map T.av) hp) (g : FuncId) (caps : List AV) (q : T → Bool) (hl : l.length ≤ 1048576) (hc : colds caps = true) (hq : ∀ a ∈ l, ∀ h, ACalls Try.prog g (a.av :: caps) h (fun v h' => v = .bool (q a) ∧ h' = h)) :
    ACalls Try.prog 122 [w, .fn g caps] hp (fun v h' => OwnL T.av 3 v (l.filter fun x => !q x) h') := by
  have hO := G.own
  have hfn : cold (.fn g caps) = true := by simpa [cold] using hc
  refine k122_of0 rfl noPure fun I => ?_
  refine Run2.of I 1000 ?_
  simp -implicitDefEqProofs
  refine (ACalls.reads hp (fun p hp => hp) (v0 := .int .i64 (idxf q l)) ?_ rfl).mono ?_
  · rw [lend_cons, lend_cons, lend_nil', lend1_cold hp hfn]
    exact ACalls.wk (.cons hO.lent.wk (.refl _)) (IndexFuncB_s l g caps q [] hl fun a ha => hq a ha [])
  rintro v h' ⟨rfl, rfl⟩
  refine gK.go ?_
  rcases idxf_cases q l with ⟨e1, e2⟩ | ⟨i0, hi0, e1, e2, e3⟩
  · simp -implicitDefEqProofs [e1]
    rw [e2]; exact hO
  · rw [e1]
    generalize hm : l.map T.av = m at G
    cases G with
    | nil => simp at hm; subst hm; simp at hi0
    | emp => simp at hm; subst hm; simp at hi0
    | sl id m n hn =>
      subst hm
      simp only [List.length_map] at hn
      subst hn
      simp -implicitDefEqProofs
      refine ⟨by omega, ?_⟩
      refine Run2.loopE (α := Nat × Nat × List T) (fun s => [(0, .sl id 3 0 l.length none), (1, .fn g caps), (5, .int .i64 (s.1 : Nat)), (6, .int .i64 (s.2.1 : Nat))]) (fun s => [(id, ⟨3, s.2.2.map T.av⟩)]) (fun s => l.length - s.2.1) (fun s => DInv q l s.2.2 s.1 s.2.1) (i0, i0 + 1, l) (by simp) rfl ⟨by simp, by simp; omega, rfl, e3.symm, fun _ _ => rfl⟩ ?_
      rintro ⟨i, j, A⟩ D ih
      have d1 := D.lt
      have d2 := D.len
      have d3 := D.le
      simp only at d1 d2 d3
      by_cases hlt : j < l.length
      · have go1 := fun h => ih (i, j + 1, A) (D.skip hlt h) (by simp; omega)
        have go2 := fun h => ih (i + 1, j + 1, A.set i l[j]) (D.put hlt h) (by simp; omega)
        clear ih
        have hAj : j < A.length := by omega
        have hA : A[j] = l[j] := by
          have := D.rest j (Nat.le_refl _)
          simp only at this
          rwa [List.getElem?_eq_getElem hAj, List.getElem?_eq_getElem hlt, Option.some_inj] at this
        have hq' := hq _ (List.getElem_mem hlt) [(id, ⟨3, A.map T.av⟩)]
        have hAi : i < A.length := by omega
        have hil : i < l.length := by omega
        refine Run2.of I 1000 ?_
        simp -implicitDefEqProofs [hlt, hAj, hA, hAi, hil]
        refine ACalls.mono (by simpa using hq') ?_
        rintro v h' ⟨rfl, rfl⟩
        refine gK.go ?_
        simp -implicitDefEqProofs [hlt, hAj, hA, hAi, hil]
        refine ⟨fun h => ⟨by omega, by omega, ?_⟩, fun h => ⟨by omega, ?_⟩⟩
        · simpa [List.map_set] using go2 h
        · simpa using go1 h
      · have hj : j = l.length := by omega
        subst hj
        have hleft := D.left
        simp only [List.take_length] at hleft
        have hlen : (l.filter fun x => !q x).length = i := by rw [← hleft]; simp; omega
        refine Run2.of I 1000 ?_
        simp -implicitDefEqProofs [d2]
        refine ⟨by omega, by omega, by omega, ?_⟩
        have := OwnL.sl (enc := T.av) (sz := 3) (l := l.filter fun x => !q x) id none (List.replicate (l.length - i) tz) (by simp; exact .inr rfl)
        rw [hlen] at this
        rw [← List.map_take, hleft, List.drop_of_length_le (by simp; omega), List.append_nil]
        exact this
/-- A function on bars that only reads. -/
def Tells (P : Program) (f : AV) (k : T → Bool) : Prop := ∃ g caps, f = .fn g caps ∧ colds caps = true ∧ ∀ a h, ACalls P g (a.av :: caps) h (fun v h' => v = .bool (k a) ∧ h' = h)
abbrev k76_o0 : List AJ := [.o ⟨(some 1), none, false, .box false 3 (.t 0), none⟩, .o ⟨(some 2), none, false, .mv (.c (.bool false)), (some [1])⟩]
abbrev k76_o1 : List AJ := [.o ⟨(some 3), none, false, .fieldA 2 (.t 1), none⟩, .o ⟨(some 4), none, false, .load 1 false (.t 3), none⟩, .o ⟨(some 5), none, false, .bin .neq (.t 4) (.c (.int .i64 (-1))), none⟩, .o ⟨(some 2), none, false, .mv (.t 5), (some [2])⟩]
def k76_2 : ACode := .seq (.region k76_o1) .ret
def k76_3 : ACode := .seq (.region k76_o0) k76_2
@[simp, simp ↓] theorem k76_2r : sR k76_2 k76_o1 .ret := yR rfl
@[simp, simp ↓] theorem k76_3r : sR k76_3 k76_o0 k76_2 := yR rfl
noncomputable abbrev k76_C : Orc → Cx := mkC Try.prog [] 76 6 [.tmp 2]
theorem k76_of0 : OfP0 Try.prog Try.f76 76 6 k76_C k76_3 := @ofP0 _ _ _ _ _ _ _ _ Try.func76 (by decide +kernel) rfl (by kernel_rfl) rfl (by kernel_rfl)
theorem isFinite_c (x : T) (h : Heap) : ACalls Try.prog 76 [x.av] h (fun v h' => v = .bool (!decide (x.s = -1)) ∧ h' = h) := by
  refine k76_of0 rfl noPure fun I => ?_
  refine Run2.of I 1000 ?_
  simp -implicitDefEqProofs
theorem isFinite_t : Tells Try.prog (.fn 76 []) (fun x => !decide (x.s = -1)) := ⟨_, _, rfl, rfl, isFinite_c⟩
noncomputable def o_isFinite : List AV → Option (Prop × AV) := tab (fun (x : Int × Int × Int) => match x with | (f, t, s) => [.agg [.int .i64 f, .int .i64 t, .int .i64 s]]) (fun x => match x with | (f, t, s) => True) (fun x => match x with | (f, t, s) => .bool (!decide (s = -1)))
@[simp] theorem o_isFinite_e (f : Int) (t : Int) (s : Int) : o_isFinite [.agg [.int .i64 f, .int .i64 t, .int .i64 s]] = some (True, .bool (!decide (s = -1))) := tab_at (enc := fun (x : Int × Int × Int) => match x with | (f, t, s) => [.agg [.int .i64 f, .int .i64 t, .int .i64 s]]) (fun x y h => by
  obtain ⟨f1, t1, s1⟩ := x; obtain ⟨f2, t2, s2⟩ := y; simp at h; simp [h] <;> omega) _ _ (f, t, s)
theorem o_isFinite_k : Knows Try.prog 76 o_isFinite := tab_knows fun x hx h => by
  obtain ⟨f, t, s⟩ := x; exact isFinite_c ⟨f, t, s⟩ h
abbrev k74_o0 : List AJ := [.o ⟨(some 1), none, false, .box false 3 (.t 0), none⟩, .o ⟨(some 2), none, false, .mv (.c (.bool false)), (some [1])⟩]
abbrev k74_o1 : List AJ := [.o ⟨(some 3), none, false, .fieldA 2 (.t 1), none⟩, .o ⟨(some 4), none, false, .load 1 false (.t 3), none⟩, .o ⟨(some 5), none, false, .bin .eql (.t 4) (.c (.int .i64 (-1))), none⟩, .o ⟨(some 2), none, false, .mv (.t 5), (some [2])⟩]
def k74_2 : ACode := .seq (.region k74_o1) .ret
def k74_3 : ACode := .seq (.region k74_o0) k74_2
@[simp, simp ↓] theorem k74_2r : sR k74_2 k74_o1 .ret := yR rfl
@[simp, simp ↓] theorem k74_3r : sR k74_3 k74_o0 k74_2 := yR rfl
noncomputable abbrev k74_C : Orc → Cx := mkC Try.prog [] 74 6 [.tmp 2]
theorem k74_of0 : OfP0 Try.prog Try.f74 74 6 k74_C k74_3 := @ofP0 _ _ _ _ _ _ _ _ Try.func74 (by decide +kernel) rfl (by kernel_rfl) rfl (by kernel_rfl)
theorem isForever_c (x : T) (h : Heap) : ACalls Try.prog 74 [x.av] h (fun v h' => v = .bool (decide (x.s = -1)) ∧ h' = h) := by
  refine k74_of0 rfl noPure fun I => ?_
  refine Run2.of I 1000 ?_
  simp -implicitDefEqProofs
theorem isForever_t : Tells Try.prog (.fn 74 []) (fun x => decide (x.s = -1)) := ⟨_, _, rfl, rfl, isForever_c⟩
abbrev k124_o0 : List AJ := [.o ⟨(some 3), none, false, .box false 3 (.t 0), none⟩, .o ⟨(some 4), none, false, .mv (.c (.bool false)), (some [1, 2, 3])⟩]
abbrev k124_o1 : List AJ := [.o ⟨(some 5), none, false, .fieldA 0 (.t 3), none⟩, .o ⟨(some 6), none, false, .load 1 false (.t 5), none⟩, .o ⟨(some 7), none, false, .load 1 false (.t 1), none⟩, .o ⟨(some 8), none, false, .bin .neq (.t 6) (.t 7), none⟩, .o ⟨(some 9), none, false, .mv (.t 8), none⟩, .o ⟨(some 10), (some (9, false)), false, .load 1 false (.t 2), none⟩, .o ⟨(some 11), (some (9, false)), false, .load 3 true (.t 3), none⟩, .o ⟨(some 12), (some (9, false)), false, .callv (.t 10) [(.t 11)], none⟩, .o ⟨(some 13), (some (9, false)), false, .un .not (.t 12), none⟩, .o ⟨(some 14), none, false, .pick (.t 9) (.c (.bool true)) (.t 13), (some [14])⟩, .o ⟨(some 4), none, false, .mv (.t 14), (some [4])⟩]
def k124_2 : ACode := .seq (.region k124_o1) .ret
def k124_3 : ACode := .seq (.region k124_o0) k124_2
@[simp, simp ↓] theorem k124_2r : sR k124_2 k124_o1 .ret := yR rfl
@[simp, simp ↓] theorem k124_3r : sR k124_3 k124_o0 k124_2 := yR rfl
noncomputable abbrev k124_C : Orc → Cx := mkC Try.prog [] 124 15 [.tmp 4]
theorem k124_of0 : OfP0 Try.prog Try.f124 124 15 k124_C k124_3 := @ofP0 _ _ _ _ _ _ _ _ Try.func124 (by decide +kernel) rfl (by kernel_rfl) rfl (by kernel_rfl)
theorem ofDegree1_t (d : Int) {f : AV} {k : T → Bool} (hf : Tells Try.prog f k) : Tells Try.prog (.fn 124 [.ip [.int .i64 d], .ip [f]]) (fun x => !decide (x.f = d) || !k x) := by
  obtain ⟨g, caps, rfl, hc, hk⟩ := hf
  refine ⟨_, _, rfl, by simp [colds, cold, hc], fun a h => ?_⟩
  refine k124_of0 rfl noPure fun I => ?_
  have hk' := hk a h
  obtain ⟨f0, t0, s0⟩ := a
  by_cases h1 : f0 = d
  · subst h1
    refine Run2.of I 1000 ?_
    simp -implicitDefEqProofs
    refine ACalls.mono (by simpa using hk') ?_
    rintro v h' ⟨rfl, rfl⟩
    refine gK.go ?_
    simp -implicitDefEqProofs
  · refine Run2.of I 1000 ?_
    simp -implicitDefEqProofs [h1]
abbrev k73_o0 : List AJ := [.o ⟨(some 4), none, false, .box false 1 (.t 1), none⟩, .o ⟨(some 5), none, false, .box false 1 (.t 2), none⟩, .o ⟨(some 6), none, false, .mv (.c .nilsl), (some [0, 4, 5])⟩]
abbrev k73_o1 : List AJ := [.o ⟨(some 7), none, false, .mv (.t 0), none⟩, .o ⟨(some 8), none, false, .call 123 [(.t 7)], none⟩, .o ⟨(some 9), none, false, .mkfn 124 [(.t 4), (.t 5)], none⟩, .o ⟨(some 10), none, false, .call 122 [(.t 8), (.t 9)], none⟩, .o ⟨(some 6), none, false, .mv (.t 10), (some [6])⟩]
def k73_2 : ACode := .seq (.region k73_o1) .ret
def k73_3 : ACode := .seq (.region k73_o0) k73_2
@[simp, simp ↓] theorem k73_2r : sR k73_2 k73_o1 .ret := yR rfl
@[simp, simp ↓] theorem k73_3r : sR k73_3 k73_o0 k73_2 := yR rfl
noncomputable abbrev k73_C : Orc → Cx := mkC Try.prog [] 73 11 [.tmp 6]
theorem k73_of0 : OfP0 Try.prog Try.f73 73 11 k73_C k73_3 := @ofP0 _ _ _ _ _ _ _ _ Try.func73 (by decide +kernel) rfl (by kernel_rfl) rfl (by kernel_rfl)
theorem ofDegree_o (l : List T) (d : Int) {f : AV} {k : T → Bool} (hl : l.length ≤ 1048576) (hf : Tells Try.prog f k) : ACalls Try.prog 73 [.snap 3 (l.map T.av), .int .i64 d, f] [] (fun v h' => OwnL T.av 3 v (l.filter fun x => decide (x.f = d) && k x) h') := by
  obtain ⟨g, caps, hfe, hc, hk⟩ := ofDegree1_t d hf
  obtain ⟨g', caps', rfl, hc', hk'⟩ := hf
  refine k73_of0 rfl noPure fun I => ?_
  refine Run2.of I 1000 ?_
  simp -implicitDefEqProofs
  refine (CloneB_w l [] hl).mono ?_
  rintro v h' ⟨hp, G, rfl⟩
  refine gK.go ?_
  have hG := G.cell
  simp -implicitDefEqProofs [hG]
  have := DeleteFuncB_o G g caps _ hl hc fun a _ h => hk a h
  try simp only [List.append_nil]
  rw [← hfe] at this
  refine this.mono ?_
  intro v h' ho
  refine gK.go ?_
  simp -implicitDefEqProofs
  have e : (fun x : T => !(!decide (x.f = d) || !k x)) = fun x => decide (x.f = d) && k x := by funext x; simp
  rw [e] at ho
  exact ho
theorem ofDegree_w (l : List T) (d : Int) {f : AV} {k : T → Bool} (h : Heap) (hl : l.length ≤ 1048576) (hf : Tells Try.prog f k) : ACalls Try.prog 73 [.snap 3 (l.map T.av), .int .i64 d, f] h (fun v h'' => ∃ h', OwnL T.av 3 v (l.filter fun x => decide (x.f = d) && k x) h' ∧ (∀ i ∈ dom h', i ∉ dom h) ∧ h'' = h' ++ h) :=
  ACalls.gives [] (by simp) (by simpa [lend] using ofDegree_o l d hl hf) fun v h' o => o.own T.own
end Go.AG
