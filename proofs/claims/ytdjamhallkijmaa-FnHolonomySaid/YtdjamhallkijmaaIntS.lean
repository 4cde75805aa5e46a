/- What the set's own helpers of slices of whole numbers do: they copy, compare, mark. No statement is made here. -/
import Derived.Test.YtdjamhallkijmaaRows
import Derived.Test.YtdjamhallkijmaaAGInts
namespace Go.AG
open Go.Proofs Go.Proofs.Ytdjamhallkijmaa
set_option linter.unusedSimpArgs false
set_option linter.unusedVariables false
set_option maxRecDepth 4000
theorem Int_of_shape {x : AV} (h : shV (.int .i64) x) : ∃ n : Int, x = .int .i64 n ∧ in64 n := by
  obtain ⟨h1, n, e, r⟩ := h
  cases x <;> simp [isAgg, Ty.isS, cellsOf] at h1 e
  exact ⟨n, by rw [e.1, e.2], r⟩
theorem Ints_list : ∀ {xs : List AV}, (∀ x ∈ xs, isAgg x = (Ty.int .i64).isS ∧ shC (.int .i64) (cellsOf x)) → ∃ l : List Int, xs = l.map iv ∧ ∀ n ∈ l, in64 n
  | [], _ => ⟨[], rfl, by simp⟩
  | x :: xs, h => by
    obtain ⟨n, rfl, hn⟩ := Int_of_shape (h x (List.mem_cons_self ..))
    obtain ⟨l, rfl, hl⟩ := Ints_list (xs := xs) fun y hy => h y (List.mem_cons_of_mem _ hy)
    exact ⟨n :: l, rfl, by simpa using ⟨hn, hl⟩⟩
def wfI (l : List Int) : Prop := (∀ n ∈ l, in64 n) ∧ l.length ≤ 9223372036854775807
theorem Ints_of_shape {x : AV} (h : shV (.slice (.int .i64)) x) : ∃ l : List Int, x = .snap 1 (l.map iv) ∧ wfI l := by
  obtain ⟨h1, xs, e1, hlen, r3⟩ := h
  have hm : maxLen ≤ 9223372036854775807 := by decide
  obtain ⟨l, rfl, hl⟩ := Ints_list r3
  cases x <;> simp [isAgg, Ty.isS, cellsOf] at h1 e1
  rw [e1.1, e1.2]
  exact ⟨l, rfl, hl, by simp only [List.length_map] at hlen; exact Nat.le_trans hlen hm⟩
abbrev k16_o0 : List AJ := [.o ⟨(some 4), none, false, .mv (.c (.bool false)), (some [0, 1])⟩]
abbrev k16_o1 : List AJ := [.o ⟨(some 6), none, false, .mv (.t 0), none⟩, .o ⟨(some 7), none, false, .len (.t 6), none⟩, .o ⟨(some 8), none, false, .mv (.t 1), none⟩, .o ⟨(some 9), none, false, .len (.t 8), none⟩, .o ⟨(some 10), none, false, .bin .neq (.t 7) (.t 9), (some [0, 1, 10])⟩]
abbrev k16_o2 : List AJ := [.o ⟨(some 4), none, false, .mv (.c (.bool false)), (some [4])⟩]
def k16_3 : ACode := .seq (.region k16_o2) .ret
def k16_4 : ACode := .cond (.t 10) k16_3 .skip
def k16_5 : ACode := .seq (.region k16_o1) k16_4
abbrev k16_o3 : List AJ := [.o ⟨(some 5), none, false, .mv (.c (.int .i64 0)), (some [0, 1, 5])⟩]
abbrev k16_o4 : List AJ := [.o ⟨(some 11), none, false, .mv (.t 5), none⟩, .o ⟨(some 12), none, false, .mv (.t 0), none⟩, .o ⟨(some 13), none, false, .len (.t 12), none⟩, .o ⟨(some 14), none, false, .bin .lss (.t 11) (.t 13), (some [0, 1, 5, 14])⟩]
def k16_8 : ACode := .cond (.t 14) .skip (.exit 0)
def k16_9 : ACode := .seq (.region k16_o4) k16_8
abbrev k16_o5 : List AI := [⟨(some 17), none, false, .mv (.t 0), none⟩, ⟨(some 18), none, false, .mv (.t 5), none⟩, ⟨(some 19), none, false, .idxA 1 (.t 17) (.t 18), none⟩, ⟨(some 20), none, false, .load 1 false (.t 19), none⟩, ⟨(some 21), none, false, .mv (.t 1), none⟩, ⟨(some 22), none, false, .mv (.t 5), none⟩, ⟨(some 23), none, false, .idxA 1 (.t 21) (.t 22), none⟩, ⟨(some 24), none, false, .load 1 false (.t 23), none⟩, ⟨(some 25), none, false, .bin .neq (.t 20) (.t 24), (some [0, 1, 5, 25])⟩]
abbrev k16_o6 : List AJ := [.o ⟨(some 4), none, false, .mv (.c (.bool false)), (some [4])⟩]
def k16_12 : ACode := .seq (.region k16_o6) .ret
def k16_13 : ACode := .cond (.t 25) k16_12 .skip
def k16_14 : ACode := .seq (.draw k16_o5 [] rfl) k16_13
abbrev k16_o7 : List AJ := [.o ⟨(some 15), none, false, .mv (.t 5), none⟩, .o ⟨(some 16), none, true, .bin .add (.t 15) (.c (.int .i64 1)), none⟩, .o ⟨(some 5), none, false, .mv (.t 16), (some [0, 1, 5])⟩]
def k16_16 : ACode := .region k16_o7
def k16_17 : ACode := .seq (.block 1 k16_14) k16_16
def k16_18 : ACode := .seq k16_9 k16_17
def k16_19 : ACode := .loop k16_18
def k16_20 : ACode := .block 0 k16_19
def k16_21 : ACode := .seq (.region k16_o3) k16_20
abbrev k16_o8 : List AJ := [.o ⟨(some 4), none, false, .mv (.c (.bool true)), (some [4])⟩]
def k16_23 : ACode := .seq (.region k16_o8) .ret
def k16_24 : ACode := .seq k16_21 k16_23
def k16_25 : ACode := .seq k16_5 k16_24
def k16_26 : ACode := .seq (.region k16_o0) k16_25
@[simp, simp ↓] theorem k16_3r : sR k16_3 k16_o2 .ret := yR rfl
@[simp, simp ↓] theorem k16_4r : rC k16_4 (.t 10) k16_3 .skip := zC rfl
@[simp, simp ↓] theorem k16_5r : sR k16_5 k16_o1 k16_4 := yR rfl
@[simp, simp ↓] theorem k16_8r : rC k16_8 (.t 14) .skip (.exit 0) := zC rfl
@[simp, simp ↓] theorem k16_9r : sR k16_9 k16_o4 k16_8 := yR rfl
@[simp, simp ↓] theorem k16_12r : sR k16_12 k16_o6 .ret := yR rfl
@[simp, simp ↓] theorem k16_13r : rC k16_13 (.t 25) k16_12 .skip := zC rfl
@[simp, simp ↓] theorem k16_14r : sD k16_14 k16_o5 [] k16_13 := yD rfl
@[simp, simp ↓] theorem k16_16r : rR k16_16 k16_o7 := zR rfl
@[simp, simp ↓] theorem k16_17r : sB k16_17 1 k16_14 k16_16 := yB rfl
@[simp, simp ↓] theorem k16_18r : rS k16_18 k16_9 k16_17 := zS rfl
@[simp, simp ↓] theorem k16_19r : rL k16_19 k16_18 := zL rfl
@[simp, simp ↓] theorem k16_20r : rB k16_20 0 k16_19 := zB rfl
@[simp, simp ↓] theorem k16_21r : sR k16_21 k16_o3 k16_20 := yR rfl
@[simp, simp ↓] theorem k16_23r : sR k16_23 k16_o8 .ret := yR rfl
@[simp, simp ↓] theorem k16_24r : rS k16_24 k16_21 k16_23 := zS rfl
@[simp, simp ↓] theorem k16_25r : rS k16_25 k16_5 k16_24 := zS rfl
@[simp, simp ↓] theorem k16_26r : sR k16_26 k16_o0 k16_25 := yR rfl
noncomputable abbrev k16_C : Orc → Cx := mkC Try.prog [] 16 26 [.tmp 4]
theorem k16_of0 : OfP0 Try.prog Try.f16 16 26 k16_C k16_26 := @ofP0 _ _ _ _ _ _ _ _ Try.func16 (by decide +kernel) rfl (by kernel_rfl) rfl (by kernel_rfl)
theorem eqInt64S_s (l m : List Int) (h : Heap) (hl : l.length ≤ 1048576) : ACalls Try.prog 16 [.snap 1 (l.map iv), .snap 1 (m.map iv)] h (fun v h' => v = .bool (decide (l = m)) ∧ h' = h) := by
  refine k16_of0 rfl noPure fun I => ?_
  refine Run2.of I 1000 ?_
  simp -implicitDefEqProofs
  refine ⟨by rintro hne rfl; exact hne rfl, fun hlen => ?_⟩
  refine Run2.loop (fun i => [(0, .snap 1 (l.map iv)), (1, .snap 1 (m.map iv)), (5, .int .i64 (i : Nat))]) (fun i => h) (fun i => l.length - i) (fun i => i ≤ l.length ∧ l.take i = m.take i) 0 (by simp) fun i hi ih => ?_
  by_cases hlt : i < l.length
  · have hlt' : i < m.length := by omega
    refine Run2.of I 1000 ?_
    simp -implicitDefEqProofs [hlt, hlt']
    constructor
    · rintro hne rfl
      exact hne rfl
    · intro he
      refine ⟨by omega, ?_⟩
      have := ih (i + 1) ⟨by omega, by rw [List.take_succ_eq_append_getElem hlt, List.take_succ_eq_append_getElem hlt', hi.2, he]⟩ (by omega)
      simpa using this
  · refine Run2.of I 1000 ?_
    simp -implicitDefEqProofs [hlt]
    have : i = l.length := by omega
    have h2 := hi.2
    rw [List.take_of_length_le (by omega), List.take_of_length_le (by omega)] at h2
    exact h2
theorem eqInt64S_c (u v : AV) (h : Heap) (hu : isInts u) (hv : isInts v) (hl : (intsOf u).length ≤ 1048576) : ACalls Try.prog 16 [u, v] h (fun r h' => r = .bool (decide (intsOf u = intsOf v)) ∧ h' = h) :=
  (eqInt64S_s _ _ h hl).wk (.cons (.ints hu) (.cons (.ints hv) .nil))
noncomputable def o_eqInt64S : List AV → Option (Prop × AV) := tab (fun (x : AV × AV) => match x with | (u, v) => [u, v]) (fun x => match x with | (u, v) => ((isInts u ∧ isInts v) ∧ (intsOf u).length ≤ 1048576)) (fun x => match x with | (u, v) => .bool (decide (intsOf u = intsOf v)))
@[simp] theorem o_eqInt64S_e (u : AV) (v : AV) : o_eqInt64S [u, v] = some (((isInts u ∧ isInts v) ∧ (intsOf u).length ≤ 1048576), .bool (decide (intsOf u = intsOf v))) := tab_at (enc := fun (x : AV × AV) => match x with | (u, v) => [u, v]) (fun x y h => by
  obtain ⟨u1, v1⟩ := x; obtain ⟨u2, v2⟩ := y; simp at h; simp [h] <;> omega) _ _ (u, v)
theorem o_eqInt64S_k : Knows Try.prog 16 o_eqInt64S := tab_knows fun x hx h => by
  obtain ⟨u, v⟩ := x; exact eqInt64S_c u v h hx.1.1 hx.1.2 hx.2
/-- The marks that follow on k. -/
def marks (k : Int) (n : Nat) : List Int := (List.range n).map fun i => k + (i : Nat)
@[simp] theorem marks_length (k : Int) (n : Nat) : (marks k n).length = n := by simp [marks]
theorem marks_succ (k : Int) (n : Nat) : marks k (n + 1) = marks k n ++ [k + n] := by simp [marks, List.range_succ]
theorem marks_get (k : Int) (n i : Nat) (h : i < (marks k n).length) : (marks k n)[i] = k + i := by simp [marks]
theorem mark_step (l : List Int) (ex : List AV) (k : Int) (i : Nat) (hi : i < l.length) : ((marks k i).map iv ++ (l.drop i).map iv ++ ex).set i (.int .i64 (k + i)) = (marks k (i + 1)).map iv ++ (l.drop (i + 1)).map iv ++ ex := by
  rw [List.drop_eq_getElem_cons hi, marks_succ]
  simp only [List.map_cons, List.map_append, List.map_nil, List.append_assoc, List.cons_append, List.nil_append]
  rw [List.set_append_right _ _ (by simp)]
  simp
abbrev k19_o0 : List AJ := [.o ⟨(some 4), none, false, .mv (.c (.int .i64 0)), (some [0, 1])⟩]
abbrev k19_o1 : List AJ := [.o ⟨(some 5), none, false, .mv (.c (.int .i64 0)), (some [0, 1, 5])⟩]
abbrev k19_o2 : List AJ := [.o ⟨(some 6), none, false, .mv (.t 5), none⟩, .o ⟨(some 7), none, false, .mv (.t 0), none⟩, .o ⟨(some 8), none, false, .len (.t 7), none⟩, .o ⟨(some 9), none, false, .bin .lss (.t 6) (.t 8), (some [0, 1, 5, 9])⟩]
def k19_3 : ACode := .cond (.t 9) .skip (.exit 0)
def k19_4 : ACode := .seq (.region k19_o2) k19_3
abbrev k19_o3 : List AJ := [.o ⟨(some 12), none, false, .mv (.t 0), none⟩, .o ⟨(some 13), none, false, .mv (.t 5), none⟩, .o ⟨(some 14), none, false, .mv (.t 1), none⟩, .o ⟨(some 15), none, false, .idxA 1 (.t 12) (.t 13), none⟩, .o ⟨none, none, false, .store 1 (.t 15) (.t 14), (some [0, 1, 5])⟩]
abbrev k19_o4 : List AJ := [.o ⟨(some 16), none, false, .mv (.t 1), none⟩, .o ⟨(some 17), none, true, .bin .add (.t 16) (.c (.int .i64 1)), none⟩, .o ⟨(some 1), none, false, .mv (.t 17), (some [0, 1, 5])⟩]
def k19_6 : ACode := .region k19_o4
def k19_7 : ACode := .seq (.region k19_o3) k19_6
abbrev k19_o5 : List AJ := [.o ⟨(some 10), none, false, .mv (.t 5), none⟩, .o ⟨(some 11), none, true, .bin .add (.t 10) (.c (.int .i64 1)), none⟩, .o ⟨(some 5), none, false, .mv (.t 11), (some [0, 1, 5])⟩]
def k19_9 : ACode := .region k19_o5
def k19_10 : ACode := .seq (.block 1 k19_7) k19_9
def k19_11 : ACode := .seq k19_4 k19_10
def k19_12 : ACode := .loop k19_11
def k19_13 : ACode := .block 0 k19_12
def k19_14 : ACode := .seq (.region k19_o1) k19_13
abbrev k19_o6 : List AJ := [.o ⟨(some 18), none, false, .mv (.t 1), none⟩, .o ⟨(some 4), none, false, .mv (.t 18), (some [4])⟩]
def k19_16 : ACode := .seq (.region k19_o6) .ret
def k19_17 : ACode := .seq k19_14 k19_16
def k19_18 : ACode := .seq (.region k19_o0) k19_17
@[simp, simp ↓] theorem k19_3r : rC k19_3 (.t 9) .skip (.exit 0) := zC rfl
@[simp, simp ↓] theorem k19_4r : sR k19_4 k19_o2 k19_3 := yR rfl
@[simp, simp ↓] theorem k19_6r : rR k19_6 k19_o4 := zR rfl
@[simp, simp ↓] theorem k19_7r : sR k19_7 k19_o3 k19_6 := yR rfl
@[simp, simp ↓] theorem k19_9r : rR k19_9 k19_o5 := zR rfl
@[simp, simp ↓] theorem k19_10r : sB k19_10 1 k19_7 k19_9 := yB rfl
@[simp, simp ↓] theorem k19_11r : rS k19_11 k19_4 k19_10 := zS rfl
@[simp, simp ↓] theorem k19_12r : rL k19_12 k19_11 := zL rfl
@[simp, simp ↓] theorem k19_13r : rB k19_13 0 k19_12 := zB rfl
@[simp, simp ↓] theorem k19_14r : sR k19_14 k19_o1 k19_13 := yR rfl
@[simp, simp ↓] theorem k19_16r : sR k19_16 k19_o6 .ret := yR rfl
@[simp, simp ↓] theorem k19_17r : rS k19_17 k19_14 k19_16 := zS rfl
@[simp, simp ↓] theorem k19_18r : sR k19_18 k19_o0 k19_17 := yR rfl
noncomputable abbrev k19_C : Orc → Cx := mkC Try.prog [] 19 19 [.tmp 4]
theorem k19_of0 : OfP0 Try.prog Try.f19 19 19 k19_C k19_18 := @ofP0 _ _ _ _ _ _ _ _ Try.func19 (by decide +kernel) rfl (by kernel_rfl) rfl (by kernel_rfl)
theorem markInt64S_s (id : Nat) (l : List Int) (ex : List AV) (cap : Option Nat) (k : Int) (hk : 0 ≤ k ∧ k ≤ 1099511627776) (hl : l.length ≤ 1073741824) : ACalls Try.prog 19 [.sl id 1 0 l.length cap, .int .i64 k] [(id, ⟨1, l.map iv ++ ex⟩)] (fun v h' => v = .int .i64 (k + l.length) ∧ h' = [(id, ⟨1, (marks k l.length).map iv ++ ex⟩)]) := by
  refine k19_of0 rfl noPure fun I => ?_
  refine Run2.of I 1000 ?_
  simp -implicitDefEqProofs
  obtain ⟨f, hf0, hfn, hlen, hset⟩ : ∃ f : Nat → List AV, l.map iv ++ ex = f 0 ∧ (marks k l.length).map iv ++ ex = f l.length ∧ (∀ i, i ≤ l.length → (f i).length = l.length + ex.length) ∧ ∀ i, i < l.length → (f i).set i (.int .i64 (k + i)) = f (i + 1) :=
    ⟨fun i => (marks k i).map iv ++ (l.drop i).map iv ++ ex, by simp [marks], by simp, fun i hi => by simp; omega, fun i hi => mark_step l ex k i hi⟩
  rw [hf0, hfn]
  refine Run2.loopE (fun i => [(0, .sl id 1 0 l.length cap), (1, .int .i64 (k + (i : Nat))), (5, .int .i64 (i : Nat))]) (fun i => [(id, ⟨1, f i⟩)]) (fun i => l.length - i) (fun i => i ≤ l.length) 0 (by simp) rfl (Nat.zero_le _) fun i hi ih => ?_
  by_cases hlt : i < l.length
  · have go := ih (i + 1) (by omega) (by omega)
    have hl2 := hlen i hi
    rw [← hset i hlt] at go
    clear ih
    refine Run2.of I 1000 ?_
    simp -implicitDefEqProofs [hlt, hl2]
    refine ⟨by omega, by omega, by omega, ?_⟩
    simpa [Int.add_assoc] using go
  · obtain rfl : i = l.length := by omega
    refine Run2.of I 1000 ?_
    simp -implicitDefEqProofs
abbrev k20_o0 : List AJ := [.o ⟨(some 4), none, false, .mv (.c (.int .i64 0)), (some [0, 1])⟩]
abbrev k20_o1 : List AJ := [.o ⟨(some 5), none, false, .mv (.c (.int .i64 0)), (some [0, 1, 5])⟩]
abbrev k20_o2 : List AJ := [.o ⟨(some 6), none, false, .mv (.t 5), none⟩, .o ⟨(some 7), none, false, .mv (.t 0), none⟩, .o ⟨(some 8), none, false, .len (.t 7), none⟩, .o ⟨(some 9), none, false, .bin .lss (.t 6) (.t 8), (some [0, 1, 5, 9])⟩]
def k20_3 : ACode := .cond (.t 9) .skip (.exit 0)
def k20_4 : ACode := .seq (.region k20_o2) k20_3
abbrev k20_o3 : List AJ := [.o ⟨(some 12), none, false, .mv (.t 0), none⟩, .o ⟨(some 13), none, false, .mv (.t 5), none⟩, .o ⟨(some 14), none, false, .idxA 1 (.t 12) (.t 13), none⟩, .o ⟨(some 15), none, false, .load 1 false (.t 14), none⟩, .o ⟨(some 16), none, false, .mv (.t 1), none⟩, .o ⟨(some 17), none, false, .bin .neq (.t 15) (.t 16), (some [0, 1, 5, 17])⟩]
abbrev k20_o4 : List AJ := [.o ⟨(some 4), none, false, .mv (.c (.int .i64 (-1))), (some [4])⟩]
def k20_7 : ACode := .seq (.region k20_o4) .ret
def k20_8 : ACode := .cond (.t 17) k20_7 .skip
def k20_9 : ACode := .seq (.region k20_o3) k20_8
abbrev k20_o5 : List AJ := [.o ⟨(some 18), none, false, .mv (.t 1), none⟩, .o ⟨(some 19), none, true, .bin .add (.t 18) (.c (.int .i64 1)), none⟩, .o ⟨(some 1), none, false, .mv (.t 19), (some [0, 1, 5])⟩]
def k20_10 : ACode := .region k20_o5
def k20_11 : ACode := .seq k20_9 k20_10
abbrev k20_o6 : List AJ := [.o ⟨(some 10), none, false, .mv (.t 5), none⟩, .o ⟨(some 11), none, true, .bin .add (.t 10) (.c (.int .i64 1)), none⟩, .o ⟨(some 5), none, false, .mv (.t 11), (some [0, 1, 5])⟩]
def k20_13 : ACode := .region k20_o6
def k20_14 : ACode := .seq (.block 1 k20_11) k20_13
def k20_15 : ACode := .seq k20_4 k20_14
def k20_16 : ACode := .loop k20_15
def k20_17 : ACode := .block 0 k20_16
def k20_18 : ACode := .seq (.region k20_o1) k20_17
abbrev k20_o7 : List AJ := [.o ⟨(some 20), none, false, .mv (.t 1), none⟩, .o ⟨(some 4), none, false, .mv (.t 20), (some [4])⟩]
def k20_20 : ACode := .seq (.region k20_o7) .ret
def k20_21 : ACode := .seq k20_18 k20_20
def k20_22 : ACode := .seq (.region k20_o0) k20_21
@[simp, simp ↓] theorem k20_3r : rC k20_3 (.t 9) .skip (.exit 0) := zC rfl
@[simp, simp ↓] theorem k20_4r : sR k20_4 k20_o2 k20_3 := yR rfl
@[simp, simp ↓] theorem k20_7r : sR k20_7 k20_o4 .ret := yR rfl
@[simp, simp ↓] theorem k20_8r : rC k20_8 (.t 17) k20_7 .skip := zC rfl
@[simp, simp ↓] theorem k20_9r : sR k20_9 k20_o3 k20_8 := yR rfl
@[simp, simp ↓] theorem k20_10r : rR k20_10 k20_o5 := zR rfl
@[simp, simp ↓] theorem k20_11r : rS k20_11 k20_9 k20_10 := zS rfl
@[simp, simp ↓] theorem k20_13r : rR k20_13 k20_o6 := zR rfl
@[simp, simp ↓] theorem k20_14r : sB k20_14 1 k20_11 k20_13 := yB rfl
@[simp, simp ↓] theorem k20_15r : rS k20_15 k20_4 k20_14 := zS rfl
@[simp, simp ↓] theorem k20_16r : rL k20_16 k20_15 := zL rfl
@[simp, simp ↓] theorem k20_17r : rB k20_17 0 k20_16 := zB rfl
@[simp, simp ↓] theorem k20_18r : sR k20_18 k20_o1 k20_17 := yR rfl
@[simp, simp ↓] theorem k20_20r : sR k20_20 k20_o7 .ret := yR rfl
@[simp, simp ↓] theorem k20_21r : rS k20_21 k20_18 k20_20 := zS rfl
@[simp, simp ↓] theorem k20_22r : sR k20_22 k20_o0 k20_21 := yR rfl
noncomputable abbrev k20_C : Orc → Cx := mkC Try.prog [] 20 21 [.tmp 4]
theorem k20_of0 : OfP0 Try.prog Try.f20 20 21 k20_C k20_22 := @ofP0 _ _ _ _ _ _ _ _ Try.func20 (by decide +kernel) rfl (by kernel_rfl) rfl (by kernel_rfl)
theorem heldInt64S_s (l : List Int) (k : Int) (h : Heap) (hk : 0 ≤ k ∧ k ≤ 1099511627776) (hl : l.length ≤ 1073741824) : ACalls Try.prog 20 [.snap 1 (l.map iv), .int .i64 k] h (fun v h' => v = .int .i64 (if l = marks k l.length then k + l.length else -1) ∧ h' = h) := by
  refine k20_of0 rfl noPure fun I => ?_
  refine Run2.of I 1000 ?_
  simp -implicitDefEqProofs
  refine Run2.loopE (fun i => [(0, .snap 1 (l.map iv)), (1, .int .i64 (k + (i : Nat))), (5, .int .i64 (i : Nat))]) (fun i => h) (fun i => l.length - i) (fun i => i ≤ l.length ∧ l.take i = marks k i) 0 (by simp) rfl (by simp [marks]) fun i hi ih => ?_
  by_cases hlt : i < l.length
  · have hbad : ¬ l[i] = k + i → ¬ l = marks k l.length := fun h1 h2 => h1 (by
      have : l[i] = (marks k l.length)[i]'(by simpa using hlt) := by congr 1
      rw [this, marks_get])
    have go := fun (h1 : l[i] = k + i) => ih (i + 1) ⟨by omega, by rw [List.take_succ_eq_append_getElem hlt, marks_succ, hi.2, h1]⟩ (by omega)
    clear ih
    refine Run2.of I 1000 ?_
    simp -implicitDefEqProofs [hlt]
    refine ⟨fun h1 h2 => absurd h2 (hbad h1), fun h1 => ⟨by omega, by omega, ?_⟩⟩
    simpa [Int.add_assoc] using go h1
  · obtain rfl : i = l.length := by omega
    have h2 := hi.2
    rw [List.take_length] at h2
    refine Run2.of I 1000 ?_
    simp -implicitDefEqProofs
    exact fun h => absurd h2 h
theorem heldInt64S_c (u : AV) (k : Int) (h : Heap) (hu : isInts u) (hk : 0 ≤ k ∧ k ≤ 1099511627776) (hl : (intsOf u).length ≤ 1073741824) : ACalls Try.prog 20 [u, .int .i64 k] h (fun v h' => v = .int .i64 (if intsOf u = marks k (intsOf u).length then k + (intsOf u).length else -1) ∧ h' = h) :=
  (heldInt64S_s _ k h hk hl).wk (.cons (.ints hu) (.refl _))
/-! ## With memory of their own -/
theorem markInt64S_o {v : AV} {l : List Int} {hs : Heap} (ho : OwnL iv 1 v l hs) (k : Int) (hk : 0 ≤ k ∧ k ≤ 1099511627776) (hl : l.length ≤ 1073741824) : ACalls Try.prog 19 [v, .int .i64 k] hs (fun r h' => r = .int .i64 (k + l.length) ∧ OwnL iv 1 v (marks k l.length) h') := by
  have nil : ∀ u, (u = AV.nilsl ∨ u = .emp) → ACalls Try.prog 19 [u, .int .i64 k] [] (fun r h' => r = .int .i64 (k + ([] : List Int).length) ∧ OwnL iv 1 u (marks k 0) h') := by
    rintro u (rfl | rfl)
    all_goals
      refine k19_of0 rfl noPure fun I => ?_
      refine Run2.of I 1000 ?_
      simp -implicitDefEqProofs
      refine Run2.loopE (fun (_ : Unit) => [(0, _), (1, .int .i64 k), (5, .int .i64 0)]) (fun _ => []) (fun _ => 0) (fun _ => True) () (by rfl) rfl trivial fun _ _ _ => ?_
      refine Run2.of I 1000 ?_
      simp -implicitDefEqProofs
      constructor
  cases ho with
  | nil => exact nil _ (.inl rfl)
  | emp => exact nil _ (.inr rfl)
  | sl id cap ex hex =>
    refine (markInt64S_s id l ex cap k hk hl).mono ?_
    rintro r h' ⟨rfl, rfl⟩
    refine ⟨rfl, ?_⟩
    have := OwnL.sl (enc := iv) (sz := 1) (l := marks k l.length) id cap ex hex
    rwa [marks_length] at this
/-! ## In the laws: with other memory about -/
theorem eqI_own {w u : AV} {l m : List Int} {g h : Heap} (o : OwnL iv 1 w l g) (hu : IsL iv 1 u m) (hs : ∀ p ∈ g, p ∈ h) (hl : l.length ≤ 1048576) : ACalls Try.prog 16 [w, u] h (fun r h' => r = .bool (decide (l = m)) ∧ h' = h) := by
  refine ACalls.reads g hs ?_ rfl
  rw [lend_cons, lend_cons, lend_nil', lend1_cold g (hu.cold cold_iv1)]
  exact ACalls.wk (.cons o.lent.wk (.cons hu.wk .nil)) (eqInt64S_s l m [] hl)
theorem heldI_own {w : AV} {l : List Int} {g h : Heap} (o : OwnL iv 1 w l g) (hs : ∀ p ∈ g, p ∈ h) (k : Int) (hk : 0 ≤ k ∧ k ≤ 1099511627776) (hl : l.length ≤ 1073741824) : ACalls Try.prog 20 [w, .int .i64 k] h (fun r h' => r = .int .i64 (if l = marks k l.length then k + l.length else -1) ∧ h' = h) := by
  refine ACalls.reads g hs ?_ rfl
  rw [lend_cons, lend_cons, lend_nil', lend1_cold g (x := .int .i64 k) rfl]
  exact ACalls.wk (.cons o.lent.wk (.refl _)) (heldInt64S_s l k [] hk hl)
theorem markI_drop {w : AV} {l : List Int} {g h : Heap} (o : OwnL iv 1 w l g) (keep : Heap) (hs : ∀ p ∈ g, p ∈ h) (hk : ∀ p ∈ keep, p ∈ h ∧ p.1 ∉ dom g) (nk : (dom h).Nodup → (dom keep).Nodup) (k : Int) (hk1 : 0 ≤ k ∧ k ≤ 1099511627776) (hl : l.length ≤ 1073741824) : ACalls Try.prog 19 [w, .int .i64 k] h (fun r h' => r = .int .i64 (k + l.length) ∧ h' = keep) :=
  ACalls.marks g keep o.nodup hs hk nk (S := fun h' => OwnL iv 1 w (marks k l.length) h') (markInt64S_o o k hk1 hl) ⟨rfl, fun h' ho => (ho.own own_iv1).2⟩
theorem markI_keep {w : AV} {l : List Int} {g h : Heap} (o : OwnL iv 1 w l g) (keep : Heap) (hs : ∀ p ∈ g, p ∈ h) (hk : ∀ p ∈ keep, p ∈ h ∧ p.1 ∉ dom g) (nk : (dom h).Nodup → (dom keep).Nodup) (k : Int) (hk1 : 0 ≤ k ∧ k ≤ 1099511627776) (hl : l.length ≤ 1073741824) : ACalls Try.prog 19 [w, .int .i64 k] h (fun r h' => ∃ g', r = .int .i64 (k + l.length) ∧ OwnL iv 1 w (marks k l.length) g' ∧ h' = g' ++ keep) :=
  (ACalls.frame g [] keep o.nodup hs (by simp) hk nk (S := fun v h' => v = .int .i64 (k + l.length) ∧ OwnL iv 1 w (marks k l.length) h') (by simpa [lend] using markInt64S_o o k hk1 hl) (fun v h' e => by obtain ⟨rfl, e⟩ := e; exact ⟨rfl, (e.own own_iv1).2⟩)).mono fun v h' ⟨g', ⟨e1, e2⟩, _, e3⟩ => ⟨g', e1, e2, e3⟩
end Go.AG
