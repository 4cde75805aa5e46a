/- What the set's own helpers of slices of whole numbers do: they copy, compare, mark. No statement is made here. -/
import Derived.Test.YtamjnegnoijjlaaRows
import Derived.Test.YtamjnegnoijjlaaAGInts
namespace Go.AG
open Go.Proofs Go.Proofs.Ytamjnegnoijjlaa
set_option linter.unusedSimpArgs false
set_option linter.unusedVariables false
set_option maxRecDepth 4000
theorem Int_of_shape {x : AV} (h : shV (.int .i64) x) : ∃ n : Int, x = .int .i64 n ∧ in64 n := by
  obtain ⟨h1, n, e, r⟩ := h
  cases x <;> simp [isAgg, Ty.isS, cellsOf] at h1 e
  exact ⟨n, by rw [e.1, e.2], r⟩
theorem Ints_list : ∀ {xs : List AV}, (∀ x ∈ xs, isAgg x = (Ty.int .i64).isS ∧ shC (.int .i64) (cellsOf x)) → ∃ l : List Int, xs = l.map iv ∧ ∀ n ∈ l, in64 n
  | [], _ => ⟨[], rfl, by simp⟩
  | x :: xs, h => by
    obtain ⟨n, rfl, hn⟩ := Int_of_shape (h x (List.mem_cons_self ..))
    obtain ⟨l, rfl, hl⟩ := Ints_list (xs := xs) fun y hy => h y (List.mem_cons_of_mem _ hy)
    exact ⟨n :: l, rfl, by simpa using ⟨hn, hl⟩⟩
def wfI (l : List Int) : Prop := (∀ n ∈ l, in64 n) ∧ l.length ≤ 9223372036854775807
theorem Ints_of_shape {x : AV} (h : shV (.slice (.int .i64)) x) : ∃ l : List Int, x = .snap 1 (l.map iv) ∧ wfI l := by
  obtain ⟨h1, xs, e1, hlen, r3⟩ := h
  have hm : maxLen ≤ 9223372036854775807 := by decide
  obtain ⟨l, rfl, hl⟩ := Ints_list r3
  cases x <;> simp [isAgg, Ty.isS, cellsOf] at h1 e1
  rw [e1.1, e1.2]
  exact ⟨l, rfl, hl, by simp only [List.length_map] at hlen; exact Nat.le_trans hlen hm⟩
abbrev k37_o0 : List AJ := [.o ⟨(some 2), none, false, .mv (.c .nilsl), (some [0])⟩]
abbrev k37_o1 : List AJ := [.o ⟨(some 5), none, false, .mv (.t 0), none⟩, .o ⟨(some 6), none, false, .len (.t 5), none⟩, .o ⟨(some 7), none, false, .mksl 1 8 (.int .i64 0) (.t 6) (.t 6), none⟩, .o ⟨(some 3), none, false, .mv (.t 7), (some [0, 3])⟩]
abbrev k37_o2 : List AJ := [.o ⟨(some 4), none, false, .mv (.c (.int .i64 0)), (some [0, 3, 4])⟩]
abbrev k37_o3 : List AJ := [.o ⟨(some 8), none, false, .mv (.t 4), none⟩, .o ⟨(some 9), none, false, .mv (.t 0), none⟩, .o ⟨(some 10), none, false, .len (.t 9), none⟩, .o ⟨(some 11), none, false, .bin .lss (.t 8) (.t 10), (some [0, 3, 4, 11])⟩]
def k37_4 : ACode := .cond (.t 11) .skip (.exit 0)
def k37_5 : ACode := .seq (.region k37_o3) k37_4
abbrev k37_o4 : List AJ := [.o ⟨(some 14), none, false, .mv (.t 3), none⟩, .o ⟨(some 15), none, false, .mv (.t 4), none⟩, .o ⟨(some 16), none, false, .mv (.t 0), none⟩, .o ⟨(some 17), none, false, .mv (.t 4), none⟩, .o ⟨(some 18), none, false, .idxA 1 (.t 16) (.t 17), none⟩, .o ⟨(some 19), none, false, .load 1 false (.t 18), none⟩, .o ⟨(some 20), none, false, .idxA 1 (.t 14) (.t 15), none⟩, .o ⟨none, none, false, .store 1 (.t 20) (.t 19), (some [0, 3, 4])⟩]
def k37_6 : ACode := .region k37_o4
abbrev k37_o5 : List AJ := [.o ⟨(some 12), none, false, .mv (.t 4), none⟩, .o ⟨(some 13), none, true, .bin .add (.t 12) (.c (.int .i64 1)), none⟩, .o ⟨(some 4), none, false, .mv (.t 13), (some [0, 3, 4])⟩]
def k37_8 : ACode := .region k37_o5
def k37_9 : ACode := .seq (.block 1 k37_6) k37_8
def k37_10 : ACode := .seq k37_5 k37_9
def k37_11 : ACode := .loop k37_10
def k37_12 : ACode := .block 0 k37_11
def k37_13 : ACode := .seq (.region k37_o2) k37_12
abbrev k37_o6 : List AJ := [.o ⟨(some 21), none, false, .mv (.t 3), none⟩, .o ⟨(some 2), none, false, .mv (.t 21), (some [2])⟩]
def k37_15 : ACode := .seq (.region k37_o6) .ret
def k37_16 : ACode := .seq k37_13 k37_15
def k37_17 : ACode := .seq (.region k37_o1) k37_16
def k37_18 : ACode := .seq (.region k37_o0) k37_17
@[simp, simp ↓] theorem k37_4r : rC k37_4 (.t 11) .skip (.exit 0) := zC rfl
@[simp, simp ↓] theorem k37_5r : sR k37_5 k37_o3 k37_4 := yR rfl
@[simp, simp ↓] theorem k37_6r : rR k37_6 k37_o4 := zR rfl
@[simp, simp ↓] theorem k37_8r : rR k37_8 k37_o5 := zR rfl
@[simp, simp ↓] theorem k37_9r : sB k37_9 1 k37_6 k37_8 := yB rfl
@[simp, simp ↓] theorem k37_10r : rS k37_10 k37_5 k37_9 := zS rfl
@[simp, simp ↓] theorem k37_11r : rL k37_11 k37_10 := zL rfl
@[simp, simp ↓] theorem k37_12r : rB k37_12 0 k37_11 := zB rfl
@[simp, simp ↓] theorem k37_13r : sR k37_13 k37_o2 k37_12 := yR rfl
@[simp, simp ↓] theorem k37_15r : sR k37_15 k37_o6 .ret := yR rfl
@[simp, simp ↓] theorem k37_16r : rS k37_16 k37_13 k37_15 := zS rfl
@[simp, simp ↓] theorem k37_17r : sR k37_17 k37_o1 k37_16 := yR rfl
@[simp, simp ↓] theorem k37_18r : sR k37_18 k37_o0 k37_17 := yR rfl
noncomputable abbrev k37_C : Orc → Cx := mkC Try.prog [] 37 22 [.tmp 2]
theorem k37_of0 : OfP0 Try.prog Try.f37 37 22 k37_C k37_18 := @ofP0 _ _ _ _ _ _ _ _ Try.func37 (by decide +kernel) rfl (by kernel_rfl) rfl (by kernel_rfl)
theorem toInt64S_w (l : List Int) (h : Heap) (hl : l.length ≤ 1048576) : ACalls Try.prog 37 [.snap 1 (l.map iv)] h (fun v h' => ∃ id, id ∉ dom h ∧ v = .sl id 1 0 l.length (some l.length) ∧ h' = (id, ⟨1, l.map iv⟩) :: h) := by
  refine k37_of0 rfl noPure fun I => ?_
  refine Run2.of I 1000 ?_
  simp -implicitDefEqProofs
  refine ⟨by omega, fun id hid => ?_⟩
  refine Run2.loop (fun i => [(0, .snap 1 (l.map iv)), (3, .sl id 1 0 l.length (some l.length)), (4, .int .i64 (i : Nat))]) (fun i => (id, ⟨1, (l.map iv).take i ++ List.replicate (l.length - i) (iv 0)⟩) :: h) (fun i => l.length - i) (fun i => i ≤ l.length) 0 (Nat.zero_le _) fun i hi ih => ?_
  by_cases hlt : i < l.length
  · refine Run2.of I 1000 ?_
    simp -implicitDefEqProofs [hlt]
    refine ⟨by omega, by omega, ?_⟩
    have := ih (i + 1) (by omega) (by omega)
    rwa [← set_fill (l.map iv) (iv 0) (i := i) (n := l.length) (by simp) (by simpa using hlt) (x := .int .i64 l[i]) (by simp)] at this
  · obtain rfl : i = l.length := by omega
    refine Run2.of I 1000 ?_
    simp -implicitDefEqProofs
    refine ⟨id, hid, rfl, ?_⟩
    rw [List.take_of_length_le (by simp)]
theorem toInt64S_c (l : List Int) (h : Heap) (hl : l.length ≤ 1048576) : ACalls Try.prog 37 [.snap 1 (l.map iv)] h (fun v h' => v = .snap 1 (l.map iv) ∧ h' = h) := by
  refine ACalls.post ((toInt64S_w l h hl).mono ?_)
  rintro v h' ⟨id, hid, rfl, rfl⟩
  refine .freeze id (by simp; rfl) (.base ?_)
  simp [List.take_of_length_le]
noncomputable def o_toInt64S : List AV → Option (Prop × AV) := tab (fun (x : List Int) => match x with | l => [.snap 1 (l.map iv)]) (fun x => match x with | l => l.length ≤ 1048576) (fun x => match x with | l => .snap 1 (l.map iv))
@[simp] theorem o_toInt64S_e (l : List Int) : o_toInt64S [.snap 1 (l.map iv)] = some (l.length ≤ 1048576, .snap 1 (l.map iv)) := tab_at (enc := fun (x : List Int) => match x with | l => [.snap 1 (l.map iv)]) (fun x y h => by
  simp at h; simp [h] <;> omega) _ _ l
theorem o_toInt64S_k : Knows Try.prog 37 o_toInt64S := tab_knows fun x hx h => by
  exact toInt64S_c x h hx
abbrev k20_o0 : List AJ := [.o ⟨(some 4), none, false, .mv (.c (.bool false)), (some [0, 1])⟩]
abbrev k20_o1 : List AJ := [.o ⟨(some 6), none, false, .mv (.t 0), none⟩, .o ⟨(some 7), none, false, .len (.t 6), none⟩, .o ⟨(some 8), none, false, .mv (.t 1), none⟩, .o ⟨(some 9), none, false, .len (.t 8), none⟩, .o ⟨(some 10), none, false, .bin .neq (.t 7) (.t 9), (some [0, 1, 10])⟩]
abbrev k20_o2 : List AJ := [.o ⟨(some 4), none, false, .mv (.c (.bool false)), (some [4])⟩]
def k20_3 : ACode := .seq (.region k20_o2) .ret
def k20_4 : ACode := .cond (.t 10) k20_3 .skip
def k20_5 : ACode := .seq (.region k20_o1) k20_4
abbrev k20_o3 : List AJ := [.o ⟨(some 5), none, false, .mv (.c (.int .i64 0)), (some [0, 1, 5])⟩]
abbrev k20_o4 : List AJ := [.o ⟨(some 11), none, false, .mv (.t 5), none⟩, .o ⟨(some 12), none, false, .mv (.t 0), none⟩, .o ⟨(some 13), none, false, .len (.t 12), none⟩, .o ⟨(some 14), none, false, .bin .lss (.t 11) (.t 13), (some [0, 1, 5, 14])⟩]
def k20_8 : ACode := .cond (.t 14) .skip (.exit 0)
def k20_9 : ACode := .seq (.region k20_o4) k20_8
abbrev k20_o5 : List AI := [⟨(some 17), none, false, .mv (.t 0), none⟩, ⟨(some 18), none, false, .mv (.t 5), none⟩, ⟨(some 19), none, false, .idxA 1 (.t 17) (.t 18), none⟩, ⟨(some 20), none, false, .load 1 false (.t 19), none⟩, ⟨(some 21), none, false, .mv (.t 1), none⟩, ⟨(some 22), none, false, .mv (.t 5), none⟩, ⟨(some 23), none, false, .idxA 1 (.t 21) (.t 22), none⟩, ⟨(some 24), none, false, .load 1 false (.t 23), none⟩, ⟨(some 25), none, false, .bin .neq (.t 20) (.t 24), (some [0, 1, 5, 25])⟩]
abbrev k20_o6 : List AJ := [.o ⟨(some 4), none, false, .mv (.c (.bool false)), (some [4])⟩]
def k20_12 : ACode := .seq (.region k20_o6) .ret
def k20_13 : ACode := .cond (.t 25) k20_12 .skip
def k20_14 : ACode := .seq (.draw k20_o5 [] rfl) k20_13
abbrev k20_o7 : List AJ := [.o ⟨(some 15), none, false, .mv (.t 5), none⟩, .o ⟨(some 16), none, true, .bin .add (.t 15) (.c (.int .i64 1)), none⟩, .o ⟨(some 5), none, false, .mv (.t 16), (some [0, 1, 5])⟩]
def k20_16 : ACode := .region k20_o7
def k20_17 : ACode := .seq (.block 1 k20_14) k20_16
def k20_18 : ACode := .seq k20_9 k20_17
def k20_19 : ACode := .loop k20_18
def k20_20 : ACode := .block 0 k20_19
def k20_21 : ACode := .seq (.region k20_o3) k20_20
abbrev k20_o8 : List AJ := [.o ⟨(some 4), none, false, .mv (.c (.bool true)), (some [4])⟩]
def k20_23 : ACode := .seq (.region k20_o8) .ret
def k20_24 : ACode := .seq k20_21 k20_23
def k20_25 : ACode := .seq k20_5 k20_24
def k20_26 : ACode := .seq (.region k20_o0) k20_25
@[simp, simp ↓] theorem k20_3r : sR k20_3 k20_o2 .ret := yR rfl
@[simp, simp ↓] theorem k20_4r : rC k20_4 (.t 10) k20_3 .skip := zC rfl
@[simp, simp ↓] theorem k20_5r : sR k20_5 k20_o1 k20_4 := yR rfl
@[simp, simp ↓] theorem k20_8r : rC k20_8 (.t 14) .skip (.exit 0) := zC rfl
@[simp, simp ↓] theorem k20_9r : sR k20_9 k20_o4 k20_8 := yR rfl
@[simp, simp ↓] theorem k20_12r : sR k20_12 k20_o6 .ret := yR rfl
@[simp, simp ↓] theorem k20_13r : rC k20_13 (.t 25) k20_12 .skip := zC rfl
@[simp, simp ↓] theorem k20_14r : sD k20_14 k20_o5 [] k20_13 := yD rfl
@[simp, simp ↓] theorem k20_16r : rR k20_16 k20_o7 := zR rfl
@[simp, simp ↓] theorem k20_17r : sB k20_17 1 k20_14 k20_16 := yB rfl
@[simp, simp ↓] theorem k20_18r : rS k20_18 k20_9 k20_17 := zS rfl
@[simp, simp ↓] theorem k20_19r : rL k20_19 k20_18 := zL rfl
@[simp, simp ↓] theorem k20_20r : rB k20_20 0 k20_19 := zB rfl
@[simp, simp ↓] theorem k20_21r : sR k20_21 k20_o3 k20_20 := yR rfl
@[simp, simp ↓] theorem k20_23r : sR k20_23 k20_o8 .ret := yR rfl
@[simp, simp ↓] theorem k20_24r : rS k20_24 k20_21 k20_23 := zS rfl
@[simp, simp ↓] theorem k20_25r : rS k20_25 k20_5 k20_24 := zS rfl
@[simp, simp ↓] theorem k20_26r : sR k20_26 k20_o0 k20_25 := yR rfl
noncomputable abbrev k20_C : Orc → Cx := mkC Try.prog [] 20 26 [.tmp 4]
theorem k20_of0 : OfP0 Try.prog Try.f20 20 26 k20_C k20_26 := @ofP0 _ _ _ _ _ _ _ _ Try.func20 (by decide +kernel) rfl (by kernel_rfl) rfl (by kernel_rfl)
theorem eqInt64S_s (l m : List Int) (h : Heap) (hl : l.length ≤ 1048576) : ACalls Try.prog 20 [.snap 1 (l.map iv), .snap 1 (m.map iv)] h (fun v h' => v = .bool (decide (l = m)) ∧ h' = h) := by
  refine k20_of0 rfl noPure fun I => ?_
  refine Run2.of I 1000 ?_
  simp -implicitDefEqProofs
  refine ⟨by rintro hne rfl; exact hne rfl, fun hlen => ?_⟩
  refine Run2.loop (fun i => [(0, .snap 1 (l.map iv)), (1, .snap 1 (m.map iv)), (5, .int .i64 (i : Nat))]) (fun i => h) (fun i => l.length - i) (fun i => i ≤ l.length ∧ l.take i = m.take i) 0 (by simp) fun i hi ih => ?_
  by_cases hlt : i < l.length
  · have hlt' : i < m.length := by omega
    refine Run2.of I 1000 ?_
    simp -implicitDefEqProofs [hlt, hlt']
    constructor
    · rintro hne rfl
      exact hne rfl
    · intro he
      refine ⟨by omega, ?_⟩
      have := ih (i + 1) ⟨by omega, by rw [List.take_succ_eq_append_getElem hlt, List.take_succ_eq_append_getElem hlt', hi.2, he]⟩ (by omega)
      simpa using this
  · refine Run2.of I 1000 ?_
    simp -implicitDefEqProofs [hlt]
    have : i = l.length := by omega
    have h2 := hi.2
    rw [List.take_of_length_le (by omega), List.take_of_length_le (by omega)] at h2
    exact h2
theorem eqInt64S_c (u v : AV) (h : Heap) (hu : isInts u) (hv : isInts v) (hl : (intsOf u).length ≤ 1048576) : ACalls Try.prog 20 [u, v] h (fun r h' => r = .bool (decide (intsOf u = intsOf v)) ∧ h' = h) :=
  (eqInt64S_s _ _ h hl).wk (.cons (.ints hu) (.cons (.ints hv) .nil))
noncomputable def o_eqInt64S : List AV → Option (Prop × AV) := tab (fun (x : AV × AV) => match x with | (u, v) => [u, v]) (fun x => match x with | (u, v) => ((isInts u ∧ isInts v) ∧ (intsOf u).length ≤ 1048576)) (fun x => match x with | (u, v) => .bool (decide (intsOf u = intsOf v)))
@[simp] theorem o_eqInt64S_e (u : AV) (v : AV) : o_eqInt64S [u, v] = some (((isInts u ∧ isInts v) ∧ (intsOf u).length ≤ 1048576), .bool (decide (intsOf u = intsOf v))) := tab_at (enc := fun (x : AV × AV) => match x with | (u, v) => [u, v]) (fun x y h => by
  obtain ⟨u1, v1⟩ := x; obtain ⟨u2, v2⟩ := y; simp at h; simp [h] <;> omega) _ _ (u, v)
theorem o_eqInt64S_k : Knows Try.prog 20 o_eqInt64S := tab_knows fun x hx h => by
  obtain ⟨u, v⟩ := x; exact eqInt64S_c u v h hx.1.1 hx.1.2 hx.2
/-- The marks that follow on k. -/
def marks (k : Int) (n : Nat) : List Int := (List.range n).map fun i => k + (i : Nat)
@[simp] theorem marks_length (k : Int) (n : Nat) : (marks k n).length = n := by simp [marks]
theorem marks_succ (k : Int) (n : Nat) : marks k (n + 1) = marks k n ++ [k + n] := by simp [marks, List.range_succ]
theorem marks_get (k : Int) (n i : Nat) (h : i < (marks k n).length) : (marks k n)[i] = k + i := by simp [marks]
theorem mark_step (l : List Int) (ex : List AV) (k : Int) (i : Nat) (hi : i < l.length) : ((marks k i).map iv ++ (l.drop i).map iv ++ ex).set i (.int .i64 (k + i)) = (marks k (i + 1)).map iv ++ (l.drop (i + 1)).map iv ++ ex := by
  rw [List.drop_eq_getElem_cons hi, marks_succ]
  simp only [List.map_cons, List.map_append, List.map_nil, List.append_assoc, List.cons_append, List.nil_append]
  rw [List.set_append_right _ _ (by simp)]
  simp
abbrev k22_o0 : List AJ := [.o ⟨(some 4), none, false, .mv (.c (.int .i64 0)), (some [0, 1])⟩]
abbrev k22_o1 : List AJ := [.o ⟨(some 5), none, false, .mv (.c (.int .i64 0)), (some [0, 1, 5])⟩]
abbrev k22_o2 : List AJ := [.o ⟨(some 6), none, false, .mv (.t 5), none⟩, .o ⟨(some 7), none, false, .mv (.t 0), none⟩, .o ⟨(some 8), none, false, .len (.t 7), none⟩, .o ⟨(some 9), none, false, .bin .lss (.t 6) (.t 8), (some [0, 1, 5, 9])⟩]
def k22_3 : ACode := .cond (.t 9) .skip (.exit 0)
def k22_4 : ACode := .seq (.region k22_o2) k22_3
abbrev k22_o3 : List AJ := [.o ⟨(some 12), none, false, .mv (.t 0), none⟩, .o ⟨(some 13), none, false, .mv (.t 5), none⟩, .o ⟨(some 14), none, false, .mv (.t 1), none⟩, .o ⟨(some 15), none, false, .idxA 1 (.t 12) (.t 13), none⟩, .o ⟨none, none, false, .store 1 (.t 15) (.t 14), (some [0, 1, 5])⟩]
abbrev k22_o4 : List AJ := [.o ⟨(some 16), none, false, .mv (.t 1), none⟩, .o ⟨(some 17), none, true, .bin .add (.t 16) (.c (.int .i64 1)), none⟩, .o ⟨(some 1), none, false, .mv (.t 17), (some [0, 1, 5])⟩]
def k22_6 : ACode := .region k22_o4
def k22_7 : ACode := .seq (.region k22_o3) k22_6
abbrev k22_o5 : List AJ := [.o ⟨(some 10), none, false, .mv (.t 5), none⟩, .o ⟨(some 11), none, true, .bin .add (.t 10) (.c (.int .i64 1)), none⟩, .o ⟨(some 5), none, false, .mv (.t 11), (some [0, 1, 5])⟩]
def k22_9 : ACode := .region k22_o5
def k22_10 : ACode := .seq (.block 1 k22_7) k22_9
def k22_11 : ACode := .seq k22_4 k22_10
def k22_12 : ACode := .loop k22_11
def k22_13 : ACode := .block 0 k22_12
def k22_14 : ACode := .seq (.region k22_o1) k22_13
abbrev k22_o6 : List AJ := [.o ⟨(some 18), none, false, .mv (.t 1), none⟩, .o ⟨(some 4), none, false, .mv (.t 18), (some [4])⟩]
def k22_16 : ACode := .seq (.region k22_o6) .ret
def k22_17 : ACode := .seq k22_14 k22_16
def k22_18 : ACode := .seq (.region k22_o0) k22_17
@[simp, simp ↓] theorem k22_3r : rC k22_3 (.t 9) .skip (.exit 0) := zC rfl
@[simp, simp ↓] theorem k22_4r : sR k22_4 k22_o2 k22_3 := yR rfl
@[simp, simp ↓] theorem k22_6r : rR k22_6 k22_o4 := zR rfl
@[simp, simp ↓] theorem k22_7r : sR k22_7 k22_o3 k22_6 := yR rfl
@[simp, simp ↓] theorem k22_9r : rR k22_9 k22_o5 := zR rfl
@[simp, simp ↓] theorem k22_10r : sB k22_10 1 k22_7 k22_9 := yB rfl
@[simp, simp ↓] theorem k22_11r : rS k22_11 k22_4 k22_10 := zS rfl
@[simp, simp ↓] theorem k22_12r : rL k22_12 k22_11 := zL rfl
@[simp, simp ↓] theorem k22_13r : rB k22_13 0 k22_12 := zB rfl
@[simp, simp ↓] theorem k22_14r : sR k22_14 k22_o1 k22_13 := yR rfl
@[simp, simp ↓] theorem k22_16r : sR k22_16 k22_o6 .ret := yR rfl
@[simp, simp ↓] theorem k22_17r : rS k22_17 k22_14 k22_16 := zS rfl
@[simp, simp ↓] theorem k22_18r : sR k22_18 k22_o0 k22_17 := yR rfl
noncomputable abbrev k22_C : Orc → Cx := mkC Try.prog [] 22 19 [.tmp 4]
theorem k22_of0 : OfP0 Try.prog Try.f22 22 19 k22_C k22_18 := @ofP0 _ _ _ _ _ _ _ _ Try.func22 (by decide +kernel) rfl (by kernel_rfl) rfl (by kernel_rfl)
theorem markInt64S_s (id : Nat) (l : List Int) (ex : List AV) (cap : Option Nat) (k : Int) (hk : 0 ≤ k ∧ k ≤ 1099511627776) (hl : l.length ≤ 1073741824) : ACalls Try.prog 22 [.sl id 1 0 l.length cap, .int .i64 k] [(id, ⟨1, l.map iv ++ ex⟩)] (fun v h' => v = .int .i64 (k + l.length) ∧ h' = [(id, ⟨1, (marks k l.length).map iv ++ ex⟩)]) := by
  refine k22_of0 rfl noPure fun I => ?_
  refine Run2.of I 1000 ?_
  simp -implicitDefEqProofs
  obtain ⟨f, hf0, hfn, hlen, hset⟩ : ∃ f : Nat → List AV, l.map iv ++ ex = f 0 ∧ (marks k l.length).map iv ++ ex = f l.length ∧ (∀ i, i ≤ l.length → (f i).length = l.length + ex.length) ∧ ∀ i, i < l.length → (f i).set i (.int .i64 (k + i)) = f (i + 1) :=
    ⟨fun i => (marks k i).map iv ++ (l.drop i).map iv ++ ex, by simp [marks], by simp, fun i hi => by simp; omega, fun i hi => mark_step l ex k i hi⟩
  rw [hf0, hfn]
  refine Run2.loopE (fun i => [(0, .sl id 1 0 l.length cap), (1, .int .i64 (k + (i : Nat))), (5, .int .i64 (i : Nat))]) (fun i => [(id, ⟨1, f i⟩)]) (fun i => l.length - i) (fun i => i ≤ l.length) 0 (by simp) rfl (Nat.zero_le _) fun i hi ih => ?_
  by_cases hlt : i < l.length
  · have go := ih (i + 1) (by omega) (by omega)
    have hl2 := hlen i hi
    rw [← hset i hlt] at go
    clear ih
    refine Run2.of I 1000 ?_
    simp -implicitDefEqProofs [hlt, hl2]
    refine ⟨by omega, by omega, by omega, ?_⟩
    simpa [Int.add_assoc] using go
  · obtain rfl : i = l.length := by omega
    refine Run2.of I 1000 ?_
    simp -implicitDefEqProofs
abbrev k23_o0 : List AJ := [.o ⟨(some 4), none, false, .mv (.c (.int .i64 0)), (some [0, 1])⟩]
abbrev k23_o1 : List AJ := [.o ⟨(some 5), none, false, .mv (.c (.int .i64 0)), (some [0, 1, 5])⟩]
abbrev k23_o2 : List AJ := [.o ⟨(some 6), none, false, .mv (.t 5), none⟩, .o ⟨(some 7), none, false, .mv (.t 0), none⟩, .o ⟨(some 8), none, false, .len (.t 7), none⟩, .o ⟨(some 9), none, false, .bin .lss (.t 6) (.t 8), (some [0, 1, 5, 9])⟩]
def k23_3 : ACode := .cond (.t 9) .skip (.exit 0)
def k23_4 : ACode := .seq (.region k23_o2) k23_3
abbrev k23_o3 : List AJ := [.o ⟨(some 12), none, false, .mv (.t 0), none⟩, .o ⟨(some 13), none, false, .mv (.t 5), none⟩, .o ⟨(some 14), none, false, .idxA 1 (.t 12) (.t 13), none⟩, .o ⟨(some 15), none, false, .load 1 false (.t 14), none⟩, .o ⟨(some 16), none, false, .mv (.t 1), none⟩, .o ⟨(some 17), none, false, .bin .neq (.t 15) (.t 16), (some [0, 1, 5, 17])⟩]
abbrev k23_o4 : List AJ := [.o ⟨(some 4), none, false, .mv (.c (.int .i64 (-1))), (some [4])⟩]
def k23_7 : ACode := .seq (.region k23_o4) .ret
def k23_8 : ACode := .cond (.t 17) k23_7 .skip
def k23_9 : ACode := .seq (.region k23_o3) k23_8
abbrev k23_o5 : List AJ := [.o ⟨(some 18), none, false, .mv (.t 1), none⟩, .o ⟨(some 19), none, true, .bin .add (.t 18) (.c (.int .i64 1)), none⟩, .o ⟨(some 1), none, false, .mv (.t 19), (some [0, 1, 5])⟩]
def k23_10 : ACode := .region k23_o5
def k23_11 : ACode := .seq k23_9 k23_10
abbrev k23_o6 : List AJ := [.o ⟨(some 10), none, false, .mv (.t 5), none⟩, .o ⟨(some 11), none, true, .bin .add (.t 10) (.c (.int .i64 1)), none⟩, .o ⟨(some 5), none, false, .mv (.t 11), (some [0, 1, 5])⟩]
def k23_13 : ACode := .region k23_o6
def k23_14 : ACode := .seq (.block 1 k23_11) k23_13
def k23_15 : ACode := .seq k23_4 k23_14
def k23_16 : ACode := .loop k23_15
def k23_17 : ACode := .block 0 k23_16
def k23_18 : ACode := .seq (.region k23_o1) k23_17
abbrev k23_o7 : List AJ := [.o ⟨(some 20), none, false, .mv (.t 1), none⟩, .o ⟨(some 4), none, false, .mv (.t 20), (some [4])⟩]
def k23_20 : ACode := .seq (.region k23_o7) .ret
def k23_21 : ACode := .seq k23_18 k23_20
def k23_22 : ACode := .seq (.region k23_o0) k23_21
@[simp, simp ↓] theorem k23_3r : rC k23_3 (.t 9) .skip (.exit 0) := zC rfl
@[simp, simp ↓] theorem k23_4r : sR k23_4 k23_o2 k23_3 := yR rfl
@[simp, simp ↓] theorem k23_7r : sR k23_7 k23_o4 .ret := yR rfl
@[simp, simp ↓] theorem k23_8r : rC k23_8 (.t 17) k23_7 .skip := zC rfl
@[simp, simp ↓] theorem k23_9r : sR k23_9 k23_o3 k23_8 := yR rfl
@[simp, simp ↓] theorem k23_10r : rR k23_10 k23_o5 := zR rfl
@[simp, simp ↓] theorem k23_11r : rS k23_11 k23_9 k23_10 := zS rfl
@[simp, simp ↓] theorem k23_13r : rR k23_13 k23_o6 := zR rfl
@[simp, simp ↓] theorem k23_14r : sB k23_14 1 k23_11 k23_13 := yB rfl
@[simp, simp ↓] theorem k23_15r : rS k23_15 k23_4 k23_14 := zS rfl
@[simp, simp ↓] theorem k23_16r : rL k23_16 k23_15 := zL rfl
@[simp, simp ↓] theorem k23_17r : rB k23_17 0 k23_16 := zB rfl
@[simp, simp ↓] theorem k23_18r : sR k23_18 k23_o1 k23_17 := yR rfl
@[simp, simp ↓] theorem k23_20r : sR k23_20 k23_o7 .ret := yR rfl
@[simp, simp ↓] theorem k23_21r : rS k23_21 k23_18 k23_20 := zS rfl
@[simp, simp ↓] theorem k23_22r : sR k23_22 k23_o0 k23_21 := yR rfl
noncomputable abbrev k23_C : Orc → Cx := mkC Try.prog [] 23 21 [.tmp 4]
theorem k23_of0 : OfP0 Try.prog Try.f23 23 21 k23_C k23_22 := @ofP0 _ _ _ _ _ _ _ _ Try.func23 (by decide +kernel) rfl (by kernel_rfl) rfl (by kernel_rfl)
theorem heldInt64S_s (l : List Int) (k : Int) (h : Heap) (hk : 0 ≤ k ∧ k ≤ 1099511627776) (hl : l.length ≤ 1073741824) : ACalls Try.prog 23 [.snap 1 (l.map iv), .int .i64 k] h (fun v h' => v = .int .i64 (if l = marks k l.length then k + l.length else -1) ∧ h' = h) := by
  refine k23_of0 rfl noPure fun I => ?_
  refine Run2.of I 1000 ?_
  simp -implicitDefEqProofs
  refine Run2.loopE (fun i => [(0, .snap 1 (l.map iv)), (1, .int .i64 (k + (i : Nat))), (5, .int .i64 (i : Nat))]) (fun i => h) (fun i => l.length - i) (fun i => i ≤ l.length ∧ l.take i = marks k i) 0 (by simp) rfl (by simp [marks]) fun i hi ih => ?_
  by_cases hlt : i < l.length
  · have hbad : ¬ l[i] = k + i → ¬ l = marks k l.length := fun h1 h2 => h1 (by
      have : l[i] = (marks k l.length)[i]'(by simpa using hlt) := by congr 1
      rw [this, marks_get])
    have go := fun (h1 : l[i] = k + i) => ih (i + 1) ⟨by omega, by rw [List.take_succ_eq_append_getElem hlt, marks_succ, hi.2, h1]⟩ (by omega)
    clear ih
    refine Run2.of I 1000 ?_
    simp -implicitDefEqProofs [hlt]
    refine ⟨fun h1 h2 => absurd h2 (hbad h1), fun h1 => ⟨by omega, by omega, ?_⟩⟩
    simpa [Int.add_assoc] using go h1
  · obtain rfl : i = l.length := by omega
    have h2 := hi.2
    rw [List.take_length] at h2
    refine Run2.of I 1000 ?_
    simp -implicitDefEqProofs
    exact fun h => absurd h2 h
theorem heldInt64S_c (u : AV) (k : Int) (h : Heap) (hu : isInts u) (hk : 0 ≤ k ∧ k ≤ 1099511627776) (hl : (intsOf u).length ≤ 1073741824) : ACalls Try.prog 23 [u, .int .i64 k] h (fun v h' => v = .int .i64 (if intsOf u = marks k (intsOf u).length then k + (intsOf u).length else -1) ∧ h' = h) :=
  (heldInt64S_s _ k h hk hl).wk (.cons (.ints hu) (.refl _))
/-! ## With memory of their own -/
theorem toInt64S_o (l : List Int) (h : Heap) (hl : l.length ≤ 1048576) : ACalls Try.prog 37 [.snap 1 (l.map iv)] h (fun v h' => ∃ h1, OwnL iv 1 v l h1 ∧ (∀ i ∈ dom h1, i ∉ dom h) ∧ h' = h1 ++ h) :=
  (toInt64S_w l h hl).mono fun v h' ⟨id, h1, h2, h3⟩ => ⟨[(id, ⟨1, l.map iv ++ []⟩)], h2 ▸ .sl id _ [] rfl, by simpa [dom] using h1, by simpa using h3⟩
theorem markInt64S_o {v : AV} {l : List Int} {hs : Heap} (ho : OwnL iv 1 v l hs) (k : Int) (hk : 0 ≤ k ∧ k ≤ 1099511627776) (hl : l.length ≤ 1073741824) : ACalls Try.prog 22 [v, .int .i64 k] hs (fun r h' => r = .int .i64 (k + l.length) ∧ OwnL iv 1 v (marks k l.length) h') := by
  have nil : ∀ u, (u = AV.nilsl ∨ u = .emp) → ACalls Try.prog 22 [u, .int .i64 k] [] (fun r h' => r = .int .i64 (k + ([] : List Int).length) ∧ OwnL iv 1 u (marks k 0) h') := by
    rintro u (rfl | rfl)
    all_goals
      refine k22_of0 rfl noPure fun I => ?_
      refine Run2.of I 1000 ?_
      simp -implicitDefEqProofs
      refine Run2.loopE (fun (_ : Unit) => [(0, _), (1, .int .i64 k), (5, .int .i64 0)]) (fun _ => []) (fun _ => 0) (fun _ => True) () (by rfl) rfl trivial fun _ _ _ => ?_
      refine Run2.of I 1000 ?_
      simp -implicitDefEqProofs
      constructor
  cases ho with
  | nil => exact nil _ (.inl rfl)
  | emp => exact nil _ (.inr rfl)
  | sl id cap ex hex =>
    refine (markInt64S_s id l ex cap k hk hl).mono ?_
    rintro r h' ⟨rfl, rfl⟩
    refine ⟨rfl, ?_⟩
    have := OwnL.sl (enc := iv) (sz := 1) (l := marks k l.length) id cap ex hex
    rwa [marks_length] at this
/-! ## In the laws: with other memory about -/
theorem eqI_own {w u : AV} {l m : List Int} {g h : Heap} (o : OwnL iv 1 w l g) (hu : IsL iv 1 u m) (hs : ∀ p ∈ g, p ∈ h) (hl : l.length ≤ 1048576) : ACalls Try.prog 20 [w, u] h (fun r h' => r = .bool (decide (l = m)) ∧ h' = h) := by
  refine ACalls.reads g hs ?_ rfl
  rw [lend_cons, lend_cons, lend_nil', lend1_cold g (hu.cold cold_iv1)]
  exact ACalls.wk (.cons o.lent.wk (.cons hu.wk .nil)) (eqInt64S_s l m [] hl)
theorem heldI_own {w : AV} {l : List Int} {g h : Heap} (o : OwnL iv 1 w l g) (hs : ∀ p ∈ g, p ∈ h) (k : Int) (hk : 0 ≤ k ∧ k ≤ 1099511627776) (hl : l.length ≤ 1073741824) : ACalls Try.prog 23 [w, .int .i64 k] h (fun r h' => r = .int .i64 (if l = marks k l.length then k + l.length else -1) ∧ h' = h) := by
  refine ACalls.reads g hs ?_ rfl
  rw [lend_cons, lend_cons, lend_nil', lend1_cold g (x := .int .i64 k) rfl]
  exact ACalls.wk (.cons o.lent.wk (.refl _)) (heldInt64S_s l k [] hk hl)
theorem markI_drop {w : AV} {l : List Int} {g h : Heap} (o : OwnL iv 1 w l g) (keep : Heap) (hs : ∀ p ∈ g, p ∈ h) (hk : ∀ p ∈ keep, p ∈ h ∧ p.1 ∉ dom g) (nk : (dom h).Nodup → (dom keep).Nodup) (k : Int) (hk1 : 0 ≤ k ∧ k ≤ 1099511627776) (hl : l.length ≤ 1073741824) : ACalls Try.prog 22 [w, .int .i64 k] h (fun r h' => r = .int .i64 (k + l.length) ∧ h' = keep) :=
  ACalls.marks g keep o.nodup hs hk nk (S := fun h' => OwnL iv 1 w (marks k l.length) h') (markInt64S_o o k hk1 hl) ⟨rfl, fun h' ho => (ho.own own_iv1).2⟩
theorem markI_keep {w : AV} {l : List Int} {g h : Heap} (o : OwnL iv 1 w l g) (keep : Heap) (hs : ∀ p ∈ g, p ∈ h) (hk : ∀ p ∈ keep, p ∈ h ∧ p.1 ∉ dom g) (nk : (dom h).Nodup → (dom keep).Nodup) (k : Int) (hk1 : 0 ≤ k ∧ k ≤ 1099511627776) (hl : l.length ≤ 1073741824) : ACalls Try.prog 22 [w, .int .i64 k] h (fun r h' => ∃ g', r = .int .i64 (k + l.length) ∧ OwnL iv 1 w (marks k l.length) g' ∧ h' = g' ++ keep) :=
  (ACalls.frame g [] keep o.nodup hs (by simp) hk nk (S := fun v h' => v = .int .i64 (k + l.length) ∧ OwnL iv 1 w (marks k l.length) h') (by simpa [lend] using markInt64S_o o k hk1 hl) (fun v h' e => by obtain ⟨rfl, e⟩ := e; exact ⟨rfl, (e.own own_iv1).2⟩)).mono fun v h' ⟨g', ⟨e1, e2⟩, _, e3⟩ => ⟨g', e1, e2, e3⟩
end Go.AG
