/- What the set's own helpers of slices of whole numbers do: they copy, compare, mark. No statement is made here. -/
import Derived.Test.YtebkdegjiollbaaRows
import Derived.Test.YtebkdegjiollbaaAGInts
namespace Go.AG
open Go.Proofs Go.Proofs.Ytebkdegjiollbaa
set_option linter.unusedSimpArgs false
set_option linter.unusedVariables false
set_option maxRecDepth 4000
theorem Int_of_shape {x : AV} (h : shV (.int .i64) x) : ∃ n : Int, x = .int .i64 n ∧ in64 n := by
  obtain ⟨h1, n, e, r⟩ := h
  cases x <;> simp [isAgg, Ty.isS, cellsOf] at h1 e
  exact ⟨n, by rw [e.1, e.2], r⟩
theorem Ints_list : ∀ {xs : List AV}, (∀ x ∈ xs, isAgg x = (Ty.int .i64).isS ∧ shC (.int .i64) (cellsOf x)) → ∃ l : List Int, xs = l.map iv ∧ ∀ n ∈ l, in64 n
  | [], _ => ⟨[], rfl, by simp⟩
  | x :: xs, h => by
    obtain ⟨n, rfl, hn⟩ := Int_of_shape (h x (List.mem_cons_self ..))
    obtain ⟨l, rfl, hl⟩ := Ints_list (xs := xs) fun y hy => h y (List.mem_cons_of_mem _ hy)
    exact ⟨n :: l, rfl, by simpa using ⟨hn, hl⟩⟩
def wfI (l : List Int) : Prop := (∀ n ∈ l, in64 n) ∧ l.length ≤ 9223372036854775807
theorem Ints_of_shape {x : AV} (h : shV (.slice (.int .i64)) x) : ∃ l : List Int, x = .snap 1 (l.map iv) ∧ wfI l := by
  obtain ⟨h1, xs, e1, hlen, r3⟩ := h
  have hm : maxLen ≤ 9223372036854775807 := by decide
  obtain ⟨l, rfl, hl⟩ := Ints_list r3
  cases x <;> simp [isAgg, Ty.isS, cellsOf] at h1 e1
  rw [e1.1, e1.2]
  exact ⟨l, rfl, hl, by simp only [List.length_map] at hlen; exact Nat.le_trans hlen hm⟩
abbrev k82_o0 : List AJ := [.o ⟨(some 2), none, false, .mv (.c .nilsl), (some [0])⟩]
abbrev k82_o1 : List AJ := [.o ⟨(some 5), none, false, .mv (.t 0), none⟩, .o ⟨(some 6), none, false, .len (.t 5), none⟩, .o ⟨(some 7), none, false, .mksl 1 8 (.int .i64 0) (.t 6) (.t 6), none⟩, .o ⟨(some 3), none, false, .mv (.t 7), (some [0, 3])⟩]
abbrev k82_o2 : List AJ := [.o ⟨(some 4), none, false, .mv (.c (.int .i64 0)), (some [0, 3, 4])⟩]
abbrev k82_o3 : List AJ := [.o ⟨(some 8), none, false, .mv (.t 4), none⟩, .o ⟨(some 9), none, false, .mv (.t 0), none⟩, .o ⟨(some 10), none, false, .len (.t 9), none⟩, .o ⟨(some 11), none, false, .bin .lss (.t 8) (.t 10), (some [0, 3, 4, 11])⟩]
def k82_4 : ACode := .cond (.t 11) .skip (.exit 0)
def k82_5 : ACode := .seq (.region k82_o3) k82_4
abbrev k82_o4 : List AJ := [.o ⟨(some 14), none, false, .mv (.t 3), none⟩, .o ⟨(some 15), none, false, .mv (.t 4), none⟩, .o ⟨(some 16), none, false, .mv (.t 0), none⟩, .o ⟨(some 17), none, false, .mv (.t 4), none⟩, .o ⟨(some 18), none, false, .idxA 1 (.t 16) (.t 17), none⟩, .o ⟨(some 19), none, false, .load 1 false (.t 18), none⟩, .o ⟨(some 20), none, false, .idxA 1 (.t 14) (.t 15), none⟩, .o ⟨none, none, false, .store 1 (.t 20) (.t 19), (some [0, 3, 4])⟩]
def k82_6 : ACode := .region k82_o4
abbrev k82_o5 : List AJ := [.o ⟨(some 12), none, false, .mv (.t 4), none⟩, .o ⟨(some 13), none, true, .bin .add (.t 12) (.c (.int .i64 1)), none⟩, .o ⟨(some 4), none, false, .mv (.t 13), (some [0, 3, 4])⟩]
def k82_8 : ACode := .region k82_o5
def k82_9 : ACode := .seq (.block 1 k82_6) k82_8
def k82_10 : ACode := .seq k82_5 k82_9
def k82_11 : ACode := .loop k82_10
def k82_12 : ACode := .block 0 k82_11
def k82_13 : ACode := .seq (.region k82_o2) k82_12
abbrev k82_o6 : List AJ := [.o ⟨(some 21), none, false, .mv (.t 3), none⟩, .o ⟨(some 2), none, false, .mv (.t 21), (some [2])⟩]
def k82_15 : ACode := .seq (.region k82_o6) .ret
def k82_16 : ACode := .seq k82_13 k82_15
def k82_17 : ACode := .seq (.region k82_o1) k82_16
def k82_18 : ACode := .seq (.region k82_o0) k82_17
@[simp, simp ↓] theorem k82_4r : rC k82_4 (.t 11) .skip (.exit 0) := zC rfl
@[simp, simp ↓] theorem k82_5r : sR k82_5 k82_o3 k82_4 := yR rfl
@[simp, simp ↓] theorem k82_6r : rR k82_6 k82_o4 := zR rfl
@[simp, simp ↓] theorem k82_8r : rR k82_8 k82_o5 := zR rfl
@[simp, simp ↓] theorem k82_9r : sB k82_9 1 k82_6 k82_8 := yB rfl
@[simp, simp ↓] theorem k82_10r : rS k82_10 k82_5 k82_9 := zS rfl
@[simp, simp ↓] theorem k82_11r : rL k82_11 k82_10 := zL rfl
@[simp, simp ↓] theorem k82_12r : rB k82_12 0 k82_11 := zB rfl
@[simp, simp ↓] theorem k82_13r : sR k82_13 k82_o2 k82_12 := yR rfl
@[simp, simp ↓] theorem k82_15r : sR k82_15 k82_o6 .ret := yR rfl
@[simp, simp ↓] theorem k82_16r : rS k82_16 k82_13 k82_15 := zS rfl
@[simp, simp ↓] theorem k82_17r : sR k82_17 k82_o1 k82_16 := yR rfl
@[simp, simp ↓] theorem k82_18r : sR k82_18 k82_o0 k82_17 := yR rfl
noncomputable abbrev k82_C : Orc → Cx := mkC Try.prog [] 82 22 [.tmp 2]
theorem k82_of0 : OfP0 Try.prog Try.f82 82 22 k82_C k82_18 := @ofP0 _ _ _ _ _ _ _ _ Try.func82 (by decide +kernel) rfl (by kernel_rfl) rfl (by kernel_rfl)
theorem toInt64S_w (l : List Int) (h : Heap) (hl : l.length ≤ 1048576) : ACalls Try.prog 82 [.snap 1 (l.map iv)] h (fun v h' => ∃ id, id ∉ dom h ∧ v = .sl id 1 0 l.length (some l.length) ∧ h' = (id, ⟨1, l.map iv⟩) :: h) := by
  refine k82_of0 rfl noPure fun I => ?_
  refine Run2.of I 1000 ?_
  simp -implicitDefEqProofs
  refine ⟨by omega, fun id hid => ?_⟩
  refine Run2.loop (fun i => [(0, .snap 1 (l.map iv)), (3, .sl id 1 0 l.length (some l.length)), (4, .int .i64 (i : Nat))]) (fun i => (id, ⟨1, (l.map iv).take i ++ List.replicate (l.length - i) (iv 0)⟩) :: h) (fun i => l.length - i) (fun i => i ≤ l.length) 0 (Nat.zero_le _) fun i hi ih => ?_
  by_cases hlt : i < l.length
  · refine Run2.of I 1000 ?_
    simp -implicitDefEqProofs [hlt]
    refine ⟨by omega, by omega, ?_⟩
    have := ih (i + 1) (by omega) (by omega)
    rwa [← set_fill (l.map iv) (iv 0) (i := i) (n := l.length) (by simp) (by simpa using hlt) (x := .int .i64 l[i]) (by simp)] at this
  · obtain rfl : i = l.length := by omega
    refine Run2.of I 1000 ?_
    simp -implicitDefEqProofs
    refine ⟨id, hid, rfl, ?_⟩
    rw [List.take_of_length_le (by simp)]
theorem toInt64S_c (l : List Int) (h : Heap) (hl : l.length ≤ 1048576) : ACalls Try.prog 82 [.snap 1 (l.map iv)] h (fun v h' => v = .snap 1 (l.map iv) ∧ h' = h) := by
  refine ACalls.post ((toInt64S_w l h hl).mono ?_)
  rintro v h' ⟨id, hid, rfl, rfl⟩
  refine .freeze id (by simp; rfl) (.base ?_)
  simp [List.take_of_length_le]
noncomputable def o_toInt64S : List AV → Option (Prop × AV) := tab (fun (x : List Int) => match x with | l => [.snap 1 (l.map iv)]) (fun x => match x with | l => l.length ≤ 1048576) (fun x => match x with | l => .snap 1 (l.map iv))
@[simp] theorem o_toInt64S_e (l : List Int) : o_toInt64S [.snap 1 (l.map iv)] = some (l.length ≤ 1048576, .snap 1 (l.map iv)) := tab_at (enc := fun (x : List Int) => match x with | l => [.snap 1 (l.map iv)]) (fun x y h => by
  simp at h; simp [h] <;> omega) _ _ l
theorem o_toInt64S_k : Knows Try.prog 82 o_toInt64S := tab_knows fun x hx h => by
  exact toInt64S_c x h hx
abbrev k26_o0 : List AJ := [.o ⟨(some 4), none, false, .mv (.c (.bool false)), (some [0, 1])⟩]
abbrev k26_o1 : List AJ := [.o ⟨(some 6), none, false, .mv (.t 0), none⟩, .o ⟨(some 7), none, false, .len (.t 6), none⟩, .o ⟨(some 8), none, false, .mv (.t 1), none⟩, .o ⟨(some 9), none, false, .len (.t 8), none⟩, .o ⟨(some 10), none, false, .bin .neq (.t 7) (.t 9), (some [0, 1, 10])⟩]
abbrev k26_o2 : List AJ := [.o ⟨(some 4), none, false, .mv (.c (.bool false)), (some [4])⟩]
def k26_3 : ACode := .seq (.region k26_o2) .ret
def k26_4 : ACode := .cond (.t 10) k26_3 .skip
def k26_5 : ACode := .seq (.region k26_o1) k26_4
abbrev k26_o3 : List AJ := [.o ⟨(some 5), none, false, .mv (.c (.int .i64 0)), (some [0, 1, 5])⟩]
abbrev k26_o4 : List AJ := [.o ⟨(some 11), none, false, .mv (.t 5), none⟩, .o ⟨(some 12), none, false, .mv (.t 0), none⟩, .o ⟨(some 13), none, false, .len (.t 12), none⟩, .o ⟨(some 14), none, false, .bin .lss (.t 11) (.t 13), (some [0, 1, 5, 14])⟩]
def k26_8 : ACode := .cond (.t 14) .skip (.exit 0)
def k26_9 : ACode := .seq (.region k26_o4) k26_8
abbrev k26_o5 : List AI := [⟨(some 17), none, false, .mv (.t 0), none⟩, ⟨(some 18), none, false, .mv (.t 5), none⟩, ⟨(some 19), none, false, .idxA 1 (.t 17) (.t 18), none⟩, ⟨(some 20), none, false, .load 1 false (.t 19), none⟩, ⟨(some 21), none, false, .mv (.t 1), none⟩, ⟨(some 22), none, false, .mv (.t 5), none⟩, ⟨(some 23), none, false, .idxA 1 (.t 21) (.t 22), none⟩, ⟨(some 24), none, false, .load 1 false (.t 23), none⟩, ⟨(some 25), none, false, .bin .neq (.t 20) (.t 24), (some [0, 1, 5, 25])⟩]
abbrev k26_o6 : List AJ := [.o ⟨(some 4), none, false, .mv (.c (.bool false)), (some [4])⟩]
def k26_12 : ACode := .seq (.region k26_o6) .ret
def k26_13 : ACode := .cond (.t 25) k26_12 .skip
def k26_14 : ACode := .seq (.draw k26_o5 [] rfl) k26_13
abbrev k26_o7 : List AJ := [.o ⟨(some 15), none, false, .mv (.t 5), none⟩, .o ⟨(some 16), none, true, .bin .add (.t 15) (.c (.int .i64 1)), none⟩, .o ⟨(some 5), none, false, .mv (.t 16), (some [0, 1, 5])⟩]
def k26_16 : ACode := .region k26_o7
def k26_17 : ACode := .seq (.block 1 k26_14) k26_16
def k26_18 : ACode := .seq k26_9 k26_17
def k26_19 : ACode := .loop k26_18
def k26_20 : ACode := .block 0 k26_19
def k26_21 : ACode := .seq (.region k26_o3) k26_20
abbrev k26_o8 : List AJ := [.o ⟨(some 4), none, false, .mv (.c (.bool true)), (some [4])⟩]
def k26_23 : ACode := .seq (.region k26_o8) .ret
def k26_24 : ACode := .seq k26_21 k26_23
def k26_25 : ACode := .seq k26_5 k26_24
def k26_26 : ACode := .seq (.region k26_o0) k26_25
@[simp, simp ↓] theorem k26_3r : sR k26_3 k26_o2 .ret := yR rfl
@[simp, simp ↓] theorem k26_4r : rC k26_4 (.t 10) k26_3 .skip := zC rfl
@[simp, simp ↓] theorem k26_5r : sR k26_5 k26_o1 k26_4 := yR rfl
@[simp, simp ↓] theorem k26_8r : rC k26_8 (.t 14) .skip (.exit 0) := zC rfl
@[simp, simp ↓] theorem k26_9r : sR k26_9 k26_o4 k26_8 := yR rfl
@[simp, simp ↓] theorem k26_12r : sR k26_12 k26_o6 .ret := yR rfl
@[simp, simp ↓] theorem k26_13r : rC k26_13 (.t 25) k26_12 .skip := zC rfl
@[simp, simp ↓] theorem k26_14r : sD k26_14 k26_o5 [] k26_13 := yD rfl
@[simp, simp ↓] theorem k26_16r : rR k26_16 k26_o7 := zR rfl
@[simp, simp ↓] theorem k26_17r : sB k26_17 1 k26_14 k26_16 := yB rfl
@[simp, simp ↓] theorem k26_18r : rS k26_18 k26_9 k26_17 := zS rfl
@[simp, simp ↓] theorem k26_19r : rL k26_19 k26_18 := zL rfl
@[simp, simp ↓] theorem k26_20r : rB k26_20 0 k26_19 := zB rfl
@[simp, simp ↓] theorem k26_21r : sR k26_21 k26_o3 k26_20 := yR rfl
@[simp, simp ↓] theorem k26_23r : sR k26_23 k26_o8 .ret := yR rfl
@[simp, simp ↓] theorem k26_24r : rS k26_24 k26_21 k26_23 := zS rfl
@[simp, simp ↓] theorem k26_25r : rS k26_25 k26_5 k26_24 := zS rfl
@[simp, simp ↓] theorem k26_26r : sR k26_26 k26_o0 k26_25 := yR rfl
noncomputable abbrev k26_C : Orc → Cx := mkC Try.prog [] 26 26 [.tmp 4]
theorem k26_of0 : OfP0 Try.prog Try.f26 26 26 k26_C k26_26 := @ofP0 _ _ _ _ _ _ _ _ Try.func26 (by decide +kernel) rfl (by kernel_rfl) rfl (by kernel_rfl)
theorem eqInt64S_s (l m : List Int) (h : Heap) (hl : l.length ≤ 1048576) : ACalls Try.prog 26 [.snap 1 (l.map iv), .snap 1 (m.map iv)] h (fun v h' => v = .bool (decide (l = m)) ∧ h' = h) := by
  refine k26_of0 rfl noPure fun I => ?_
  refine Run2.of I 1000 ?_
  simp -implicitDefEqProofs
  refine ⟨by rintro hne rfl; exact hne rfl, fun hlen => ?_⟩
  refine Run2.loop (fun i => [(0, .snap 1 (l.map iv)), (1, .snap 1 (m.map iv)), (5, .int .i64 (i : Nat))]) (fun i => h) (fun i => l.length - i) (fun i => i ≤ l.length ∧ l.take i = m.take i) 0 (by simp) fun i hi ih => ?_
  by_cases hlt : i < l.length
  · have hlt' : i < m.length := by omega
    refine Run2.of I 1000 ?_
    simp -implicitDefEqProofs [hlt, hlt']
    constructor
    · rintro hne rfl
      exact hne rfl
    · intro he
      refine ⟨by omega, ?_⟩
      have := ih (i + 1) ⟨by omega, by rw [List.take_succ_eq_append_getElem hlt, List.take_succ_eq_append_getElem hlt', hi.2, he]⟩ (by omega)
      simpa using this
  · refine Run2.of I 1000 ?_
    simp -implicitDefEqProofs [hlt]
    have : i = l.length := by omega
    have h2 := hi.2
    rw [List.take_of_length_le (by omega), List.take_of_length_le (by omega)] at h2
    exact h2
theorem eqInt64S_c (u v : AV) (h : Heap) (hu : isInts u) (hv : isInts v) (hl : (intsOf u).length ≤ 1048576) : ACalls Try.prog 26 [u, v] h (fun r h' => r = .bool (decide (intsOf u = intsOf v)) ∧ h' = h) :=
  (eqInt64S_s _ _ h hl).wk (.cons (.ints hu) (.cons (.ints hv) .nil))
noncomputable def o_eqInt64S : List AV → Option (Prop × AV) := tab (fun (x : AV × AV) => match x with | (u, v) => [u, v]) (fun x => match x with | (u, v) => ((isInts u ∧ isInts v) ∧ (intsOf u).length ≤ 1048576)) (fun x => match x with | (u, v) => .bool (decide (intsOf u = intsOf v)))
@[simp] theorem o_eqInt64S_e (u : AV) (v : AV) : o_eqInt64S [u, v] = some (((isInts u ∧ isInts v) ∧ (intsOf u).length ≤ 1048576), .bool (decide (intsOf u = intsOf v))) := tab_at (enc := fun (x : AV × AV) => match x with | (u, v) => [u, v]) (fun x y h => by
  obtain ⟨u1, v1⟩ := x; obtain ⟨u2, v2⟩ := y; simp at h; simp [h] <;> omega) _ _ (u, v)
theorem o_eqInt64S_k : Knows Try.prog 26 o_eqInt64S := tab_knows fun x hx h => by
  obtain ⟨u, v⟩ := x; exact eqInt64S_c u v h hx.1.1 hx.1.2 hx.2
/-- The marks that follow on k. -/
def marks (k : Int) (n : Nat) : List Int := (List.range n).map fun i => k + (i : Nat)
@[simp] theorem marks_length (k : Int) (n : Nat) : (marks k n).length = n := by simp [marks]
theorem marks_succ (k : Int) (n : Nat) : marks k (n + 1) = marks k n ++ [k + n] := by simp [marks, List.range_succ]
theorem marks_get (k : Int) (n i : Nat) (h : i < (marks k n).length) : (marks k n)[i] = k + i := by simp [marks]
theorem mark_step (l : List Int) (ex : List AV) (k : Int) (i : Nat) (hi : i < l.length) : ((marks k i).map iv ++ (l.drop i).map iv ++ ex).set i (.int .i64 (k + i)) = (marks k (i + 1)).map iv ++ (l.drop (i + 1)).map iv ++ ex := by
  rw [List.drop_eq_getElem_cons hi, marks_succ]
  simp only [List.map_cons, List.map_append, List.map_nil, List.append_assoc, List.cons_append, List.nil_append]
  rw [List.set_append_right _ _ (by simp)]
  simp
abbrev k29_o0 : List AJ := [.o ⟨(some 4), none, false, .mv (.c (.int .i64 0)), (some [0, 1])⟩]
abbrev k29_o1 : List AJ := [.o ⟨(some 5), none, false, .mv (.c (.int .i64 0)), (some [0, 1, 5])⟩]
abbrev k29_o2 : List AJ := [.o ⟨(some 6), none, false, .mv (.t 5), none⟩, .o ⟨(some 7), none, false, .mv (.t 0), none⟩, .o ⟨(some 8), none, false, .len (.t 7), none⟩, .o ⟨(some 9), none, false, .bin .lss (.t 6) (.t 8), (some [0, 1, 5, 9])⟩]
def k29_3 : ACode := .cond (.t 9) .skip (.exit 0)
def k29_4 : ACode := .seq (.region k29_o2) k29_3
abbrev k29_o3 : List AJ := [.o ⟨(some 12), none, false, .mv (.t 0), none⟩, .o ⟨(some 13), none, false, .mv (.t 5), none⟩, .o ⟨(some 14), none, false, .mv (.t 1), none⟩, .o ⟨(some 15), none, false, .idxA 1 (.t 12) (.t 13), none⟩, .o ⟨none, none, false, .store 1 (.t 15) (.t 14), (some [0, 1, 5])⟩]
abbrev k29_o4 : List AJ := [.o ⟨(some 16), none, false, .mv (.t 1), none⟩, .o ⟨(some 17), none, true, .bin .add (.t 16) (.c (.int .i64 1)), none⟩, .o ⟨(some 1), none, false, .mv (.t 17), (some [0, 1, 5])⟩]
def k29_6 : ACode := .region k29_o4
def k29_7 : ACode := .seq (.region k29_o3) k29_6
abbrev k29_o5 : List AJ := [.o ⟨(some 10), none, false, .mv (.t 5), none⟩, .o ⟨(some 11), none, true, .bin .add (.t 10) (.c (.int .i64 1)), none⟩, .o ⟨(some 5), none, false, .mv (.t 11), (some [0, 1, 5])⟩]
def k29_9 : ACode := .region k29_o5
def k29_10 : ACode := .seq (.block 1 k29_7) k29_9
def k29_11 : ACode := .seq k29_4 k29_10
def k29_12 : ACode := .loop k29_11
def k29_13 : ACode := .block 0 k29_12
def k29_14 : ACode := .seq (.region k29_o1) k29_13
abbrev k29_o6 : List AJ := [.o ⟨(some 18), none, false, .mv (.t 1), none⟩, .o ⟨(some 4), none, false, .mv (.t 18), (some [4])⟩]
def k29_16 : ACode := .seq (.region k29_o6) .ret
def k29_17 : ACode := .seq k29_14 k29_16
def k29_18 : ACode := .seq (.region k29_o0) k29_17
@[simp, simp ↓] theorem k29_3r : rC k29_3 (.t 9) .skip (.exit 0) := zC rfl
@[simp, simp ↓] theorem k29_4r : sR k29_4 k29_o2 k29_3 := yR rfl
@[simp, simp ↓] theorem k29_6r : rR k29_6 k29_o4 := zR rfl
@[simp, simp ↓] theorem k29_7r : sR k29_7 k29_o3 k29_6 := yR rfl
@[simp, simp ↓] theorem k29_9r : rR k29_9 k29_o5 := zR rfl
@[simp, simp ↓] theorem k29_10r : sB k29_10 1 k29_7 k29_9 := yB rfl
@[simp, simp ↓] theorem k29_11r : rS k29_11 k29_4 k29_10 := zS rfl
@[simp, simp ↓] theorem k29_12r : rL k29_12 k29_11 := zL rfl
@[simp, simp ↓] theorem k29_13r : rB k29_13 0 k29_12 := zB rfl
@[simp, simp ↓] theorem k29_14r : sR k29_14 k29_o1 k29_13 := yR rfl
@[simp, simp ↓] theorem k29_16r : sR k29_16 k29_o6 .ret := yR rfl
@[simp, simp ↓] theorem k29_17r : rS k29_17 k29_14 k29_16 := zS rfl
@[simp, simp ↓] theorem k29_18r : sR k29_18 k29_o0 k29_17 := yR rfl
noncomputable abbrev k29_C : Orc → Cx := mkC Try.prog [] 29 19 [.tmp 4]
theorem k29_of0 : OfP0 Try.prog Try.f29 29 19 k29_C k29_18 := @ofP0 _ _ _ _ _ _ _ _ Try.func29 (by decide +kernel) rfl (by kernel_rfl) rfl (by kernel_rfl)
theorem markInt64S_s (id : Nat) (l : List Int) (ex : List AV) (cap : Option Nat) (k : Int) (hk : 0 ≤ k ∧ k ≤ 1099511627776) (hl : l.length ≤ 1073741824) : ACalls Try.prog 29 [.sl id 1 0 l.length cap, .int .i64 k] [(id, ⟨1, l.map iv ++ ex⟩)] (fun v h' => v = .int .i64 (k + l.length) ∧ h' = [(id, ⟨1, (marks k l.length).map iv ++ ex⟩)]) := by
  refine k29_of0 rfl noPure fun I => ?_
  refine Run2.of I 1000 ?_
  simp -implicitDefEqProofs
  obtain ⟨f, hf0, hfn, hlen, hset⟩ : ∃ f : Nat → List AV, l.map iv ++ ex = f 0 ∧ (marks k l.length).map iv ++ ex = f l.length ∧ (∀ i, i ≤ l.length → (f i).length = l.length + ex.length) ∧ ∀ i, i < l.length → (f i).set i (.int .i64 (k + i)) = f (i + 1) :=
    ⟨fun i => (marks k i).map iv ++ (l.drop i).map iv ++ ex, by simp [marks], by simp, fun i hi => by simp; omega, fun i hi => mark_step l ex k i hi⟩
  rw [hf0, hfn]
  refine Run2.loopE (fun i => [(0, .sl id 1 0 l.length cap), (1, .int .i64 (k + (i : Nat))), (5, .int .i64 (i : Nat))]) (fun i => [(id, ⟨1, f i⟩)]) (fun i => l.length - i) (fun i => i ≤ l.length) 0 (by simp) rfl (Nat.zero_le _) fun i hi ih => ?_
  by_cases hlt : i < l.length
  · have go := ih (i + 1) (by omega) (by omega)
    have hl2 := hlen i hi
    rw [← hset i hlt] at go
    clear ih
    refine Run2.of I 1000 ?_
    simp -implicitDefEqProofs [hlt, hl2]
    refine ⟨by omega, by omega, by omega, ?_⟩
    simpa [Int.add_assoc] using go
  · obtain rfl : i = l.length := by omega
    refine Run2.of I 1000 ?_
    simp -implicitDefEqProofs
abbrev k30_o0 : List AJ := [.o ⟨(some 4), none, false, .mv (.c (.int .i64 0)), (some [0, 1])⟩]
abbrev k30_o1 : List AJ := [.o ⟨(some 5), none, false, .mv (.c (.int .i64 0)), (some [0, 1, 5])⟩]
abbrev k30_o2 : List AJ := [.o ⟨(some 6), none, false, .mv (.t 5), none⟩, .o ⟨(some 7), none, false, .mv (.t 0), none⟩, .o ⟨(some 8), none, false, .len (.t 7), none⟩, .o ⟨(some 9), none, false, .bin .lss (.t 6) (.t 8), (some [0, 1, 5, 9])⟩]
def k30_3 : ACode := .cond (.t 9) .skip (.exit 0)
def k30_4 : ACode := .seq (.region k30_o2) k30_3
abbrev k30_o3 : List AJ := [.o ⟨(some 12), none, false, .mv (.t 0), none⟩, .o ⟨(some 13), none, false, .mv (.t 5), none⟩, .o ⟨(some 14), none, false, .idxA 1 (.t 12) (.t 13), none⟩, .o ⟨(some 15), none, false, .load 1 false (.t 14), none⟩, .o ⟨(some 16), none, false, .mv (.t 1), none⟩, .o ⟨(some 17), none, false, .bin .neq (.t 15) (.t 16), (some [0, 1, 5, 17])⟩]
abbrev k30_o4 : List AJ := [.o ⟨(some 4), none, false, .mv (.c (.int .i64 (-1))), (some [4])⟩]
def k30_7 : ACode := .seq (.region k30_o4) .ret
def k30_8 : ACode := .cond (.t 17) k30_7 .skip
def k30_9 : ACode := .seq (.region k30_o3) k30_8
abbrev k30_o5 : List AJ := [.o ⟨(some 18), none, false, .mv (.t 1), none⟩, .o ⟨(some 19), none, true, .bin .add (.t 18) (.c (.int .i64 1)), none⟩, .o ⟨(some 1), none, false, .mv (.t 19), (some [0, 1, 5])⟩]
def k30_10 : ACode := .region k30_o5
def k30_11 : ACode := .seq k30_9 k30_10
abbrev k30_o6 : List AJ := [.o ⟨(some 10), none, false, .mv (.t 5), none⟩, .o ⟨(some 11), none, true, .bin .add (.t 10) (.c (.int .i64 1)), none⟩, .o ⟨(some 5), none, false, .mv (.t 11), (some [0, 1, 5])⟩]
def k30_13 : ACode := .region k30_o6
def k30_14 : ACode := .seq (.block 1 k30_11) k30_13
def k30_15 : ACode := .seq k30_4 k30_14
def k30_16 : ACode := .loop k30_15
def k30_17 : ACode := .block 0 k30_16
def k30_18 : ACode := .seq (.region k30_o1) k30_17
abbrev k30_o7 : List AJ := [.o ⟨(some 20), none, false, .mv (.t 1), none⟩, .o ⟨(some 4), none, false, .mv (.t 20), (some [4])⟩]
def k30_20 : ACode := .seq (.region k30_o7) .ret
def k30_21 : ACode := .seq k30_18 k30_20
def k30_22 : ACode := .seq (.region k30_o0) k30_21
@[simp, simp ↓] theorem k30_3r : rC k30_3 (.t 9) .skip (.exit 0) := zC rfl
@[simp, simp ↓] theorem k30_4r : sR k30_4 k30_o2 k30_3 := yR rfl
@[simp, simp ↓] theorem k30_7r : sR k30_7 k30_o4 .ret := yR rfl
@[simp, simp ↓] theorem k30_8r : rC k30_8 (.t 17) k30_7 .skip := zC rfl
@[simp, simp ↓] theorem k30_9r : sR k30_9 k30_o3 k30_8 := yR rfl
@[simp, simp ↓] theorem k30_10r : rR k30_10 k30_o5 := zR rfl
@[simp, simp ↓] theorem k30_11r : rS k30_11 k30_9 k30_10 := zS rfl
@[simp, simp ↓] theorem k30_13r : rR k30_13 k30_o6 := zR rfl
@[simp, simp ↓] theorem k30_14r : sB k30_14 1 k30_11 k30_13 := yB rfl
@[simp, simp ↓] theorem k30_15r : rS k30_15 k30_4 k30_14 := zS rfl
@[simp, simp ↓] theorem k30_16r : rL k30_16 k30_15 := zL rfl
@[simp, simp ↓] theorem k30_17r : rB k30_17 0 k30_16 := zB rfl
@[simp, simp ↓] theorem k30_18r : sR k30_18 k30_o1 k30_17 := yR rfl
@[simp, simp ↓] theorem k30_20r : sR k30_20 k30_o7 .ret := yR rfl
@[simp, simp ↓] theorem k30_21r : rS k30_21 k30_18 k30_20 := zS rfl
@[simp, simp ↓] theorem k30_22r : sR k30_22 k30_o0 k30_21 := yR rfl
noncomputable abbrev k30_C : Orc → Cx := mkC Try.prog [] 30 21 [.tmp 4]
theorem k30_of0 : OfP0 Try.prog Try.f30 30 21 k30_C k30_22 := @ofP0 _ _ _ _ _ _ _ _ Try.func30 (by decide +kernel) rfl (by kernel_rfl) rfl (by kernel_rfl)
theorem heldInt64S_s (l : List Int) (k : Int) (h : Heap) (hk : 0 ≤ k ∧ k ≤ 1099511627776) (hl : l.length ≤ 1073741824) : ACalls Try.prog 30 [.snap 1 (l.map iv), .int .i64 k] h (fun v h' => v = .int .i64 (if l = marks k l.length then k + l.length else -1) ∧ h' = h) := by
  refine k30_of0 rfl noPure fun I => ?_
  refine Run2.of I 1000 ?_
  simp -implicitDefEqProofs
  refine Run2.loopE (fun i => [(0, .snap 1 (l.map iv)), (1, .int .i64 (k + (i : Nat))), (5, .int .i64 (i : Nat))]) (fun i => h) (fun i => l.length - i) (fun i => i ≤ l.length ∧ l.take i = marks k i) 0 (by simp) rfl (by simp [marks]) fun i hi ih => ?_
  by_cases hlt : i < l.length
  · have hbad : ¬ l[i] = k + i → ¬ l = marks k l.length := fun h1 h2 => h1 (by
      have : l[i] = (marks k l.length)[i]'(by simpa using hlt) := by congr 1
      rw [this, marks_get])
    have go := fun (h1 : l[i] = k + i) => ih (i + 1) ⟨by omega, by rw [List.take_succ_eq_append_getElem hlt, marks_succ, hi.2, h1]⟩ (by omega)
    clear ih
    refine Run2.of I 1000 ?_
    simp -implicitDefEqProofs [hlt]
    refine ⟨fun h1 h2 => absurd h2 (hbad h1), fun h1 => ⟨by omega, by omega, ?_⟩⟩
    simpa [Int.add_assoc] using go h1
  · obtain rfl : i = l.length := by omega
    have h2 := hi.2
    rw [List.take_length] at h2
    refine Run2.of I 1000 ?_
    simp -implicitDefEqProofs
    exact fun h => absurd h2 h
theorem heldInt64S_c (u : AV) (k : Int) (h : Heap) (hu : isInts u) (hk : 0 ≤ k ∧ k ≤ 1099511627776) (hl : (intsOf u).length ≤ 1073741824) : ACalls Try.prog 30 [u, .int .i64 k] h (fun v h' => v = .int .i64 (if intsOf u = marks k (intsOf u).length then k + (intsOf u).length else -1) ∧ h' = h) :=
  (heldInt64S_s _ k h hk hl).wk (.cons (.ints hu) (.refl _))
/-! ## With memory of their own -/
theorem toInt64S_o (l : List Int) (h : Heap) (hl : l.length ≤ 1048576) : ACalls Try.prog 82 [.snap 1 (l.map iv)] h (fun v h' => ∃ h1, OwnL iv 1 v l h1 ∧ (∀ i ∈ dom h1, i ∉ dom h) ∧ h' = h1 ++ h) :=
  (toInt64S_w l h hl).mono fun v h' ⟨id, h1, h2, h3⟩ => ⟨[(id, ⟨1, l.map iv ++ []⟩)], h2 ▸ .sl id _ [] rfl, by simpa [dom] using h1, by simpa using h3⟩
theorem markInt64S_o {v : AV} {l : List Int} {hs : Heap} (ho : OwnL iv 1 v l hs) (k : Int) (hk : 0 ≤ k ∧ k ≤ 1099511627776) (hl : l.length ≤ 1073741824) : ACalls Try.prog 29 [v, .int .i64 k] hs (fun r h' => r = .int .i64 (k + l.length) ∧ OwnL iv 1 v (marks k l.length) h') := by
  have nil : ∀ u, (u = AV.nilsl ∨ u = .emp) → ACalls Try.prog 29 [u, .int .i64 k] [] (fun r h' => r = .int .i64 (k + ([] : List Int).length) ∧ OwnL iv 1 u (marks k 0) h') := by
    rintro u (rfl | rfl)
    all_goals
      refine k29_of0 rfl noPure fun I => ?_
      refine Run2.of I 1000 ?_
      simp -implicitDefEqProofs
      refine Run2.loopE (fun (_ : Unit) => [(0, _), (1, .int .i64 k), (5, .int .i64 0)]) (fun _ => []) (fun _ => 0) (fun _ => True) () (by rfl) rfl trivial fun _ _ _ => ?_
      refine Run2.of I 1000 ?_
      simp -implicitDefEqProofs
      constructor
  cases ho with
  | nil => exact nil _ (.inl rfl)
  | emp => exact nil _ (.inr rfl)
  | sl id cap ex hex =>
    refine (markInt64S_s id l ex cap k hk hl).mono ?_
    rintro r h' ⟨rfl, rfl⟩
    refine ⟨rfl, ?_⟩
    have := OwnL.sl (enc := iv) (sz := 1) (l := marks k l.length) id cap ex hex
    rwa [marks_length] at this
/-! ## In the laws: with other memory about -/
theorem eqI_own {w u : AV} {l m : List Int} {g h : Heap} (o : OwnL iv 1 w l g) (hu : IsL iv 1 u m) (hs : ∀ p ∈ g, p ∈ h) (hl : l.length ≤ 1048576) : ACalls Try.prog 26 [w, u] h (fun r h' => r = .bool (decide (l = m)) ∧ h' = h) := by
  refine ACalls.reads g hs ?_ rfl
  rw [lend_cons, lend_cons, lend_nil', lend1_cold g (hu.cold cold_iv1)]
  exact ACalls.wk (.cons o.lent.wk (.cons hu.wk .nil)) (eqInt64S_s l m [] hl)
theorem heldI_own {w : AV} {l : List Int} {g h : Heap} (o : OwnL iv 1 w l g) (hs : ∀ p ∈ g, p ∈ h) (k : Int) (hk : 0 ≤ k ∧ k ≤ 1099511627776) (hl : l.length ≤ 1073741824) : ACalls Try.prog 30 [w, .int .i64 k] h (fun r h' => r = .int .i64 (if l = marks k l.length then k + l.length else -1) ∧ h' = h) := by
  refine ACalls.reads g hs ?_ rfl
  rw [lend_cons, lend_cons, lend_nil', lend1_cold g (x := .int .i64 k) rfl]
  exact ACalls.wk (.cons o.lent.wk (.refl _)) (heldInt64S_s l k [] hk hl)
theorem markI_drop {w : AV} {l : List Int} {g h : Heap} (o : OwnL iv 1 w l g) (keep : Heap) (hs : ∀ p ∈ g, p ∈ h) (hk : ∀ p ∈ keep, p ∈ h ∧ p.1 ∉ dom g) (nk : (dom h).Nodup → (dom keep).Nodup) (k : Int) (hk1 : 0 ≤ k ∧ k ≤ 1099511627776) (hl : l.length ≤ 1073741824) : ACalls Try.prog 29 [w, .int .i64 k] h (fun r h' => r = .int .i64 (k + l.length) ∧ h' = keep) :=
  ACalls.marks g keep o.nodup hs hk nk (S := fun h' => OwnL iv 1 w (marks k l.length) h') (markInt64S_o o k hk1 hl) ⟨rfl, fun h' ho => (ho.own own_iv1).2⟩
theorem markI_keep {w : AV} {l : List Int} {g h : Heap} (o : OwnL iv 1 w l g) (keep : Heap) (hs : ∀ p ∈ g, p ∈ h) (hk : ∀ p ∈ keep, p ∈ h ∧ p.1 ∉ dom g) (nk : (dom h).Nodup → (dom keep).Nodup) (k : Int) (hk1 : 0 ≤ k ∧ k ≤ 1099511627776) (hl : l.length ≤ 1073741824) : ACalls Try.prog 29 [w, .int .i64 k] h (fun r h' => ∃ g', r = .int .i64 (k + l.length) ∧ OwnL iv 1 w (marks k l.length) g' ∧ h' = g' ++ keep) :=
  (ACalls.frame g [] keep o.nodup hs (by simp) hk nk (S := fun v h' => v = .int .i64 (k + l.length) ∧ OwnL iv 1 w (marks k l.length) h') (by simpa [lend] using markInt64S_o o k hk1 hl) (fun v h' e => by obtain ⟨rfl, e⟩ := e; exact ⟨rfl, (e.own own_iv1).2⟩)).mono fun v h' ⟨g', ⟨e1, e2⟩, _, e3⟩ => ⟨g', e1, e2, e3⟩
end Go.AG
