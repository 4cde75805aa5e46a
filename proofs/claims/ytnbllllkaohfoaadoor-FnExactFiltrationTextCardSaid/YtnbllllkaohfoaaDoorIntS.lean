/- What the set's own helpers of slices of whole numbers do: they copy, compare, mark. No statement is made here. -/
import Derived.Test.YtnbllllkaohfoaaDoorRows
import Derived.Test.YtnbllllkaohfoaaDoorAGInts
namespace Go.AG
open Go.Proofs Go.Proofs.YtnbllllkaohfoaaDoor
set_option linter.unusedSimpArgs false
set_option linter.unusedVariables false
set_option maxRecDepth 4000
theorem Int_of_shape {x : AV} (h : shV (.int .i64) x) : ∃ n : Int, x = .int .i64 n ∧ in64 n := by
  obtain ⟨h1, n, e, r⟩ := h
  cases x <;> simp [isAgg, Ty.isS, cellsOf] at h1 e
  exact ⟨n, by rw [e.1, e.2], r⟩
theorem Ints_list : ∀ {xs : List AV}, (∀ x ∈ xs, isAgg x = (Ty.int .i64).isS ∧ shC (.int .i64) (cellsOf x)) → ∃ l : List Int, xs = l.map iv ∧ ∀ n ∈ l, in64 n
  | [], _ => ⟨[], rfl, by simp⟩
  | x :: xs, h => by
    obtain ⟨n, rfl, hn⟩ := Int_of_shape (h x (List.mem_cons_self ..))
    obtain ⟨l, rfl, hl⟩ := Ints_list (xs := xs) fun y hy => h y (List.mem_cons_of_mem _ hy)
    exact ⟨n :: l, rfl, by simpa using ⟨hn, hl⟩⟩
def wfI (l : List Int) : Prop := (∀ n ∈ l, in64 n) ∧ l.length ≤ 9223372036854775807
theorem Ints_of_shape {x : AV} (h : shV (.slice (.int .i64)) x) : ∃ l : List Int, x = .snap 1 (l.map iv) ∧ wfI l := by
  obtain ⟨h1, xs, e1, hlen, r3⟩ := h
  have hm : maxLen ≤ 9223372036854775807 := by decide
  obtain ⟨l, rfl, hl⟩ := Ints_list r3
  cases x <;> simp [isAgg, Ty.isS, cellsOf] at h1 e1
  rw [e1.1, e1.2]
  exact ⟨l, rfl, hl, by simp only [List.length_map] at hlen; exact Nat.le_trans hlen hm⟩
abbrev k30_o0 : List AJ := [.o ⟨(some 2), none, false, .mv (.c .nilsl), (some [0])⟩]
abbrev k30_o1 : List AJ := [.o ⟨(some 5), none, false, .mv (.t 0), none⟩, .o ⟨(some 6), none, false, .len (.t 5), none⟩, .o ⟨(some 7), none, false, .mksl 1 8 (.int .i64 0) (.t 6) (.t 6), none⟩, .o ⟨(some 3), none, false, .mv (.t 7), (some [0, 3])⟩]
abbrev k30_o2 : List AJ := [.o ⟨(some 4), none, false, .mv (.c (.int .i64 0)), (some [0, 3, 4])⟩]
abbrev k30_o3 : List AJ := [.o ⟨(some 8), none, false, .mv (.t 4), none⟩, .o ⟨(some 9), none, false, .mv (.t 0), none⟩, .o ⟨(some 10), none, false, .len (.t 9), none⟩, .o ⟨(some 11), none, false, .bin .lss (.t 8) (.t 10), (some [0, 3, 4, 11])⟩]
def k30_4 : ACode := .cond (.t 11) .skip (.exit 0)
def k30_5 : ACode := .seq (.region k30_o3) k30_4
abbrev k30_o4 : List AJ := [.o ⟨(some 14), none, false, .mv (.t 3), none⟩, .o ⟨(some 15), none, false, .mv (.t 4), none⟩, .o ⟨(some 16), none, false, .mv (.t 0), none⟩, .o ⟨(some 17), none, false, .mv (.t 4), none⟩, .o ⟨(some 18), none, false, .idxA 1 (.t 16) (.t 17), none⟩, .o ⟨(some 19), none, false, .load 1 false (.t 18), none⟩, .o ⟨(some 20), none, false, .idxA 1 (.t 14) (.t 15), none⟩, .o ⟨none, none, false, .store 1 (.t 20) (.t 19), (some [0, 3, 4])⟩]
def k30_6 : ACode := .region k30_o4
abbrev k30_o5 : List AJ := [.o ⟨(some 12), none, false, .mv (.t 4), none⟩, .o ⟨(some 13), none, true, .bin .add (.t 12) (.c (.int .i64 1)), none⟩, .o ⟨(some 4), none, false, .mv (.t 13), (some [0, 3, 4])⟩]
def k30_8 : ACode := .region k30_o5
def k30_9 : ACode := .seq (.block 1 k30_6) k30_8
def k30_10 : ACode := .seq k30_5 k30_9
def k30_11 : ACode := .loop k30_10
def k30_12 : ACode := .block 0 k30_11
def k30_13 : ACode := .seq (.region k30_o2) k30_12
abbrev k30_o6 : List AJ := [.o ⟨(some 21), none, false, .mv (.t 3), none⟩, .o ⟨(some 2), none, false, .mv (.t 21), (some [2])⟩]
def k30_15 : ACode := .seq (.region k30_o6) .ret
def k30_16 : ACode := .seq k30_13 k30_15
def k30_17 : ACode := .seq (.region k30_o1) k30_16
def k30_18 : ACode := .seq (.region k30_o0) k30_17
@[simp, simp ↓] theorem k30_4r : rC k30_4 (.t 11) .skip (.exit 0) := zC rfl
@[simp, simp ↓] theorem k30_5r : sR k30_5 k30_o3 k30_4 := yR rfl
@[simp, simp ↓] theorem k30_6r : rR k30_6 k30_o4 := zR rfl
@[simp, simp ↓] theorem k30_8r : rR k30_8 k30_o5 := zR rfl
@[simp, simp ↓] theorem k30_9r : sB k30_9 1 k30_6 k30_8 := yB rfl
@[simp, simp ↓] theorem k30_10r : rS k30_10 k30_5 k30_9 := zS rfl
@[simp, simp ↓] theorem k30_11r : rL k30_11 k30_10 := zL rfl
@[simp, simp ↓] theorem k30_12r : rB k30_12 0 k30_11 := zB rfl
@[simp, simp ↓] theorem k30_13r : sR k30_13 k30_o2 k30_12 := yR rfl
@[simp, simp ↓] theorem k30_15r : sR k30_15 k30_o6 .ret := yR rfl
@[simp, simp ↓] theorem k30_16r : rS k30_16 k30_13 k30_15 := zS rfl
@[simp, simp ↓] theorem k30_17r : sR k30_17 k30_o1 k30_16 := yR rfl
@[simp, simp ↓] theorem k30_18r : sR k30_18 k30_o0 k30_17 := yR rfl
noncomputable abbrev k30_C : Orc → Cx := mkC Tryd.prog [] 30 22 [.tmp 2]
theorem k30_of0 : OfP0 Tryd.prog Tryd.f30 30 22 k30_C k30_18 := @ofP0 _ _ _ _ _ _ _ _ Tryd.func30 (by decide +kernel) rfl (by kernel_rfl) rfl (by kernel_rfl)
theorem toInt64S_w (l : List Int) (h : Heap) (hl : l.length ≤ 1048576) : ACalls Tryd.prog 30 [.snap 1 (l.map iv)] h (fun v h' => ∃ id, id ∉ dom h ∧ v = .sl id 1 0 l.length (some l.length) ∧ h' = (id, ⟨1, l.map iv⟩) :: h) := by
  refine k30_of0 rfl noPure fun I => ?_
  refine Run2.of I 1000 ?_
  simp -implicitDefEqProofs
  refine ⟨by omega, fun id hid => ?_⟩
  refine Run2.loop (fun i => [(0, .snap 1 (l.map iv)), (3, .sl id 1 0 l.length (some l.length)), (4, .int .i64 (i : Nat))]) (fun i => (id, ⟨1, (l.map iv).take i ++ List.replicate (l.length - i) (iv 0)⟩) :: h) (fun i => l.length - i) (fun i => i ≤ l.length) 0 (Nat.zero_le _) fun i hi ih => ?_
  by_cases hlt : i < l.length
  · refine Run2.of I 1000 ?_
    simp -implicitDefEqProofs [hlt]
    refine ⟨by omega, by omega, ?_⟩
    have := ih (i + 1) (by omega) (by omega)
    rwa [← set_fill (l.map iv) (iv 0) (i := i) (n := l.length) (by simp) (by simpa using hlt) (x := .int .i64 l[i]) (by simp)] at this
  · obtain rfl : i = l.length := by omega
    refine Run2.of I 1000 ?_
    simp -implicitDefEqProofs
    refine ⟨id, hid, rfl, ?_⟩
    rw [List.take_of_length_le (by simp)]
theorem toInt64S_c (l : List Int) (h : Heap) (hl : l.length ≤ 1048576) : ACalls Tryd.prog 30 [.snap 1 (l.map iv)] h (fun v h' => v = .snap 1 (l.map iv) ∧ h' = h) := by
  refine ACalls.post ((toInt64S_w l h hl).mono ?_)
  rintro v h' ⟨id, hid, rfl, rfl⟩
  refine .freeze id (by simp; rfl) (.base ?_)
  simp [List.take_of_length_le]
noncomputable def o_toInt64S : List AV → Option (Prop × AV) := tab (fun (x : List Int) => match x with | l => [.snap 1 (l.map iv)]) (fun x => match x with | l => l.length ≤ 1048576) (fun x => match x with | l => .snap 1 (l.map iv))
@[simp] theorem o_toInt64S_e (l : List Int) : o_toInt64S [.snap 1 (l.map iv)] = some (l.length ≤ 1048576, .snap 1 (l.map iv)) := tab_at (enc := fun (x : List Int) => match x with | l => [.snap 1 (l.map iv)]) (fun x y h => by
  simp at h; simp [h] <;> omega) _ _ l
theorem o_toInt64S_k : Knows Tryd.prog 30 o_toInt64S := tab_knows fun x hx h => by
  exact toInt64S_c x h hx
abbrev k35_o0 : List AJ := [.o ⟨(some 4), none, false, .mv (.c (.bool false)), (some [0, 1])⟩]
abbrev k35_o1 : List AJ := [.o ⟨(some 6), none, false, .mv (.t 0), none⟩, .o ⟨(some 7), none, false, .len (.t 6), none⟩, .o ⟨(some 8), none, false, .mv (.t 1), none⟩, .o ⟨(some 9), none, false, .len (.t 8), none⟩, .o ⟨(some 10), none, false, .bin .neq (.t 7) (.t 9), (some [0, 1, 10])⟩]
abbrev k35_o2 : List AJ := [.o ⟨(some 4), none, false, .mv (.c (.bool false)), (some [4])⟩]
def k35_3 : ACode := .seq (.region k35_o2) .ret
def k35_4 : ACode := .cond (.t 10) k35_3 .skip
def k35_5 : ACode := .seq (.region k35_o1) k35_4
abbrev k35_o3 : List AJ := [.o ⟨(some 5), none, false, .mv (.c (.int .i64 0)), (some [0, 1, 5])⟩]
abbrev k35_o4 : List AJ := [.o ⟨(some 11), none, false, .mv (.t 5), none⟩, .o ⟨(some 12), none, false, .mv (.t 0), none⟩, .o ⟨(some 13), none, false, .len (.t 12), none⟩, .o ⟨(some 14), none, false, .bin .lss (.t 11) (.t 13), (some [0, 1, 5, 14])⟩]
def k35_8 : ACode := .cond (.t 14) .skip (.exit 0)
def k35_9 : ACode := .seq (.region k35_o4) k35_8
abbrev k35_o5 : List AI := [⟨(some 17), none, false, .mv (.t 0), none⟩, ⟨(some 18), none, false, .mv (.t 5), none⟩, ⟨(some 19), none, false, .idxA 1 (.t 17) (.t 18), none⟩, ⟨(some 20), none, false, .load 1 false (.t 19), none⟩, ⟨(some 21), none, false, .mv (.t 1), none⟩, ⟨(some 22), none, false, .mv (.t 5), none⟩, ⟨(some 23), none, false, .idxA 1 (.t 21) (.t 22), none⟩, ⟨(some 24), none, false, .load 1 false (.t 23), none⟩, ⟨(some 25), none, false, .bin .neq (.t 20) (.t 24), (some [0, 1, 5, 25])⟩]
abbrev k35_o6 : List AJ := [.o ⟨(some 4), none, false, .mv (.c (.bool false)), (some [4])⟩]
def k35_12 : ACode := .seq (.region k35_o6) .ret
def k35_13 : ACode := .cond (.t 25) k35_12 .skip
def k35_14 : ACode := .seq (.draw k35_o5 [] rfl) k35_13
abbrev k35_o7 : List AJ := [.o ⟨(some 15), none, false, .mv (.t 5), none⟩, .o ⟨(some 16), none, true, .bin .add (.t 15) (.c (.int .i64 1)), none⟩, .o ⟨(some 5), none, false, .mv (.t 16), (some [0, 1, 5])⟩]
def k35_16 : ACode := .region k35_o7
def k35_17 : ACode := .seq (.block 1 k35_14) k35_16
def k35_18 : ACode := .seq k35_9 k35_17
def k35_19 : ACode := .loop k35_18
def k35_20 : ACode := .block 0 k35_19
def k35_21 : ACode := .seq (.region k35_o3) k35_20
abbrev k35_o8 : List AJ := [.o ⟨(some 4), none, false, .mv (.c (.bool true)), (some [4])⟩]
def k35_23 : ACode := .seq (.region k35_o8) .ret
def k35_24 : ACode := .seq k35_21 k35_23
def k35_25 : ACode := .seq k35_5 k35_24
def k35_26 : ACode := .seq (.region k35_o0) k35_25
@[simp, simp ↓] theorem k35_3r : sR k35_3 k35_o2 .ret := yR rfl
@[simp, simp ↓] theorem k35_4r : rC k35_4 (.t 10) k35_3 .skip := zC rfl
@[simp, simp ↓] theorem k35_5r : sR k35_5 k35_o1 k35_4 := yR rfl
@[simp, simp ↓] theorem k35_8r : rC k35_8 (.t 14) .skip (.exit 0) := zC rfl
@[simp, simp ↓] theorem k35_9r : sR k35_9 k35_o4 k35_8 := yR rfl
@[simp, simp ↓] theorem k35_12r : sR k35_12 k35_o6 .ret := yR rfl
@[simp, simp ↓] theorem k35_13r : rC k35_13 (.t 25) k35_12 .skip := zC rfl
@[simp, simp ↓] theorem k35_14r : sD k35_14 k35_o5 [] k35_13 := yD rfl
@[simp, simp ↓] theorem k35_16r : rR k35_16 k35_o7 := zR rfl
@[simp, simp ↓] theorem k35_17r : sB k35_17 1 k35_14 k35_16 := yB rfl
@[simp, simp ↓] theorem k35_18r : rS k35_18 k35_9 k35_17 := zS rfl
@[simp, simp ↓] theorem k35_19r : rL k35_19 k35_18 := zL rfl
@[simp, simp ↓] theorem k35_20r : rB k35_20 0 k35_19 := zB rfl
@[simp, simp ↓] theorem k35_21r : sR k35_21 k35_o3 k35_20 := yR rfl
@[simp, simp ↓] theorem k35_23r : sR k35_23 k35_o8 .ret := yR rfl
@[simp, simp ↓] theorem k35_24r : rS k35_24 k35_21 k35_23 := zS rfl
@[simp, simp ↓] theorem k35_25r : rS k35_25 k35_5 k35_24 := zS rfl
@[simp, simp ↓] theorem k35_26r : sR k35_26 k35_o0 k35_25 := yR rfl
noncomputable abbrev k35_C : Orc → Cx := mkC Tryd.prog [] 35 26 [.tmp 4]
theorem k35_of0 : OfP0 Tryd.prog Tryd.f35 35 26 k35_C k35_26 := @ofP0 _ _ _ _ _ _ _ _ Tryd.func35 (by decide +kernel) rfl (by kernel_rfl) rfl (by kernel_rfl)
theorem eqInt64S_s (l m : List Int) (h : Heap) (hl : l.length ≤ 1048576) : ACalls Tryd.prog 35 [.snap 1 (l.map iv), .snap 1 (m.map iv)] h (fun v h' => v = .bool (decide (l = m)) ∧ h' = h) := by
  refine k35_of0 rfl noPure fun I => ?_
  refine Run2.of I 1000 ?_
  simp -implicitDefEqProofs
  refine ⟨by rintro hne rfl; exact hne rfl, fun hlen => ?_⟩
  refine Run2.loop (fun i => [(0, .snap 1 (l.map iv)), (1, .snap 1 (m.map iv)), (5, .int .i64 (i : Nat))]) (fun i => h) (fun i => l.length - i) (fun i => i ≤ l.length ∧ l.take i = m.take i) 0 (by simp) fun i hi ih => ?_
  by_cases hlt : i < l.length
  · have hlt' : i < m.length := by omega
    refine Run2.of I 1000 ?_
    simp -implicitDefEqProofs [hlt, hlt']
    constructor
    · rintro hne rfl
      exact hne rfl
    · intro he
      refine ⟨by omega, ?_⟩
      have := ih (i + 1) ⟨by omega, by rw [List.take_succ_eq_append_getElem hlt, List.take_succ_eq_append_getElem hlt', hi.2, he]⟩ (by omega)
      simpa using this
  · refine Run2.of I 1000 ?_
    simp -implicitDefEqProofs [hlt]
    have : i = l.length := by omega
    have h2 := hi.2
    rw [List.take_of_length_le (by omega), List.take_of_length_le (by omega)] at h2
    exact h2
theorem eqInt64S_c (u v : AV) (h : Heap) (hu : isInts u) (hv : isInts v) (hl : (intsOf u).length ≤ 1048576) : ACalls Tryd.prog 35 [u, v] h (fun r h' => r = .bool (decide (intsOf u = intsOf v)) ∧ h' = h) :=
  (eqInt64S_s _ _ h hl).wk (.cons (.ints hu) (.cons (.ints hv) .nil))
noncomputable def o_eqInt64S : List AV → Option (Prop × AV) := tab (fun (x : AV × AV) => match x with | (u, v) => [u, v]) (fun x => match x with | (u, v) => ((isInts u ∧ isInts v) ∧ (intsOf u).length ≤ 1048576)) (fun x => match x with | (u, v) => .bool (decide (intsOf u = intsOf v)))
@[simp] theorem o_eqInt64S_e (u : AV) (v : AV) : o_eqInt64S [u, v] = some (((isInts u ∧ isInts v) ∧ (intsOf u).length ≤ 1048576), .bool (decide (intsOf u = intsOf v))) := tab_at (enc := fun (x : AV × AV) => match x with | (u, v) => [u, v]) (fun x y h => by
  obtain ⟨u1, v1⟩ := x; obtain ⟨u2, v2⟩ := y; simp at h; simp [h] <;> omega) _ _ (u, v)
theorem o_eqInt64S_k : Knows Tryd.prog 35 o_eqInt64S := tab_knows fun x hx h => by
  obtain ⟨u, v⟩ := x; exact eqInt64S_c u v h hx.1.1 hx.1.2 hx.2
/-- The marks that follow on k. -/
def marks (k : Int) (n : Nat) : List Int := (List.range n).map fun i => k + (i : Nat)
@[simp] theorem marks_length (k : Int) (n : Nat) : (marks k n).length = n := by simp [marks]
theorem marks_succ (k : Int) (n : Nat) : marks k (n + 1) = marks k n ++ [k + n] := by simp [marks, List.range_succ]
theorem marks_get (k : Int) (n i : Nat) (h : i < (marks k n).length) : (marks k n)[i] = k + i := by simp [marks]
theorem mark_step (l : List Int) (ex : List AV) (k : Int) (i : Nat) (hi : i < l.length) : ((marks k i).map iv ++ (l.drop i).map iv ++ ex).set i (.int .i64 (k + i)) = (marks k (i + 1)).map iv ++ (l.drop (i + 1)).map iv ++ ex := by
  rw [List.drop_eq_getElem_cons hi, marks_succ]
  simp only [List.map_cons, List.map_append, List.map_nil, List.append_assoc, List.cons_append, List.nil_append]
  rw [List.set_append_right _ _ (by simp)]
  simp
theorem toInt64S_o (l : List Int) (h : Heap) (hl : l.length ≤ 1048576) : ACalls Tryd.prog 30 [.snap 1 (l.map iv)] h (fun v h' => ∃ h1, OwnL iv 1 v l h1 ∧ (∀ i ∈ dom h1, i ∉ dom h) ∧ h' = h1 ++ h) :=
  (toInt64S_w l h hl).mono fun v h' ⟨id, h1, h2, h3⟩ => ⟨[(id, ⟨1, l.map iv ++ []⟩)], h2 ▸ .sl id _ [] rfl, by simpa [dom] using h1, by simpa using h3⟩
/-! ## In the laws: with other memory about -/
theorem eqI_own {w u : AV} {l m : List Int} {g h : Heap} (o : OwnL iv 1 w l g) (hu : IsL iv 1 u m) (hs : ∀ p ∈ g, p ∈ h) (hl : l.length ≤ 1048576) : ACalls Tryd.prog 35 [w, u] h (fun r h' => r = .bool (decide (l = m)) ∧ h' = h) := by
  refine ACalls.reads g hs ?_ rfl
  rw [lend_cons, lend_cons, lend_nil', lend1_cold g (hu.cold cold_iv1)]
  exact ACalls.wk (.cons o.lent.wk (.cons hu.wk .nil)) (eqInt64S_s l m [] hl)
end Go.AG
