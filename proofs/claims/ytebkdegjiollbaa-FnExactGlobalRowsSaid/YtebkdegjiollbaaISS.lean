/- What the set's own helpers of slices of slices of whole numbers do: they copy, compare, count, mark. No statement is made here. -/
import Derived.Test.YtebkdegjiollbaaIntS
import Derived.Test.YtebkdegjiollbaaAGLists
namespace Go.AG
open Go.Proofs Go.Proofs.Ytebkdegjiollbaa
set_option linter.unusedSimpArgs false
set_option linter.unusedVariables false
set_option maxRecDepth 4000
abbrev LS := List (List Int)
def wfSS (rs : List (List Int)) : Prop := (∀ r ∈ rs, wfI r) ∧ rs.length ≤ 9223372036854775807
theorem Lists_list : ∀ {xs : List AV}, (∀ x ∈ xs, isAgg x = (Ty.slice (.int .i64)).isS ∧ shC (.slice (.int .i64)) (cellsOf x)) → ∃ rs : List (List Int), xs = rs.map il ∧ ∀ r ∈ rs, wfI r
  | [], _ => ⟨[], rfl, by simp⟩
  | x :: xs, h => by
    obtain ⟨r, rfl, hr⟩ := Ints_of_shape (h x (List.mem_cons_self ..))
    obtain ⟨rs, rfl, hrs⟩ := Lists_list (xs := xs) fun y hy => h y (List.mem_cons_of_mem _ hy)
    exact ⟨r :: rs, rfl, by simpa using ⟨hr, hrs⟩⟩
def tySS : Ty := .slice (.slice (.int .i64))
theorem Lists_of_shape {x : AV} (h : shV tySS x) : ∃ rs : List (List Int), x = .snap 1 (rs.map il) ∧ wfSS rs := by
  obtain ⟨h1, xs, e1, hlen, r3⟩ := h
  have hm : maxLen ≤ 9223372036854775807 := by decide
  obtain ⟨rs, rfl, hl⟩ := Lists_list r3
  cases x <;> simp [isAgg, tySS, Ty.isS, cellsOf] at h1 e1
  rw [e1.1, e1.2]
  exact ⟨rs, rfl, hl, by simp only [List.length_map] at hlen; exact Nat.le_trans hlen hm⟩
/-- As many as the laws allow. -/
def fitSS (rs : List (List Int)) : Prop := rs.length ≤ 1048576 ∧ ∀ r ∈ rs, r.length ≤ 1048576
noncomputable def orcI1 : List (Nat × (List AV → Option (Prop × AV))) := (82, o_toInt64S) :: (26, o_eqInt64S) :: []
theorem orcI1_p : Pure Try.prog (lk orcI1) := (lk_pure o_toInt64S_k (lk_pure o_eqInt64S_k lk_pure0))
@[simp] theorem orcI1_l (b : Bool) (g : FuncId) (l : List AV) : lk orcI1 b g l = if g = 82 then o_toInt64S l else if g = 26 then o_eqInt64S l else none := nr rfl
abbrev k38_o0 : List AJ := [.o ⟨(some 2), none, false, .mv (.c .nilsl), (some [0])⟩]
abbrev k38_o1 : List AJ := [.o ⟨(some 5), none, false, .mv (.t 0), none⟩, .o ⟨(some 6), none, false, .len (.t 5), none⟩, .o ⟨(some 7), none, false, .mksl 1 24 .nilsl (.t 6) (.t 6), none⟩, .o ⟨(some 3), none, false, .mv (.t 7), (some [0, 3])⟩]
abbrev k38_o2 : List AJ := [.o ⟨(some 4), none, false, .mv (.c (.int .i64 0)), (some [0, 3, 4])⟩]
abbrev k38_o3 : List AJ := [.o ⟨(some 8), none, false, .mv (.t 4), none⟩, .o ⟨(some 9), none, false, .mv (.t 0), none⟩, .o ⟨(some 10), none, false, .len (.t 9), none⟩, .o ⟨(some 11), none, false, .bin .lss (.t 8) (.t 10), (some [0, 3, 4, 11])⟩]
def k38_4 : ACode := .cond (.t 11) .skip (.exit 0)
def k38_5 : ACode := .seq (.region k38_o3) k38_4
abbrev k38_o4 : List AJ := [.o ⟨(some 14), none, false, .mv (.t 3), none⟩, .o ⟨(some 15), none, false, .mv (.t 4), none⟩, .o ⟨(some 16), none, false, .mv (.t 0), none⟩, .o ⟨(some 17), none, false, .mv (.t 4), none⟩, .o ⟨(some 18), none, false, .idxA 1 (.t 16) (.t 17), none⟩, .o ⟨(some 19), none, false, .load 1 false (.t 18), none⟩, .o ⟨(some 20), none, false, .call 82 [(.t 19)], none⟩, .o ⟨(some 21), none, false, .idxA 1 (.t 14) (.t 15), none⟩, .o ⟨none, none, false, .store 1 (.t 21) (.t 20), (some [0, 3, 4])⟩]
def k38_6 : ACode := .region k38_o4
abbrev k38_o5 : List AJ := [.o ⟨(some 12), none, false, .mv (.t 4), none⟩, .o ⟨(some 13), none, true, .bin .add (.t 12) (.c (.int .i64 1)), none⟩, .o ⟨(some 4), none, false, .mv (.t 13), (some [0, 3, 4])⟩]
def k38_8 : ACode := .region k38_o5
def k38_9 : ACode := .seq (.block 1 k38_6) k38_8
def k38_10 : ACode := .seq k38_5 k38_9
def k38_11 : ACode := .loop k38_10
def k38_12 : ACode := .block 0 k38_11
def k38_13 : ACode := .seq (.region k38_o2) k38_12
abbrev k38_o6 : List AJ := [.o ⟨(some 22), none, false, .mv (.t 3), none⟩, .o ⟨(some 2), none, false, .mv (.t 22), (some [2])⟩]
def k38_15 : ACode := .seq (.region k38_o6) .ret
def k38_16 : ACode := .seq k38_13 k38_15
def k38_17 : ACode := .seq (.region k38_o1) k38_16
def k38_18 : ACode := .seq (.region k38_o0) k38_17
@[simp, simp ↓] theorem k38_4r : rC k38_4 (.t 11) .skip (.exit 0) := zC rfl
@[simp, simp ↓] theorem k38_5r : sR k38_5 k38_o3 k38_4 := yR rfl
@[simp, simp ↓] theorem k38_6r : rR k38_6 k38_o4 := zR rfl
@[simp, simp ↓] theorem k38_8r : rR k38_8 k38_o5 := zR rfl
@[simp, simp ↓] theorem k38_9r : sB k38_9 1 k38_6 k38_8 := yB rfl
@[simp, simp ↓] theorem k38_10r : rS k38_10 k38_5 k38_9 := zS rfl
@[simp, simp ↓] theorem k38_11r : rL k38_11 k38_10 := zL rfl
@[simp, simp ↓] theorem k38_12r : rB k38_12 0 k38_11 := zB rfl
@[simp, simp ↓] theorem k38_13r : sR k38_13 k38_o2 k38_12 := yR rfl
@[simp, simp ↓] theorem k38_15r : sR k38_15 k38_o6 .ret := yR rfl
@[simp, simp ↓] theorem k38_16r : rS k38_16 k38_13 k38_15 := zS rfl
@[simp, simp ↓] theorem k38_17r : sR k38_17 k38_o1 k38_16 := yR rfl
@[simp, simp ↓] theorem k38_18r : sR k38_18 k38_o0 k38_17 := yR rfl
noncomputable abbrev k38_C : Orc → Cx := mkC Try.prog [] 38 23 [.tmp 2]
theorem k38_of : OfP Try.prog Try.f38 38 23 k38_C k38_18 := @ofP _ _ _ _ _ _ _ _ Try.func38 (by decide +kernel) rfl (by kernel_rfl) rfl (by kernel_rfl)
theorem k38_of0 : OfP0 Try.prog Try.f38 38 23 k38_C k38_18 := @ofP0 _ _ _ _ _ _ _ _ Try.func38 (by decide +kernel) rfl (by kernel_rfl) rfl (by kernel_rfl)
theorem toInt64SS_c (rs : List (List Int)) (h : Heap) (hl : fitSS rs) : ACalls Try.prog 38 [.snap 1 (rs.map il)] h (fun v h' => v = .snap 1 (rs.map il) ∧ h' = h) := by
  have hn := hl.1
  refine k38_of rfl orcI1_p fun I => ?_
  refine Run2.of I 1000 ?_
  simp -implicitDefEqProofs
  refine ⟨by omega, fun id hid => ?_⟩
  refine Run2.loop (fun i => [(0, .snap 1 (rs.map il)), (3, .sl id 1 0 rs.length (some rs.length)), (4, .int .i64 (i : Nat))]) (fun i => (id, ⟨1, (rs.map il).take i ++ List.replicate (rs.length - i) .nilsl⟩) :: h) (fun i => rs.length - i) (fun i => i ≤ rs.length) 0 (Nat.zero_le _) fun i hi ih => ?_
  by_cases hlt : i < rs.length
  · have hr := hl.2 _ (List.getElem_mem hlt)
    have go := ih (i + 1) (by omega) (by omega)
    rw [← set_fill (rs.map il) .nilsl (i := i) (n := rs.length) (by simp) (by simpa using hlt) (x := il rs[i]) (by simp)] at go
    clear ih
    refine Run2.of I 1000 ?_
    simp -implicitDefEqProofs [hlt, hr]
    refine ⟨by omega, by omega, ?_⟩
    simpa using go
  · obtain rfl : i = rs.length := by omega
    refine Run2.of I 1000 ?_
    simp -implicitDefEqProofs
    rw [List.take_of_length_le (by simp)]
    refine .freeze id (by simp [hget]; rfl) (.base ⟨?_, by simp [hdel]⟩)
    simp [fz, List.take_of_length_le]
noncomputable def o_toInt64SS : List AV → Option (Prop × AV) := tab (fun (x : LS) => match x with | rs => [.snap 1 (rs.map il)]) (fun x => match x with | rs => fitSS rs) (fun x => match x with | rs => .snap 1 (rs.map il))
@[simp] theorem o_toInt64SS_e (rs : LS) : o_toInt64SS [.snap 1 (rs.map il)] = some (fitSS rs, .snap 1 (rs.map il)) := tab_at (enc := fun (x : LS) => match x with | rs => [.snap 1 (rs.map il)]) (fun x y h => by
  simp at h; simp [h] <;> omega) _ _ rs
theorem o_toInt64SS_k : Knows Try.prog 38 o_toInt64SS := tab_knows fun x hx h => by
  exact toInt64SS_c x h hx
abbrev k79_o0 : List AJ := [.o ⟨(some 4), none, false, .mv (.c (.int .i64 0)), (some [0, 1])⟩]
abbrev k79_o1 : List AJ := [.o ⟨(some 5), none, false, .mv (.t 1), none⟩, .o ⟨(some 6), none, false, .mv (.t 0), none⟩, .o ⟨(some 7), none, false, .len (.t 6), none⟩, .o ⟨(some 8), none, true, .bin .sub (.t 5) (.t 7), none⟩, .o ⟨(some 1), none, false, .mv (.t 8), (some [1])⟩]
abbrev k79_o2 : List AJ := [.o ⟨(some 9), none, false, .mv (.t 1), none⟩, .o ⟨(some 10), none, false, .bin .lss (.t 9) (.c (.int .i64 0)), (some [1, 10])⟩]
abbrev k79_o3 : List AJ := [.o ⟨(some 4), none, false, .mv (.c (.int .i64 (-1))), (some [4])⟩]
def k79_4 : ACode := .seq (.region k79_o3) .ret
def k79_5 : ACode := .cond (.t 10) k79_4 .skip
def k79_6 : ACode := .seq (.region k79_o2) k79_5
abbrev k79_o4 : List AJ := [.o ⟨(some 11), none, false, .mv (.t 1), none⟩, .o ⟨(some 4), none, false, .mv (.t 11), (some [4])⟩]
def k79_8 : ACode := .seq (.region k79_o4) .ret
def k79_9 : ACode := .seq k79_6 k79_8
def k79_10 : ACode := .seq (.region k79_o1) k79_9
def k79_11 : ACode := .seq (.region k79_o0) k79_10
@[simp, simp ↓] theorem k79_4r : sR k79_4 k79_o3 .ret := yR rfl
@[simp, simp ↓] theorem k79_5r : rC k79_5 (.t 10) k79_4 .skip := zC rfl
@[simp, simp ↓] theorem k79_6r : sR k79_6 k79_o2 k79_5 := yR rfl
@[simp, simp ↓] theorem k79_8r : sR k79_8 k79_o4 .ret := yR rfl
@[simp, simp ↓] theorem k79_9r : rS k79_9 k79_6 k79_8 := zS rfl
@[simp, simp ↓] theorem k79_10r : sR k79_10 k79_o1 k79_9 := yR rfl
@[simp, simp ↓] theorem k79_11r : sR k79_11 k79_o0 k79_10 := yR rfl
noncomputable abbrev k79_C : Orc → Cx := mkC Try.prog [] 79 12 [.tmp 4]
theorem k79_of0 : OfP0 Try.prog Try.f79 79 12 k79_C k79_11 := @ofP0 _ _ _ _ _ _ _ _ Try.func79 (by decide +kernel) rfl (by kernel_rfl) rfl (by kernel_rfl)
theorem szInt64S_c (l : List Int) (n : Int) (h : Heap) (hn : 0 ≤ n ∧ n ≤ 1048576) (hl : l.length ≤ 9223372036854775807) : ACalls Try.prog 79 [.snap 1 (l.map iv), .int .i64 n] h (fun v h' => v = .int .i64 (if n < l.length then -1 else n - l.length) ∧ h' = h) := by
  refine k79_of0 rfl noPure fun I => ?_
  refine Run2.of I 1000 ?_
  simp -implicitDefEqProofs
  grind
def sumL (rs : List (List Int)) : Nat := (rs.map List.length).sum
def ssTot (rs : List (List Int)) : Nat := rs.length + sumL rs
theorem sumL_take (rs : List (List Int)) {i : Nat} (hi : i < rs.length) : sumL (rs.take (i + 1)) = sumL (rs.take i) + rs[i].length := by
  unfold sumL
  rw [List.take_succ_eq_append_getElem hi, List.map_append, List.sum_append]
  simp
theorem sumL_le (rs : List (List Int)) (i : Nat) : sumL (rs.take i) ≤ sumL rs := by
  conv => rhs; rw [← List.take_append_drop i rs]
  unfold sumL
  rw [List.map_append, List.sum_append]
  omega
theorem len_sumL {rs : List (List Int)} {r : List Int} (h : r ∈ rs) : r.length ≤ sumL rs := by
  obtain ⟨i, hi, rfl⟩ := List.mem_iff_getElem.1 h
  have := sumL_take rs hi
  have := sumL_le rs (i + 1)
  omega
theorem fit_of_tot {rs : List (List Int)} (h : ssTot rs ≤ 1048576) : fitSS rs := ⟨by unfold ssTot at h; omega, fun r hr => by have := len_sumL hr; unfold ssTot at h; omega⟩
abbrev k36_o0 : List AJ := [.o ⟨(some 4), none, false, .mv (.c (.int .i64 0)), (some [0, 1])⟩]
abbrev k36_o1 : List AJ := [.o ⟨(some 6), none, false, .mv (.t 1), none⟩, .o ⟨(some 7), none, false, .mv (.t 0), none⟩, .o ⟨(some 8), none, false, .len (.t 7), none⟩, .o ⟨(some 9), none, true, .bin .sub (.t 6) (.t 8), none⟩, .o ⟨(some 1), none, false, .mv (.t 9), (some [0, 1])⟩]
abbrev k36_o2 : List AJ := [.o ⟨(some 10), none, false, .mv (.t 1), none⟩, .o ⟨(some 11), none, false, .bin .lss (.t 10) (.c (.int .i64 0)), (some [0, 1, 11])⟩]
abbrev k36_o3 : List AJ := [.o ⟨(some 4), none, false, .mv (.c (.int .i64 (-1))), (some [4])⟩]
def k36_4 : ACode := .seq (.region k36_o3) .ret
def k36_5 : ACode := .cond (.t 11) k36_4 .skip
def k36_6 : ACode := .seq (.region k36_o2) k36_5
abbrev k36_o4 : List AJ := [.o ⟨(some 5), none, false, .mv (.c (.int .i64 0)), (some [0, 1, 5])⟩]
abbrev k36_o5 : List AJ := [.o ⟨(some 12), none, false, .mv (.t 5), none⟩, .o ⟨(some 13), none, false, .mv (.t 0), none⟩, .o ⟨(some 14), none, false, .len (.t 13), none⟩, .o ⟨(some 15), none, false, .bin .lss (.t 12) (.t 14), (some [0, 1, 5, 15])⟩]
def k36_9 : ACode := .cond (.t 15) .skip (.exit 0)
def k36_10 : ACode := .seq (.region k36_o5) k36_9
abbrev k36_o6 : List AJ := [.o ⟨(some 18), none, false, .mv (.t 0), none⟩, .o ⟨(some 19), none, false, .mv (.t 5), none⟩, .o ⟨(some 20), none, false, .idxA 1 (.t 18) (.t 19), none⟩, .o ⟨(some 21), none, false, .load 1 false (.t 20), none⟩, .o ⟨(some 22), none, false, .mv (.t 1), none⟩, .o ⟨(some 23), none, false, .call 79 [(.t 21), (.t 22)], none⟩, .o ⟨(some 1), none, false, .mv (.t 23), (some [0, 1, 5])⟩]
abbrev k36_o7 : List AJ := [.o ⟨(some 24), none, false, .mv (.t 1), none⟩, .o ⟨(some 25), none, false, .bin .lss (.t 24) (.c (.int .i64 0)), (some [0, 1, 5, 25])⟩]
abbrev k36_o8 : List AJ := [.o ⟨(some 4), none, false, .mv (.c (.int .i64 (-1))), (some [4])⟩]
def k36_14 : ACode := .seq (.region k36_o8) .ret
def k36_15 : ACode := .cond (.t 25) k36_14 .skip
def k36_16 : ACode := .seq (.region k36_o7) k36_15
def k36_17 : ACode := .seq (.region k36_o6) k36_16
abbrev k36_o9 : List AJ := [.o ⟨(some 16), none, false, .mv (.t 5), none⟩, .o ⟨(some 17), none, true, .bin .add (.t 16) (.c (.int .i64 1)), none⟩, .o ⟨(some 5), none, false, .mv (.t 17), (some [0, 1, 5])⟩]
def k36_19 : ACode := .region k36_o9
def k36_20 : ACode := .seq (.block 1 k36_17) k36_19
def k36_21 : ACode := .seq k36_10 k36_20
def k36_22 : ACode := .loop k36_21
def k36_23 : ACode := .block 0 k36_22
def k36_24 : ACode := .seq (.region k36_o4) k36_23
abbrev k36_o10 : List AJ := [.o ⟨(some 26), none, false, .mv (.t 1), none⟩, .o ⟨(some 4), none, false, .mv (.t 26), (some [4])⟩]
def k36_26 : ACode := .seq (.region k36_o10) .ret
def k36_27 : ACode := .seq k36_24 k36_26
def k36_28 : ACode := .seq k36_6 k36_27
def k36_29 : ACode := .seq (.region k36_o1) k36_28
def k36_30 : ACode := .seq (.region k36_o0) k36_29
@[simp, simp ↓] theorem k36_4r : sR k36_4 k36_o3 .ret := yR rfl
@[simp, simp ↓] theorem k36_5r : rC k36_5 (.t 11) k36_4 .skip := zC rfl
@[simp, simp ↓] theorem k36_6r : sR k36_6 k36_o2 k36_5 := yR rfl
@[simp, simp ↓] theorem k36_9r : rC k36_9 (.t 15) .skip (.exit 0) := zC rfl
@[simp, simp ↓] theorem k36_10r : sR k36_10 k36_o5 k36_9 := yR rfl
@[simp, simp ↓] theorem k36_14r : sR k36_14 k36_o8 .ret := yR rfl
@[simp, simp ↓] theorem k36_15r : rC k36_15 (.t 25) k36_14 .skip := zC rfl
@[simp, simp ↓] theorem k36_16r : sR k36_16 k36_o7 k36_15 := yR rfl
@[simp, simp ↓] theorem k36_17r : sR k36_17 k36_o6 k36_16 := yR rfl
@[simp, simp ↓] theorem k36_19r : rR k36_19 k36_o9 := zR rfl
@[simp, simp ↓] theorem k36_20r : sB k36_20 1 k36_17 k36_19 := yB rfl
@[simp, simp ↓] theorem k36_21r : rS k36_21 k36_10 k36_20 := zS rfl
@[simp, simp ↓] theorem k36_22r : rL k36_22 k36_21 := zL rfl
@[simp, simp ↓] theorem k36_23r : rB k36_23 0 k36_22 := zB rfl
@[simp, simp ↓] theorem k36_24r : sR k36_24 k36_o4 k36_23 := yR rfl
@[simp, simp ↓] theorem k36_26r : sR k36_26 k36_o10 .ret := yR rfl
@[simp, simp ↓] theorem k36_27r : rS k36_27 k36_24 k36_26 := zS rfl
@[simp, simp ↓] theorem k36_28r : rS k36_28 k36_6 k36_27 := zS rfl
@[simp, simp ↓] theorem k36_29r : sR k36_29 k36_o1 k36_28 := yR rfl
@[simp, simp ↓] theorem k36_30r : sR k36_30 k36_o0 k36_29 := yR rfl
noncomputable abbrev k36_C : Orc → Cx := mkC Try.prog [] 36 27 [.tmp 4]
theorem k36_of0 : OfP0 Try.prog Try.f36 36 27 k36_C k36_30 := @ofP0 _ _ _ _ _ _ _ _ Try.func36 (by decide +kernel) rfl (by kernel_rfl) rfl (by kernel_rfl)
theorem szInt64SS_c (rs : List (List Int)) (n : Int) (h : Heap) (hn : 0 ≤ n ∧ n ≤ 1048576) (hw : wfSS rs) : ACalls Try.prog 36 [.snap 1 (rs.map il), .int .i64 n] h (fun v h' => v = .int .i64 (if n < ssTot rs then -1 else n - ssTot rs) ∧ h' = h) := by
  have hl := hw.2
  refine k36_of0 rfl noPure fun I => ?_
  refine Run2.of I 1000 ?_
  simp -implicitDefEqProofs
  refine ⟨by omega, fun h1 => ?_, fun h1 => ?_⟩
  · intro h2; exfalso; unfold ssTot at h2; omega
  · refine Run2.loopE (fun (i : Nat) => [(0, .snap 1 (rs.map il)), (1, .int .i64 (n - rs.length - sumL (rs.take i))), (5, .int .i64 i)]) (fun i => h) (fun i => rs.length - i) (fun i => i ≤ rs.length ∧ rs.length + sumL (rs.take i) ≤ n) 0 (by simp [sumL]) rfl ⟨Nat.zero_le _, by simp [sumL]; omega⟩ fun i hi ih => ?_
    by_cases hlt : i < rs.length
    · have hr := (hw.1 _ (List.getElem_mem hlt)).2
      have hs := sumL_take rs hlt
      have hle := sumL_le rs (i + 1)
      refine Run2.of I 1000 ?_
      simp -implicitDefEqProofs [hlt]
      refine (szInt64S_c rs[i] _ h (by omega) hr).mono ?_
      rintro v h' ⟨rfl, rfl⟩
      refine gK.go ?_
      by_cases h2 : n - rs.length - sumL (rs.take i) < rs[i].length
      · simp -implicitDefEqProofs [h2]
        intro h3; exfalso; unfold ssTot at h3; omega
      · have go := ih (i + 1) ⟨by omega, by omega⟩ (by omega)
        have e : n - (rs.length : Int) - (sumL (rs.take (i + 1)) : Nat) = n - rs.length - sumL (rs.take i) - rs[i].length := by omega
        rw [e] at go
        simp -implicitDefEqProofs [h2]
        refine ⟨fun h3 => by omega, fun h3 => ⟨by omega, ?_⟩⟩
        simpa using go
    · obtain rfl : i = rs.length := by omega
      have h2 := hi.2
      rw [List.take_length] at h2
      refine Run2.of I 1000 ?_
      simp -implicitDefEqProofs
      have h3 : ¬ n < ssTot rs := by unfold ssTot; omega
      rw [if_neg h3]; unfold ssTot; omega
noncomputable def o_szInt64SS : List AV → Option (Prop × AV) := tab (fun (x : LS × Int) => match x with | (rs, k) => [.snap 1 (rs.map il), .int .i64 k]) (fun x => match x with | (rs, k) => ((0 ≤ k ∧ k ≤ 1048576) ∧ wfSS rs)) (fun x => match x with | (rs, k) => .int .i64 (if k < ssTot rs then -1 else k - ssTot rs))
@[simp] theorem o_szInt64SS_e (rs : LS) (k : Int) : o_szInt64SS [.snap 1 (rs.map il), .int .i64 k] = some (((0 ≤ k ∧ k ≤ 1048576) ∧ wfSS rs), .int .i64 (if k < ssTot rs then -1 else k - ssTot rs)) := tab_at (enc := fun (x : LS × Int) => match x with | (rs, k) => [.snap 1 (rs.map il), .int .i64 k]) (fun x y h => by
  obtain ⟨rs1, k1⟩ := x; obtain ⟨rs2, k2⟩ := y; simp at h; simp [h] <;> omega) _ _ (rs, k)
theorem o_szInt64SS_k : Knows Try.prog 36 o_szInt64SS := tab_knows fun x hx h => by
  obtain ⟨rs, k⟩ := x; exact szInt64SS_c rs k h hx.1 hx.2
abbrev k12_o0 : List AJ := [.o ⟨(some 4), none, false, .mv (.c (.bool false)), (some [0, 1])⟩]
abbrev k12_o1 : List AJ := [.o ⟨(some 6), none, false, .mv (.t 0), none⟩, .o ⟨(some 7), none, false, .len (.t 6), none⟩, .o ⟨(some 8), none, false, .mv (.t 1), none⟩, .o ⟨(some 9), none, false, .len (.t 8), none⟩, .o ⟨(some 10), none, false, .bin .neq (.t 7) (.t 9), (some [0, 1, 10])⟩]
abbrev k12_o2 : List AJ := [.o ⟨(some 4), none, false, .mv (.c (.bool false)), (some [4])⟩]
def k12_3 : ACode := .seq (.region k12_o2) .ret
def k12_4 : ACode := .cond (.t 10) k12_3 .skip
def k12_5 : ACode := .seq (.region k12_o1) k12_4
abbrev k12_o3 : List AJ := [.o ⟨(some 5), none, false, .mv (.c (.int .i64 0)), (some [0, 1, 5])⟩]
abbrev k12_o4 : List AJ := [.o ⟨(some 11), none, false, .mv (.t 5), none⟩, .o ⟨(some 12), none, false, .mv (.t 0), none⟩, .o ⟨(some 13), none, false, .len (.t 12), none⟩, .o ⟨(some 14), none, false, .bin .lss (.t 11) (.t 13), (some [0, 1, 5, 14])⟩]
def k12_8 : ACode := .cond (.t 14) .skip (.exit 0)
def k12_9 : ACode := .seq (.region k12_o4) k12_8
abbrev k12_o5 : List AI := [⟨(some 17), none, false, .mv (.t 0), none⟩, ⟨(some 18), none, false, .mv (.t 5), none⟩, ⟨(some 19), none, false, .idxA 1 (.t 17) (.t 18), none⟩, ⟨(some 20), none, false, .load 1 false (.t 19), none⟩, ⟨(some 21), none, false, .mv (.t 1), none⟩, ⟨(some 22), none, false, .mv (.t 5), none⟩, ⟨(some 23), none, false, .idxA 1 (.t 21) (.t 22), none⟩, ⟨(some 24), none, false, .load 1 false (.t 23), none⟩, ⟨(some 25), none, false, .call 26 [(.t 20), (.t 24)], none⟩, ⟨(some 26), none, false, .un .not (.t 25), (some [0, 1, 5, 26])⟩]
abbrev k12_o6 : List AJ := [.o ⟨(some 4), none, false, .mv (.c (.bool false)), (some [4])⟩]
def k12_12 : ACode := .seq (.region k12_o6) .ret
def k12_13 : ACode := .cond (.t 26) k12_12 .skip
def k12_14 : ACode := .seq (.draw k12_o5 [] rfl) k12_13
abbrev k12_o7 : List AJ := [.o ⟨(some 15), none, false, .mv (.t 5), none⟩, .o ⟨(some 16), none, true, .bin .add (.t 15) (.c (.int .i64 1)), none⟩, .o ⟨(some 5), none, false, .mv (.t 16), (some [0, 1, 5])⟩]
def k12_16 : ACode := .region k12_o7
def k12_17 : ACode := .seq (.block 1 k12_14) k12_16
def k12_18 : ACode := .seq k12_9 k12_17
def k12_19 : ACode := .loop k12_18
def k12_20 : ACode := .block 0 k12_19
def k12_21 : ACode := .seq (.region k12_o3) k12_20
abbrev k12_o8 : List AJ := [.o ⟨(some 4), none, false, .mv (.c (.bool true)), (some [4])⟩]
def k12_23 : ACode := .seq (.region k12_o8) .ret
def k12_24 : ACode := .seq k12_21 k12_23
def k12_25 : ACode := .seq k12_5 k12_24
def k12_26 : ACode := .seq (.region k12_o0) k12_25
@[simp, simp ↓] theorem k12_3r : sR k12_3 k12_o2 .ret := yR rfl
@[simp, simp ↓] theorem k12_4r : rC k12_4 (.t 10) k12_3 .skip := zC rfl
@[simp, simp ↓] theorem k12_5r : sR k12_5 k12_o1 k12_4 := yR rfl
@[simp, simp ↓] theorem k12_8r : rC k12_8 (.t 14) .skip (.exit 0) := zC rfl
@[simp, simp ↓] theorem k12_9r : sR k12_9 k12_o4 k12_8 := yR rfl
@[simp, simp ↓] theorem k12_12r : sR k12_12 k12_o6 .ret := yR rfl
@[simp, simp ↓] theorem k12_13r : rC k12_13 (.t 26) k12_12 .skip := zC rfl
@[simp, simp ↓] theorem k12_14r : sD k12_14 k12_o5 [] k12_13 := yD rfl
@[simp, simp ↓] theorem k12_16r : rR k12_16 k12_o7 := zR rfl
@[simp, simp ↓] theorem k12_17r : sB k12_17 1 k12_14 k12_16 := yB rfl
@[simp, simp ↓] theorem k12_18r : rS k12_18 k12_9 k12_17 := zS rfl
@[simp, simp ↓] theorem k12_19r : rL k12_19 k12_18 := zL rfl
@[simp, simp ↓] theorem k12_20r : rB k12_20 0 k12_19 := zB rfl
@[simp, simp ↓] theorem k12_21r : sR k12_21 k12_o3 k12_20 := yR rfl
@[simp, simp ↓] theorem k12_23r : sR k12_23 k12_o8 .ret := yR rfl
@[simp, simp ↓] theorem k12_24r : rS k12_24 k12_21 k12_23 := zS rfl
@[simp, simp ↓] theorem k12_25r : rS k12_25 k12_5 k12_24 := zS rfl
@[simp, simp ↓] theorem k12_26r : sR k12_26 k12_o0 k12_25 := yR rfl
noncomputable abbrev k12_C : Orc → Cx := mkC Try.prog [] 12 27 [.tmp 4]
theorem k12_of0 : OfP0 Try.prog Try.f12 12 27 k12_C k12_26 := @ofP0 _ _ _ _ _ _ _ _ Try.func12 (by decide +kernel) rfl (by kernel_rfl) rfl (by kernel_rfl)
theorem eqInt64SS_s (l m : List (List Int)) (h : Heap) (hl : fitSS l) : ACalls Try.prog 12 [.snap 1 (l.map il), .snap 1 (m.map il)] h (fun v h' => v = .bool (decide (l = m)) ∧ h' = h) := by
  have hn := hl.1
  refine k12_of0 rfl orcI1_p fun I => ?_
  refine Run2.of I 1000 ?_
  simp -implicitDefEqProofs
  refine ⟨by rintro hne rfl; exact hne rfl, fun hlen => ?_⟩
  refine Run2.loop (fun i => [(0, .snap 1 (l.map il)), (1, .snap 1 (m.map il)), (5, .int .i64 (i : Nat))]) (fun i => h) (fun i => l.length - i) (fun i => i ≤ l.length ∧ l.take i = m.take i) 0 (by simp) fun i hi ih => ?_
  by_cases hlt : i < l.length
  · have hlt' : i < m.length := by omega
    have hr := hl.2 _ (List.getElem_mem hlt)
    refine Run2.of I 1000 ?_
    simp -implicitDefEqProofs [hlt, hlt', hr]
    constructor
    · rintro hne rfl
      exact hne rfl
    · intro he
      refine ⟨by omega, ?_⟩
      have := ih (i + 1) ⟨by omega, by rw [List.take_succ_eq_append_getElem hlt, List.take_succ_eq_append_getElem hlt', hi.2, he]⟩ (by omega)
      simpa using this
  · refine Run2.of I 1000 ?_
    simp -implicitDefEqProofs [hlt]
    have : i = l.length := by omega
    have h2 := hi.2
    rw [List.take_of_length_le (by omega), List.take_of_length_le (by omega)] at h2
    exact h2
/-- The slices that a slice holds which nobody writes. -/
def listsOf : AV → List (List Int)
  | .snap _ l => l.map intsOf
  | _ => []
@[simp] theorem listsOf_snap (s : Nat) (rs : List (List Int)) : listsOf (.snap s (rs.map il)) = rs := by
  simp only [listsOf, List.map_map]
  exact List.map_id'' (fun r => intsOf_snap 1 r) rs
@[simp] theorem listsOf_nil : listsOf .nilsl = [] := rfl
@[simp] theorem listsOf_emp : listsOf .emp = [] := rfl
def isLists (v : AV) : Prop := v = .nilsl ∨ v = .emp ∨ ∃ rs : List (List Int), v = .snap 1 (rs.map il)
@[simp] theorem isLists_snap (rs : List (List Int)) : isLists (.snap 1 (rs.map il)) := .inr (.inr ⟨rs, rfl⟩)
@[simp] theorem isLists_nil : isLists .nilsl := .inl rfl
@[simp] theorem isLists_emp : isLists .emp := .inr (.inl rfl)
theorem Wk.lists {v : AV} (h : isLists v) : Wk v (.snap 1 ((listsOf v).map il)) := by
  rcases h with rfl | rfl | ⟨rs, rfl⟩
  · exact Wk.nil 1
  · exact Wk.emp 1
  · rw [listsOf_snap]; exact Wk.refl _
theorem eqInt64SS_v (u v : AV) (h : Heap) (hu : isLists u) (hv : isLists v) (hl : fitSS (listsOf u)) : ACalls Try.prog 12 [u, v] h (fun r h' => r = .bool (decide (listsOf u = listsOf v)) ∧ h' = h) :=
  (eqInt64SS_s _ _ h hl).wk (.cons (.lists hu) (.cons (.lists hv) .nil))
noncomputable def o_eqInt64SS : List AV → Option (Prop × AV) := tab (fun (x : AV × AV) => match x with | (u, v) => [u, v]) (fun x => match x with | (u, v) => ((isLists u ∧ isLists v) ∧ fitSS (listsOf u))) (fun x => match x with | (u, v) => .bool (decide (listsOf u = listsOf v)))
@[simp] theorem o_eqInt64SS_e (u : AV) (v : AV) : o_eqInt64SS [u, v] = some (((isLists u ∧ isLists v) ∧ fitSS (listsOf u)), .bool (decide (listsOf u = listsOf v))) := tab_at (enc := fun (x : AV × AV) => match x with | (u, v) => [u, v]) (fun x y h => by
  obtain ⟨u1, v1⟩ := x; obtain ⟨u2, v2⟩ := y; simp at h; simp [h] <;> omega) _ _ (u, v)
theorem o_eqInt64SS_k : Knows Try.prog 12 o_eqInt64SS := tab_knows fun x hx h => by
  obtain ⟨u, v⟩ := x; exact eqInt64SS_v u v h hx.1.1 hx.1.2 hx.2
/-! ## With memory of their own -/
theorem toInt64SS_o (rs : List (List Int)) (h : Heap) (hl : fitSS rs) : ACalls Try.prog 38 [.snap 1 (rs.map il)] h (fun v h' => ∃ h1, OwnLL v rs h1 ∧ (∀ i ∈ dom h1, i ∉ dom h) ∧ h' = h1 ++ h) := by
  have hn := hl.1
  refine k38_of0 rfl noPure fun I => ?_
  refine Run2.of I 1000 ?_
  simp -implicitDefEqProofs
  refine ⟨by omega, fun id hid => ?_⟩
  refine Run2.loopE (α := Nat × List AV × Heap) (fun s => [(0, .snap 1 (rs.map il)), (3, .sl id 1 0 rs.length (some rs.length)), (4, .int .i64 (s.1 : Nat))]) (fun s => (id, ⟨1, s.2.1 ++ List.replicate (rs.length - s.1) .nilsl⟩) :: (s.2.2 ++ h)) (fun s => rs.length - s.1) (fun s => s.1 ≤ rs.length ∧ OwnLs s.2.1 (rs.take s.1) s.2.2 ∧ id ∉ dom s.2.2 ∧ ∀ j ∈ dom s.2.2, j ∉ dom h) (0, [], []) (by simp) (by simp) ⟨Nat.zero_le _, .nil, by simp [dom], by simp [dom]⟩ ?_
  rintro ⟨i, us, hi⟩ ⟨hin, ho, hd1, hd2⟩ ih
  simp only at hin ho hd1 hd2
  have hul : us.length = i := by rw [ho.len, List.length_take]; omega
  by_cases hlt : i < rs.length
  · have hr := hl.2 _ (List.getElem_mem hlt)
    refine Run2.of I 1000 ?_
    simp -implicitDefEqProofs [hlt]
    refine (toInt64S_o rs[i] _ hr).mono ?_
    rintro v h' ⟨h1, o, hd, rfl⟩
    have hcell := o.cell
    have hst := stor_of hcell
    have hcl : (cellsOf v).length = 1 := by rw [cells_of hcell]; rfl
    have hid1 : id ∉ dom h1 := fun hm => hd id hm (by simp [dom])
    have hgA : ∀ b, hget (h1 ++ b) id = hget b id := fun b => hget_app hid1
    have hsA : ∀ b c, hset (h1 ++ b) id c = h1 ++ hset b id c := fun b c => hset_app hid1
    have hd' : ∀ j ∈ dom h1, j ∉ dom hi ∧ j ∉ dom h := fun j hj => by
      have := hd j hj
      simp only [dom_cons, dom_append, List.mem_cons, List.mem_append, not_or] at this
      exact this.2
    have go := ih (i + 1, us ++ [v], hi ++ h1) ⟨by simp; omega, by
      rw [List.take_succ_eq_append_getElem hlt]
      exact ho.append (.one o) fun j hj hm => (hd' j hm).1 hj, by
      simp only [dom_append, List.mem_append, not_or]; exact ⟨hd1, hid1⟩, fun j hj => by
      simp only [dom_append, List.mem_append] at hj
      rcases hj with hj | hj
      · exact hd2 j hj
      · exact (hd' j hj).2⟩ (by simp; omega)
    clear ih
    have hset1 : (us ++ List.replicate (rs.length - i) AV.nilsl).set i v = us ++ [v] ++ List.replicate (rs.length - (i + 1)) .nilsl := by
      have hi' : i = us.length := by omega
      rw [List.set_append_right _ _ (by omega), show rs.length - i = (rs.length - (i + 1)) + 1 by omega, List.replicate_succ, List.append_assoc]
      simp [hi']
    refine gK.go ?_
    simp -implicitDefEqProofs [hcell, hst, hcl, hgA, hsA, hlt, hul, hset1]
    refine ⟨by omega, by omega, ?_⟩
    refine Run2.perm (perm_mid _ _ _ _) ?_
    simpa using go
  · obtain rfl : i = rs.length := by omega
    rw [List.take_length] at ho
    refine Run2.of I 1000 ?_
    simp -implicitDefEqProofs
    refine ⟨(id, ⟨1, us ++ []⟩) :: hi, .sl id _ _ [] rfl rfl ho hd1, ?_, by simp⟩
    simp only [dom_cons, List.mem_cons]
    rintro j (rfl | hj)
    · exact hid
    · exact hd2 j hj
/-- The marks that follow on k, as long as these. -/
def marksL : Int → List (List Int) → List (List Int)
  | _, [] => []
  | k, r :: rs => marks k r.length :: marksL (k + r.length) rs
theorem marksL_len (k : Int) (rs : List (List Int)) : (marksL k rs).length = rs.length := by
  induction rs generalizing k with
  | nil => rfl
  | cons r rs ih => simp [marksL, ih]
theorem marksL_snoc (r : List Int) : ∀ (k : Int) (rs : List (List Int)), marksL k (rs ++ [r]) = marksL k rs ++ [marks (k + sumL rs) r.length]
  | k, [] => by simp [marksL, sumL]
  | k, x :: rs => by
    simp only [List.cons_append, marksL, marksL_snoc r _ rs]
    congr 4
    simp [sumL]; omega
theorem marksL_take : ∀ (k : Int) (rs : List (List Int)) (j : Nat), (marksL k rs).take j = marksL k (rs.take j)
  | _, [], j => by simp [marksL]
  | _, _ :: _, 0 => rfl
  | k, r :: rs, j + 1 => by simp [marksL, marksL_take]
abbrev k15_o0 : List AJ := [.o ⟨(some 4), none, false, .mv (.c (.int .i64 0)), (some [0, 1])⟩]
abbrev k15_o1 : List AJ := [.o ⟨(some 5), none, false, .mv (.c (.int .i64 0)), (some [0, 1, 5])⟩]
abbrev k15_o2 : List AJ := [.o ⟨(some 6), none, false, .mv (.t 5), none⟩, .o ⟨(some 7), none, false, .mv (.t 0), none⟩, .o ⟨(some 8), none, false, .len (.t 7), none⟩, .o ⟨(some 9), none, false, .bin .lss (.t 6) (.t 8), (some [0, 1, 5, 9])⟩]
def k15_3 : ACode := .cond (.t 9) .skip (.exit 0)
def k15_4 : ACode := .seq (.region k15_o2) k15_3
abbrev k15_o3 : List AJ := [.o ⟨(some 12), none, false, .mv (.t 0), none⟩, .o ⟨(some 13), none, false, .mv (.t 5), none⟩, .o ⟨(some 14), none, false, .idxA 1 (.t 12) (.t 13), none⟩, .o ⟨(some 15), none, false, .load 1 false (.t 14), none⟩, .o ⟨(some 16), none, false, .mv (.t 1), none⟩, .o ⟨(some 17), none, false, .call 29 [(.t 15), (.t 16)], none⟩, .o ⟨(some 1), none, false, .mv (.t 17), (some [0, 1, 5])⟩]
def k15_5 : ACode := .region k15_o3
abbrev k15_o4 : List AJ := [.o ⟨(some 10), none, false, .mv (.t 5), none⟩, .o ⟨(some 11), none, true, .bin .add (.t 10) (.c (.int .i64 1)), none⟩, .o ⟨(some 5), none, false, .mv (.t 11), (some [0, 1, 5])⟩]
def k15_7 : ACode := .region k15_o4
def k15_8 : ACode := .seq (.block 1 k15_5) k15_7
def k15_9 : ACode := .seq k15_4 k15_8
def k15_10 : ACode := .loop k15_9
def k15_11 : ACode := .block 0 k15_10
def k15_12 : ACode := .seq (.region k15_o1) k15_11
abbrev k15_o5 : List AJ := [.o ⟨(some 18), none, false, .mv (.t 1), none⟩, .o ⟨(some 4), none, false, .mv (.t 18), (some [4])⟩]
def k15_14 : ACode := .seq (.region k15_o5) .ret
def k15_15 : ACode := .seq k15_12 k15_14
def k15_16 : ACode := .seq (.region k15_o0) k15_15
@[simp, simp ↓] theorem k15_3r : rC k15_3 (.t 9) .skip (.exit 0) := zC rfl
@[simp, simp ↓] theorem k15_4r : sR k15_4 k15_o2 k15_3 := yR rfl
@[simp, simp ↓] theorem k15_5r : rR k15_5 k15_o3 := zR rfl
@[simp, simp ↓] theorem k15_7r : rR k15_7 k15_o4 := zR rfl
@[simp, simp ↓] theorem k15_8r : sB k15_8 1 k15_5 k15_7 := yB rfl
@[simp, simp ↓] theorem k15_9r : rS k15_9 k15_4 k15_8 := zS rfl
@[simp, simp ↓] theorem k15_10r : rL k15_10 k15_9 := zL rfl
@[simp, simp ↓] theorem k15_11r : rB k15_11 0 k15_10 := zB rfl
@[simp, simp ↓] theorem k15_12r : sR k15_12 k15_o1 k15_11 := yR rfl
@[simp, simp ↓] theorem k15_14r : sR k15_14 k15_o5 .ret := yR rfl
@[simp, simp ↓] theorem k15_15r : rS k15_15 k15_12 k15_14 := zS rfl
@[simp, simp ↓] theorem k15_16r : sR k15_16 k15_o0 k15_15 := yR rfl
noncomputable abbrev k15_C : Orc → Cx := mkC Try.prog [] 15 19 [.tmp 4]
theorem k15_of0 : OfP0 Try.prog Try.f15 15 19 k15_C k15_16 := @ofP0 _ _ _ _ _ _ _ _ Try.func15 (by decide +kernel) rfl (by kernel_rfl) rfl (by kernel_rfl)
theorem markInt64SS_o {v : AV} {rs : List (List Int)} {hs : Heap} (ho : OwnLL v rs hs) (k : Int) (hk : 0 ≤ k ∧ k ≤ 1073741824) (hl : ssTot rs ≤ 1048576) : ACalls Try.prog 15 [v, .int .i64 k] hs (fun r h' => r = .int .i64 (k + sumL rs) ∧ OwnLL v (marksL k rs) h') := by
  have nil : ∀ u, (u = AV.nilsl ∨ u = .emp) → ACalls Try.prog 15 [u, .int .i64 k] [] (fun r h' => r = .int .i64 (k + sumL []) ∧ OwnLL u (marksL k []) h') := by
    rintro u (rfl | rfl)
    all_goals
      refine k15_of0 rfl noPure fun I => ?_
      refine Run2.of I 1000 ?_
      simp -implicitDefEqProofs
      refine Run2.loopE (fun (_ : Unit) => [(0, _), (1, .int .i64 k), (5, .int .i64 0)]) (fun _ => []) (fun _ => 0) (fun _ => True) () (by rfl) rfl trivial fun _ _ _ => ?_
      refine Run2.of I 1000 ?_
      simp -implicitDefEqProofs
      simp [sumL]
      constructor
  cases ho with
  | nil => exact nil _ (.inl rfl)
  | emp => exact nil _ (.inr rfl)
  | @sl us rs hi id n cap ex hn hex o hid =>
    subst hn
    have hn := (fit_of_tot hl).1
    have hul := o.len
    refine k15_of0 rfl noPure fun I => ?_
    refine Run2.of I 1000 ?_
    simp -implicitDefEqProofs
    refine Run2.loopE (α := Nat × Heap × Heap) (fun s => [(0, .sl id 1 0 rs.length cap), (1, .int .i64 (k + sumL (rs.take s.1))), (5, .int .i64 (s.1 : Nat))]) (fun s => (id, ⟨1, us ++ ex⟩) :: (s.2.1 ++ s.2.2)) (fun s => rs.length - s.1) (fun s => s.1 ≤ rs.length ∧ OwnLs (us.take s.1) (marksL k (rs.take s.1)) s.2.1 ∧ OwnLs (us.drop s.1) (rs.drop s.1) s.2.2 ∧ (∀ j ∈ dom s.2.1, j ∉ dom s.2.2) ∧ id ∉ dom s.2.1 ∧ id ∉ dom s.2.2) (0, [], hi) (by simp [sumL]) (by simp) ⟨Nat.zero_le _, .nil, by simpa using o, by simp [dom], by simp [dom], hid⟩ ?_
    rintro ⟨i, hm, hr⟩ ⟨hi', om, orr, hd, hid1, hid2⟩ ih
    simp only at hi' om orr hd hid1 hid2
    by_cases hlt : i < rs.length
    · have hui : i < us.length := by omega
      have hsum := sumL_take rs hlt
      have hle := sumL_le rs (i + 1)
      rw [List.drop_eq_getElem_cons hlt, List.drop_eq_getElem_cons hui] at orr
      have htot : sumL rs ≤ 1048576 := by unfold ssTot at hl; omega
      have hg : (us ++ ex)[i]? = some us[i] := by rw [List.getElem?_append_left hui]; simp
      generalize hu0 : us[i] = u0 at orr hg
      generalize hr0 : rs[i] = r0 at orr
      generalize hdu : us.drop (i + 1) = du at orr
      generalize hdr : rs.drop (i + 1) = dr at orr
      cases orr with
      | @cons _ _ g _ _ hr' o1 os1 d1 =>
        have hcell := o1.cell
        have hcc := cells_of hcell
        rw [dom_append, List.mem_append, not_or] at hid2
        have hd' : ∀ j ∈ dom hm, j ∉ dom g ∧ j ∉ dom hr' := fun j hj => by
          have := hd j hj
          rwa [dom_append, List.mem_append, not_or] at this
        refine Run2.of I 1000 ?_
        simp -implicitDefEqProofs [hlt, hg, hcc]
        refine (markI_keep o1 ((id, ⟨1, us ++ ex⟩) :: (hm ++ hr')) (fun p hp => by simp [hp]) (fun p hp => ?_) (fun nd => ?_) _ (by omega) (by rw [← hr0]; omega)).monoN ?_
        · rcases List.mem_cons.1 hp with rfl | hp
          · exact ⟨List.mem_cons_self .., hid2.1⟩
          · rcases List.mem_append.1 hp with hp | hp
            · exact ⟨by simp [hp], (hd' p.1 (List.mem_map.2 ⟨p, hp, rfl⟩)).1⟩
            · exact ⟨by simp [hp], fun hm => d1 p.1 hm (List.mem_map.2 ⟨p, hp, rfl⟩)⟩
        · exact nd.sublist ((List.Sublist.cons_cons _ ((List.sublist_append_right g hr').append_left hm)).map _)
        rintro r' h' ⟨g', rfl, og, rfl⟩ nd
        have hj : ∀ j ∈ dom g', j ≠ id ∧ j ∉ dom hm ∧ j ∉ dom hr' := fun j hj => by
          rw [dom_append, List.nodup_append] at nd
          have h3 := nd.2.2 j hj
          refine ⟨fun e => h3 j (by simp [dom_cons, e]) rfl, fun e => h3 j (by simp [dom_cons, dom_append, e]) rfl, fun e => h3 j (by simp [dom_cons, dom_append, e]) rfl⟩
        have go := ih (i + 1, hm ++ g', hr') ⟨by simp; omega, by
          simp only
          rw [List.take_succ_eq_append_getElem hlt, List.take_succ_eq_append_getElem hui, marksL_snoc, hr0, hu0]
          exact om.append (.one og) fun j hj1 hj2 => (hj j hj2).2.1 hj1, by simp only; rw [hdu, hdr]; exact os1, by
          intro j hj1
          simp only [dom_append, List.mem_append] at hj1
          rcases hj1 with hj1 | hj1
          · exact (hd' j hj1).2
          · exact (hj j hj1).2.2, by
          simp only [dom_append, List.mem_append, not_or]
          exact ⟨hid1, fun hm => (hj _ hm).1 rfl⟩, hid2.2⟩ (by simp; omega)
        have e : k + ((sumL (rs.take (i + 1)) : Nat) : Int) = k + sumL (rs.take i) + r0.length := by rw [hsum, hr0]; omega
        simp only [e] at go
        refine gK.go ?_
        simp -implicitDefEqProofs
        refine ⟨by omega, Run2.perm (perm_mid _ _ _ _) ?_⟩
        simpa using go
    · obtain rfl : i = rs.length := by omega
      rw [List.take_length, List.take_of_length_le (by omega)] at om
      rw [List.drop_length, List.drop_of_length_le (by omega)] at orr
      cases orr
      refine Run2.of I 1000 ?_
      simp -implicitDefEqProofs
      exact .sl id _ cap ex (marksL_len k rs).symm hex om hid1
abbrev k16_o0 : List AJ := [.o ⟨(some 4), none, false, .mv (.c (.int .i64 0)), (some [0, 1])⟩]
abbrev k16_o1 : List AJ := [.o ⟨(some 5), none, false, .mv (.c (.int .i64 0)), (some [0, 1, 5])⟩]
abbrev k16_o2 : List AJ := [.o ⟨(some 6), none, false, .mv (.t 5), none⟩, .o ⟨(some 7), none, false, .mv (.t 0), none⟩, .o ⟨(some 8), none, false, .len (.t 7), none⟩, .o ⟨(some 9), none, false, .bin .lss (.t 6) (.t 8), (some [0, 1, 5, 9])⟩]
def k16_3 : ACode := .cond (.t 9) .skip (.exit 0)
def k16_4 : ACode := .seq (.region k16_o2) k16_3
abbrev k16_o3 : List AJ := [.o ⟨(some 12), none, false, .mv (.t 0), none⟩, .o ⟨(some 13), none, false, .mv (.t 5), none⟩, .o ⟨(some 14), none, false, .idxA 1 (.t 12) (.t 13), none⟩, .o ⟨(some 15), none, false, .load 1 false (.t 14), none⟩, .o ⟨(some 16), none, false, .mv (.t 1), none⟩, .o ⟨(some 17), none, false, .call 30 [(.t 15), (.t 16)], none⟩, .o ⟨(some 1), none, false, .mv (.t 17), (some [0, 1, 5])⟩]
abbrev k16_o4 : List AJ := [.o ⟨(some 18), none, false, .mv (.t 1), none⟩, .o ⟨(some 19), none, false, .bin .lss (.t 18) (.c (.int .i64 0)), (some [0, 1, 5, 19])⟩]
abbrev k16_o5 : List AJ := [.o ⟨(some 4), none, false, .mv (.c (.int .i64 (-1))), (some [4])⟩]
def k16_8 : ACode := .seq (.region k16_o5) .ret
def k16_9 : ACode := .cond (.t 19) k16_8 .skip
def k16_10 : ACode := .seq (.region k16_o4) k16_9
def k16_11 : ACode := .seq (.region k16_o3) k16_10
abbrev k16_o6 : List AJ := [.o ⟨(some 10), none, false, .mv (.t 5), none⟩, .o ⟨(some 11), none, true, .bin .add (.t 10) (.c (.int .i64 1)), none⟩, .o ⟨(some 5), none, false, .mv (.t 11), (some [0, 1, 5])⟩]
def k16_13 : ACode := .region k16_o6
def k16_14 : ACode := .seq (.block 1 k16_11) k16_13
def k16_15 : ACode := .seq k16_4 k16_14
def k16_16 : ACode := .loop k16_15
def k16_17 : ACode := .block 0 k16_16
def k16_18 : ACode := .seq (.region k16_o1) k16_17
abbrev k16_o7 : List AJ := [.o ⟨(some 20), none, false, .mv (.t 1), none⟩, .o ⟨(some 4), none, false, .mv (.t 20), (some [4])⟩]
def k16_20 : ACode := .seq (.region k16_o7) .ret
def k16_21 : ACode := .seq k16_18 k16_20
def k16_22 : ACode := .seq (.region k16_o0) k16_21
@[simp, simp ↓] theorem k16_3r : rC k16_3 (.t 9) .skip (.exit 0) := zC rfl
@[simp, simp ↓] theorem k16_4r : sR k16_4 k16_o2 k16_3 := yR rfl
@[simp, simp ↓] theorem k16_8r : sR k16_8 k16_o5 .ret := yR rfl
@[simp, simp ↓] theorem k16_9r : rC k16_9 (.t 19) k16_8 .skip := zC rfl
@[simp, simp ↓] theorem k16_10r : sR k16_10 k16_o4 k16_9 := yR rfl
@[simp, simp ↓] theorem k16_11r : sR k16_11 k16_o3 k16_10 := yR rfl
@[simp, simp ↓] theorem k16_13r : rR k16_13 k16_o6 := zR rfl
@[simp, simp ↓] theorem k16_14r : sB k16_14 1 k16_11 k16_13 := yB rfl
@[simp, simp ↓] theorem k16_15r : rS k16_15 k16_4 k16_14 := zS rfl
@[simp, simp ↓] theorem k16_16r : rL k16_16 k16_15 := zL rfl
@[simp, simp ↓] theorem k16_17r : rB k16_17 0 k16_16 := zB rfl
@[simp, simp ↓] theorem k16_18r : sR k16_18 k16_o1 k16_17 := yR rfl
@[simp, simp ↓] theorem k16_20r : sR k16_20 k16_o7 .ret := yR rfl
@[simp, simp ↓] theorem k16_21r : rS k16_21 k16_18 k16_20 := zS rfl
@[simp, simp ↓] theorem k16_22r : sR k16_22 k16_o0 k16_21 := yR rfl
noncomputable abbrev k16_C : Orc → Cx := mkC Try.prog [] 16 21 [.tmp 4]
theorem k16_of0 : OfP0 Try.prog Try.f16 16 21 k16_C k16_22 := @ofP0 _ _ _ _ _ _ _ _ Try.func16 (by decide +kernel) rfl (by kernel_rfl) rfl (by kernel_rfl)
theorem heldInt64SS_s (rs : List (List Int)) (k : Int) (h : Heap) (hk : 0 ≤ k ∧ k ≤ 1073741824) (hl : ssTot rs ≤ 1048576) : ACalls Try.prog 16 [.snap 1 (rs.map il), .int .i64 k] h (fun v h' => v = .int .i64 (if rs = marksL k rs then k + sumL rs else -1) ∧ h' = h) := by
  have hn := (fit_of_tot hl).1
  have htot : sumL rs ≤ 1048576 := by unfold ssTot at hl; omega
  refine k16_of0 rfl noPure fun I => ?_
  refine Run2.of I 1000 ?_
  simp -implicitDefEqProofs
  refine Run2.loopE (fun (i : Nat) => [(0, .snap 1 (rs.map il)), (1, .int .i64 (k + sumL (rs.take i))), (5, .int .i64 i)]) (fun i => h) (fun i => rs.length - i) (fun i => i ≤ rs.length ∧ rs.take i = marksL k (rs.take i)) 0 (by simp [sumL]) rfl (by simp [marksL]) fun i hi ih => ?_
  by_cases hlt : i < rs.length
  · have hsum := sumL_take rs hlt
    have hle := sumL_le rs (i + 1)
    have hsn : marksL k (rs.take (i + 1)) = marksL k (rs.take i) ++ [marks (k + sumL (rs.take i)) rs[i].length] := by
      rw [List.take_succ_eq_append_getElem hlt, marksL_snoc]
    have hbad : ¬ rs[i] = marks (k + sumL (rs.take i)) rs[i].length → ¬ rs = marksL k rs := by
      intro h1 h2
      have h3 : rs.take (i + 1) = marksL k (rs.take (i + 1)) := by
        conv => lhs; rw [h2]
        exact marksL_take k rs (i + 1)
      rw [hsn, List.take_succ_eq_append_getElem hlt] at h3
      have h4 := (List.append_inj' h3 rfl).2
      exact h1 (by simpa using h4)
    have go := fun (h1 : rs[i] = marks (k + sumL (rs.take i)) rs[i].length) => ih (i + 1) ⟨by omega, by rw [hsn, List.take_succ_eq_append_getElem hlt, ← hi.2, ← h1]⟩ (by omega)
    have e : k + ((sumL (rs.take (i + 1)) : Nat) : Int) = k + sumL (rs.take i) + rs[i].length := by omega
    rw [e] at go
    clear ih
    refine Run2.of I 1000 ?_
    simp -implicitDefEqProofs [hlt]
    refine (heldInt64S_s rs[i] _ h (by omega) (by omega)).mono ?_
    rintro v h' ⟨rfl, rfl⟩
    by_cases h1 : rs[i] = marks (k + sumL (rs.take i)) rs[i].length
    · have go1 := go h1
      rw [if_pos h1]
      refine gK.go ?_
      simp -implicitDefEqProofs [hlt]
      refine ⟨fun h => by omega, fun _ => ⟨by omega, ?_⟩⟩
      simpa using go1
    · have hb := hbad h1
      rw [if_neg h1]
      refine gK.go ?_
      simp -implicitDefEqProofs [hlt, hb]
  · obtain rfl : i = rs.length := by omega
    have h2 := hi.2
    rw [List.take_length] at h2
    refine Run2.of I 1000 ?_
    simp -implicitDefEqProofs
    exact fun h => absurd h2 h
/-! ## In the laws: with other memory about -/
theorem toInt64SS_n (rs : List (List Int)) (h : Heap) (hl : ssTot rs ≤ 1048576) : ACalls Try.prog 38 [.snap 1 (rs.map il)] h (fun v h' => ∃ h1, OwnLL v rs h1 ∧ (∀ i ∈ dom h1, i ∉ dom h) ∧ h' = h1 ++ h) := toInt64SS_o rs h (fit_of_tot hl)
theorem toInt64SS_t (rs : List (List Int)) (h : Heap) (hl : ssTot rs ≤ 1048576) : ACalls Try.prog 38 [.snap 1 (rs.map il)] h (fun v h' => v = .snap 1 (rs.map il) ∧ h' = h) := toInt64SS_c rs h (fit_of_tot hl)
theorem eqL_own {w u : AV} {l m : List (List Int)} {g h : Heap} (o : OwnLL w l g) (hu : IsLL u m) (hs : ∀ p ∈ g, p ∈ h) (hl : ssTot l ≤ 1048576) : ACalls Try.prog 12 [w, u] h (fun r h' => r = .bool (decide (l = m)) ∧ h' = h) := by
  refine ACalls.reads g hs ?_ rfl
  rw [lend_cons, lend_cons, lend_nil', lend1_cold g hu.cold]
  exact ACalls.wk (.cons o.lent.wk (.cons hu.wk .nil)) (eqInt64SS_s l m [] (fit_of_tot hl))
theorem heldL_own {w : AV} {l : List (List Int)} {g h : Heap} (o : OwnLL w l g) (hs : ∀ p ∈ g, p ∈ h) (k : Int) (hk : 0 ≤ k ∧ k ≤ 1073741824) (hl : ssTot l ≤ 1048576) : ACalls Try.prog 16 [w, .int .i64 k] h (fun r h' => r = .int .i64 (if l = marksL k l then k + sumL l else -1) ∧ h' = h) := by
  refine ACalls.reads g hs ?_ rfl
  rw [lend_cons, lend_cons, lend_nil', lend1_cold g (x := .int .i64 k) rfl]
  exact ACalls.wk (.cons o.lent.wk (.refl _)) (heldInt64SS_s l k [] hk hl)
theorem markL_drop {w : AV} {l : List (List Int)} {g h : Heap} (o : OwnLL w l g) (keep : Heap) (hs : ∀ p ∈ g, p ∈ h) (hk : ∀ p ∈ keep, p ∈ h ∧ p.1 ∉ dom g) (nk : (dom h).Nodup → (dom keep).Nodup) (k : Int) (hk1 : 0 ≤ k ∧ k ≤ 1073741824) (hl : ssTot l ≤ 1048576) : ACalls Try.prog 15 [w, .int .i64 k] h (fun r h' => r = .int .i64 (k + sumL l) ∧ h' = keep) :=
  ACalls.marks g keep o.nodup hs hk nk (S := fun h' => OwnLL w (marksL k l) h') (markInt64SS_o o k hk1 hl) ⟨rfl, fun h' ho => ho.own.2⟩
theorem markL_keep {w : AV} {l : List (List Int)} {g h : Heap} (o : OwnLL w l g) (keep : Heap) (hs : ∀ p ∈ g, p ∈ h) (hk : ∀ p ∈ keep, p ∈ h ∧ p.1 ∉ dom g) (nk : (dom h).Nodup → (dom keep).Nodup) (k : Int) (hk1 : 0 ≤ k ∧ k ≤ 1073741824) (hl : ssTot l ≤ 1048576) : ACalls Try.prog 15 [w, .int .i64 k] h (fun r h' => ∃ g', r = .int .i64 (k + sumL l) ∧ OwnLL w (marksL k l) g' ∧ h' = g' ++ keep) :=
  (ACalls.frame g [] keep o.nodup hs (by simp) hk nk (S := fun v h' => v = .int .i64 (k + sumL l) ∧ OwnLL w (marksL k l) h') (by simpa [lend] using markInt64SS_o o k hk1 hl) (fun v h' e => by obtain ⟨rfl, e⟩ := e; exact ⟨rfl, e.own.2⟩)).mono fun v h' ⟨g', ⟨e1, e2⟩, _, e3⟩ => ⟨g', e1, e2, e3⟩
end Go.AG
