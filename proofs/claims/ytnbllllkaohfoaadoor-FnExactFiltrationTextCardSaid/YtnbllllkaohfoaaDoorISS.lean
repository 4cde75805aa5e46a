/- What the set's own helpers of slices of slices of whole numbers do: they copy, compare, count, mark. No statement is made here. -/
import Derived.Test.YtnbllllkaohfoaaDoorIntS
import Derived.Test.YtnbllllkaohfoaaDoorAGLists
namespace Go.AG
open Go.Proofs Go.Proofs.YtnbllllkaohfoaaDoor
set_option linter.unusedSimpArgs false
set_option linter.unusedVariables false
set_option maxRecDepth 4000
abbrev LS := List (List Int)
def wfSS (rs : List (List Int)) : Prop := (∀ r ∈ rs, wfI r) ∧ rs.length ≤ 9223372036854775807
theorem Lists_list : ∀ {xs : List AV}, (∀ x ∈ xs, isAgg x = (Ty.slice (.int .i64)).isS ∧ shC (.slice (.int .i64)) (cellsOf x)) → ∃ rs : List (List Int), xs = rs.map il ∧ ∀ r ∈ rs, wfI r
  | [], _ => ⟨[], rfl, by simp⟩
  | x :: xs, h => by
    obtain ⟨r, rfl, hr⟩ := Ints_of_shape (h x (List.mem_cons_self ..))
    obtain ⟨rs, rfl, hrs⟩ := Lists_list (xs := xs) fun y hy => h y (List.mem_cons_of_mem _ hy)
    exact ⟨r :: rs, rfl, by simpa using ⟨hr, hrs⟩⟩
def tySS : Ty := .slice (.slice (.int .i64))
theorem Lists_of_shape {x : AV} (h : shV tySS x) : ∃ rs : List (List Int), x = .snap 1 (rs.map il) ∧ wfSS rs := by
  obtain ⟨h1, xs, e1, hlen, r3⟩ := h
  have hm : maxLen ≤ 9223372036854775807 := by decide
  obtain ⟨rs, rfl, hl⟩ := Lists_list r3
  cases x <;> simp [isAgg, tySS, Ty.isS, cellsOf] at h1 e1
  rw [e1.1, e1.2]
  exact ⟨rs, rfl, hl, by simp only [List.length_map] at hlen; exact Nat.le_trans hlen hm⟩
/-- As many as the laws allow. -/
def fitSS (rs : List (List Int)) : Prop := rs.length ≤ 1048576 ∧ ∀ r ∈ rs, r.length ≤ 1048576
noncomputable def orcI1 : List (Nat × (List AV → Option (Prop × AV))) := (30, o_toInt64S) :: (35, o_eqInt64S) :: []
theorem orcI1_p : Pure Tryd.prog (lk orcI1) := (lk_pure o_toInt64S_k (lk_pure o_eqInt64S_k lk_pure0))
@[simp] theorem orcI1_l (b : Bool) (g : FuncId) (l : List AV) : lk orcI1 b g l = if g = 30 then o_toInt64S l else if g = 35 then o_eqInt64S l else none := nr rfl
abbrev k9_o0 : List AJ := [.o ⟨(some 2), none, false, .mv (.c .nilsl), (some [0])⟩]
abbrev k9_o1 : List AJ := [.o ⟨(some 5), none, false, .mv (.t 0), none⟩, .o ⟨(some 6), none, false, .len (.t 5), none⟩, .o ⟨(some 7), none, false, .mksl 1 24 .nilsl (.t 6) (.t 6), none⟩, .o ⟨(some 3), none, false, .mv (.t 7), (some [0, 3])⟩]
abbrev k9_o2 : List AJ := [.o ⟨(some 4), none, false, .mv (.c (.int .i64 0)), (some [0, 3, 4])⟩]
abbrev k9_o3 : List AJ := [.o ⟨(some 8), none, false, .mv (.t 4), none⟩, .o ⟨(some 9), none, false, .mv (.t 0), none⟩, .o ⟨(some 10), none, false, .len (.t 9), none⟩, .o ⟨(some 11), none, false, .bin .lss (.t 8) (.t 10), (some [0, 3, 4, 11])⟩]
def k9_4 : ACode := .cond (.t 11) .skip (.exit 0)
def k9_5 : ACode := .seq (.region k9_o3) k9_4
abbrev k9_o4 : List AJ := [.o ⟨(some 14), none, false, .mv (.t 3), none⟩, .o ⟨(some 15), none, false, .mv (.t 4), none⟩, .o ⟨(some 16), none, false, .mv (.t 0), none⟩, .o ⟨(some 17), none, false, .mv (.t 4), none⟩, .o ⟨(some 18), none, false, .idxA 1 (.t 16) (.t 17), none⟩, .o ⟨(some 19), none, false, .load 1 false (.t 18), none⟩, .o ⟨(some 20), none, false, .call 30 [(.t 19)], none⟩, .o ⟨(some 21), none, false, .idxA 1 (.t 14) (.t 15), none⟩, .o ⟨none, none, false, .store 1 (.t 21) (.t 20), (some [0, 3, 4])⟩]
def k9_6 : ACode := .region k9_o4
abbrev k9_o5 : List AJ := [.o ⟨(some 12), none, false, .mv (.t 4), none⟩, .o ⟨(some 13), none, true, .bin .add (.t 12) (.c (.int .i64 1)), none⟩, .o ⟨(some 4), none, false, .mv (.t 13), (some [0, 3, 4])⟩]
def k9_8 : ACode := .region k9_o5
def k9_9 : ACode := .seq (.block 1 k9_6) k9_8
def k9_10 : ACode := .seq k9_5 k9_9
def k9_11 : ACode := .loop k9_10
def k9_12 : ACode := .block 0 k9_11
def k9_13 : ACode := .seq (.region k9_o2) k9_12
abbrev k9_o6 : List AJ := [.o ⟨(some 22), none, false, .mv (.t 3), none⟩, .o ⟨(some 2), none, false, .mv (.t 22), (some [2])⟩]
def k9_15 : ACode := .seq (.region k9_o6) .ret
def k9_16 : ACode := .seq k9_13 k9_15
def k9_17 : ACode := .seq (.region k9_o1) k9_16
def k9_18 : ACode := .seq (.region k9_o0) k9_17
@[simp, simp ↓] theorem k9_4r : rC k9_4 (.t 11) .skip (.exit 0) := zC rfl
@[simp, simp ↓] theorem k9_5r : sR k9_5 k9_o3 k9_4 := yR rfl
@[simp, simp ↓] theorem k9_6r : rR k9_6 k9_o4 := zR rfl
@[simp, simp ↓] theorem k9_8r : rR k9_8 k9_o5 := zR rfl
@[simp, simp ↓] theorem k9_9r : sB k9_9 1 k9_6 k9_8 := yB rfl
@[simp, simp ↓] theorem k9_10r : rS k9_10 k9_5 k9_9 := zS rfl
@[simp, simp ↓] theorem k9_11r : rL k9_11 k9_10 := zL rfl
@[simp, simp ↓] theorem k9_12r : rB k9_12 0 k9_11 := zB rfl
@[simp, simp ↓] theorem k9_13r : sR k9_13 k9_o2 k9_12 := yR rfl
@[simp, simp ↓] theorem k9_15r : sR k9_15 k9_o6 .ret := yR rfl
@[simp, simp ↓] theorem k9_16r : rS k9_16 k9_13 k9_15 := zS rfl
@[simp, simp ↓] theorem k9_17r : sR k9_17 k9_o1 k9_16 := yR rfl
@[simp, simp ↓] theorem k9_18r : sR k9_18 k9_o0 k9_17 := yR rfl
noncomputable abbrev k9_C : Orc → Cx := mkC Tryd.prog [] 9 23 [.tmp 2]
theorem k9_of : OfP Tryd.prog Tryd.f9 9 23 k9_C k9_18 := @ofP _ _ _ _ _ _ _ _ Tryd.func9 (by decide +kernel) rfl (by kernel_rfl) rfl (by kernel_rfl)
theorem k9_of0 : OfP0 Tryd.prog Tryd.f9 9 23 k9_C k9_18 := @ofP0 _ _ _ _ _ _ _ _ Tryd.func9 (by decide +kernel) rfl (by kernel_rfl) rfl (by kernel_rfl)
theorem toInt64SS_c (rs : List (List Int)) (h : Heap) (hl : fitSS rs) : ACalls Tryd.prog 9 [.snap 1 (rs.map il)] h (fun v h' => v = .snap 1 (rs.map il) ∧ h' = h) := by
  have hn := hl.1
  refine k9_of rfl orcI1_p fun I => ?_
  refine Run2.of I 1000 ?_
  simp -implicitDefEqProofs
  refine ⟨by omega, fun id hid => ?_⟩
  refine Run2.loop (fun i => [(0, .snap 1 (rs.map il)), (3, .sl id 1 0 rs.length (some rs.length)), (4, .int .i64 (i : Nat))]) (fun i => (id, ⟨1, (rs.map il).take i ++ List.replicate (rs.length - i) .nilsl⟩) :: h) (fun i => rs.length - i) (fun i => i ≤ rs.length) 0 (Nat.zero_le _) fun i hi ih => ?_
  by_cases hlt : i < rs.length
  · have hr := hl.2 _ (List.getElem_mem hlt)
    have go := ih (i + 1) (by omega) (by omega)
    rw [← set_fill (rs.map il) .nilsl (i := i) (n := rs.length) (by simp) (by simpa using hlt) (x := il rs[i]) (by simp)] at go
    clear ih
    refine Run2.of I 1000 ?_
    simp -implicitDefEqProofs [hlt, hr]
    refine ⟨by omega, by omega, ?_⟩
    simpa using go
  · obtain rfl : i = rs.length := by omega
    refine Run2.of I 1000 ?_
    simp -implicitDefEqProofs
    rw [List.take_of_length_le (by simp)]
    refine .freeze id (by simp [hget]; rfl) (.base ⟨?_, by simp [hdel]⟩)
    simp [fz, List.take_of_length_le]
noncomputable def o_toInt64SS : List AV → Option (Prop × AV) := tab (fun (x : LS) => match x with | rs => [.snap 1 (rs.map il)]) (fun x => match x with | rs => fitSS rs) (fun x => match x with | rs => .snap 1 (rs.map il))
@[simp] theorem o_toInt64SS_e (rs : LS) : o_toInt64SS [.snap 1 (rs.map il)] = some (fitSS rs, .snap 1 (rs.map il)) := tab_at (enc := fun (x : LS) => match x with | rs => [.snap 1 (rs.map il)]) (fun x y h => by
  simp at h; simp [h] <;> omega) _ _ rs
theorem o_toInt64SS_k : Knows Tryd.prog 9 o_toInt64SS := tab_knows fun x hx h => by
  exact toInt64SS_c x h hx
abbrev k27_o0 : List AJ := [.o ⟨(some 4), none, false, .mv (.c (.int .i64 0)), (some [0, 1])⟩]
abbrev k27_o1 : List AJ := [.o ⟨(some 5), none, false, .mv (.t 1), none⟩, .o ⟨(some 6), none, false, .mv (.t 0), none⟩, .o ⟨(some 7), none, false, .len (.t 6), none⟩, .o ⟨(some 8), none, true, .bin .sub (.t 5) (.t 7), none⟩, .o ⟨(some 1), none, false, .mv (.t 8), (some [1])⟩]
abbrev k27_o2 : List AJ := [.o ⟨(some 9), none, false, .mv (.t 1), none⟩, .o ⟨(some 10), none, false, .bin .lss (.t 9) (.c (.int .i64 0)), (some [1, 10])⟩]
abbrev k27_o3 : List AJ := [.o ⟨(some 4), none, false, .mv (.c (.int .i64 (-1))), (some [4])⟩]
def k27_4 : ACode := .seq (.region k27_o3) .ret
def k27_5 : ACode := .cond (.t 10) k27_4 .skip
def k27_6 : ACode := .seq (.region k27_o2) k27_5
abbrev k27_o4 : List AJ := [.o ⟨(some 11), none, false, .mv (.t 1), none⟩, .o ⟨(some 4), none, false, .mv (.t 11), (some [4])⟩]
def k27_8 : ACode := .seq (.region k27_o4) .ret
def k27_9 : ACode := .seq k27_6 k27_8
def k27_10 : ACode := .seq (.region k27_o1) k27_9
def k27_11 : ACode := .seq (.region k27_o0) k27_10
@[simp, simp ↓] theorem k27_4r : sR k27_4 k27_o3 .ret := yR rfl
@[simp, simp ↓] theorem k27_5r : rC k27_5 (.t 10) k27_4 .skip := zC rfl
@[simp, simp ↓] theorem k27_6r : sR k27_6 k27_o2 k27_5 := yR rfl
@[simp, simp ↓] theorem k27_8r : sR k27_8 k27_o4 .ret := yR rfl
@[simp, simp ↓] theorem k27_9r : rS k27_9 k27_6 k27_8 := zS rfl
@[simp, simp ↓] theorem k27_10r : sR k27_10 k27_o1 k27_9 := yR rfl
@[simp, simp ↓] theorem k27_11r : sR k27_11 k27_o0 k27_10 := yR rfl
noncomputable abbrev k27_C : Orc → Cx := mkC Tryd.prog [] 27 12 [.tmp 4]
theorem k27_of0 : OfP0 Tryd.prog Tryd.f27 27 12 k27_C k27_11 := @ofP0 _ _ _ _ _ _ _ _ Tryd.func27 (by decide +kernel) rfl (by kernel_rfl) rfl (by kernel_rfl)
theorem szInt64S_c (l : List Int) (n : Int) (h : Heap) (hn : 0 ≤ n ∧ n ≤ 1048576) (hl : l.length ≤ 9223372036854775807) : ACalls Tryd.prog 27 [.snap 1 (l.map iv), .int .i64 n] h (fun v h' => v = .int .i64 (if n < l.length then -1 else n - l.length) ∧ h' = h) := by
  refine k27_of0 rfl noPure fun I => ?_
  refine Run2.of I 1000 ?_
  simp -implicitDefEqProofs
  grind
def sumL (rs : List (List Int)) : Nat := (rs.map List.length).sum
def ssTot (rs : List (List Int)) : Nat := rs.length + sumL rs
theorem sumL_take (rs : List (List Int)) {i : Nat} (hi : i < rs.length) : sumL (rs.take (i + 1)) = sumL (rs.take i) + rs[i].length := by
  unfold sumL
  rw [List.take_succ_eq_append_getElem hi, List.map_append, List.sum_append]
  simp
theorem sumL_le (rs : List (List Int)) (i : Nat) : sumL (rs.take i) ≤ sumL rs := by
  conv => rhs; rw [← List.take_append_drop i rs]
  unfold sumL
  rw [List.map_append, List.sum_append]
  omega
theorem len_sumL {rs : List (List Int)} {r : List Int} (h : r ∈ rs) : r.length ≤ sumL rs := by
  obtain ⟨i, hi, rfl⟩ := List.mem_iff_getElem.1 h
  have := sumL_take rs hi
  have := sumL_le rs (i + 1)
  omega
theorem fit_of_tot {rs : List (List Int)} (h : ssTot rs ≤ 1048576) : fitSS rs := ⟨by unfold ssTot at h; omega, fun r hr => by have := len_sumL hr; unfold ssTot at h; omega⟩
abbrev k7_o0 : List AJ := [.o ⟨(some 4), none, false, .mv (.c (.int .i64 0)), (some [0, 1])⟩]
abbrev k7_o1 : List AJ := [.o ⟨(some 6), none, false, .mv (.t 1), none⟩, .o ⟨(some 7), none, false, .mv (.t 0), none⟩, .o ⟨(some 8), none, false, .len (.t 7), none⟩, .o ⟨(some 9), none, true, .bin .sub (.t 6) (.t 8), none⟩, .o ⟨(some 1), none, false, .mv (.t 9), (some [0, 1])⟩]
abbrev k7_o2 : List AJ := [.o ⟨(some 10), none, false, .mv (.t 1), none⟩, .o ⟨(some 11), none, false, .bin .lss (.t 10) (.c (.int .i64 0)), (some [0, 1, 11])⟩]
abbrev k7_o3 : List AJ := [.o ⟨(some 4), none, false, .mv (.c (.int .i64 (-1))), (some [4])⟩]
def k7_4 : ACode := .seq (.region k7_o3) .ret
def k7_5 : ACode := .cond (.t 11) k7_4 .skip
def k7_6 : ACode := .seq (.region k7_o2) k7_5
abbrev k7_o4 : List AJ := [.o ⟨(some 5), none, false, .mv (.c (.int .i64 0)), (some [0, 1, 5])⟩]
abbrev k7_o5 : List AJ := [.o ⟨(some 12), none, false, .mv (.t 5), none⟩, .o ⟨(some 13), none, false, .mv (.t 0), none⟩, .o ⟨(some 14), none, false, .len (.t 13), none⟩, .o ⟨(some 15), none, false, .bin .lss (.t 12) (.t 14), (some [0, 1, 5, 15])⟩]
def k7_9 : ACode := .cond (.t 15) .skip (.exit 0)
def k7_10 : ACode := .seq (.region k7_o5) k7_9
abbrev k7_o6 : List AJ := [.o ⟨(some 18), none, false, .mv (.t 0), none⟩, .o ⟨(some 19), none, false, .mv (.t 5), none⟩, .o ⟨(some 20), none, false, .idxA 1 (.t 18) (.t 19), none⟩, .o ⟨(some 21), none, false, .load 1 false (.t 20), none⟩, .o ⟨(some 22), none, false, .mv (.t 1), none⟩, .o ⟨(some 23), none, false, .call 27 [(.t 21), (.t 22)], none⟩, .o ⟨(some 1), none, false, .mv (.t 23), (some [0, 1, 5])⟩]
abbrev k7_o7 : List AJ := [.o ⟨(some 24), none, false, .mv (.t 1), none⟩, .o ⟨(some 25), none, false, .bin .lss (.t 24) (.c (.int .i64 0)), (some [0, 1, 5, 25])⟩]
abbrev k7_o8 : List AJ := [.o ⟨(some 4), none, false, .mv (.c (.int .i64 (-1))), (some [4])⟩]
def k7_14 : ACode := .seq (.region k7_o8) .ret
def k7_15 : ACode := .cond (.t 25) k7_14 .skip
def k7_16 : ACode := .seq (.region k7_o7) k7_15
def k7_17 : ACode := .seq (.region k7_o6) k7_16
abbrev k7_o9 : List AJ := [.o ⟨(some 16), none, false, .mv (.t 5), none⟩, .o ⟨(some 17), none, true, .bin .add (.t 16) (.c (.int .i64 1)), none⟩, .o ⟨(some 5), none, false, .mv (.t 17), (some [0, 1, 5])⟩]
def k7_19 : ACode := .region k7_o9
def k7_20 : ACode := .seq (.block 1 k7_17) k7_19
def k7_21 : ACode := .seq k7_10 k7_20
def k7_22 : ACode := .loop k7_21
def k7_23 : ACode := .block 0 k7_22
def k7_24 : ACode := .seq (.region k7_o4) k7_23
abbrev k7_o10 : List AJ := [.o ⟨(some 26), none, false, .mv (.t 1), none⟩, .o ⟨(some 4), none, false, .mv (.t 26), (some [4])⟩]
def k7_26 : ACode := .seq (.region k7_o10) .ret
def k7_27 : ACode := .seq k7_24 k7_26
def k7_28 : ACode := .seq k7_6 k7_27
def k7_29 : ACode := .seq (.region k7_o1) k7_28
def k7_30 : ACode := .seq (.region k7_o0) k7_29
@[simp, simp ↓] theorem k7_4r : sR k7_4 k7_o3 .ret := yR rfl
@[simp, simp ↓] theorem k7_5r : rC k7_5 (.t 11) k7_4 .skip := zC rfl
@[simp, simp ↓] theorem k7_6r : sR k7_6 k7_o2 k7_5 := yR rfl
@[simp, simp ↓] theorem k7_9r : rC k7_9 (.t 15) .skip (.exit 0) := zC rfl
@[simp, simp ↓] theorem k7_10r : sR k7_10 k7_o5 k7_9 := yR rfl
@[simp, simp ↓] theorem k7_14r : sR k7_14 k7_o8 .ret := yR rfl
@[simp, simp ↓] theorem k7_15r : rC k7_15 (.t 25) k7_14 .skip := zC rfl
@[simp, simp ↓] theorem k7_16r : sR k7_16 k7_o7 k7_15 := yR rfl
@[simp, simp ↓] theorem k7_17r : sR k7_17 k7_o6 k7_16 := yR rfl
@[simp, simp ↓] theorem k7_19r : rR k7_19 k7_o9 := zR rfl
@[simp, simp ↓] theorem k7_20r : sB k7_20 1 k7_17 k7_19 := yB rfl
@[simp, simp ↓] theorem k7_21r : rS k7_21 k7_10 k7_20 := zS rfl
@[simp, simp ↓] theorem k7_22r : rL k7_22 k7_21 := zL rfl
@[simp, simp ↓] theorem k7_23r : rB k7_23 0 k7_22 := zB rfl
@[simp, simp ↓] theorem k7_24r : sR k7_24 k7_o4 k7_23 := yR rfl
@[simp, simp ↓] theorem k7_26r : sR k7_26 k7_o10 .ret := yR rfl
@[simp, simp ↓] theorem k7_27r : rS k7_27 k7_24 k7_26 := zS rfl
@[simp, simp ↓] theorem k7_28r : rS k7_28 k7_6 k7_27 := zS rfl
@[simp, simp ↓] theorem k7_29r : sR k7_29 k7_o1 k7_28 := yR rfl
@[simp, simp ↓] theorem k7_30r : sR k7_30 k7_o0 k7_29 := yR rfl
noncomputable abbrev k7_C : Orc → Cx := mkC Tryd.prog [] 7 27 [.tmp 4]
theorem k7_of0 : OfP0 Tryd.prog Tryd.f7 7 27 k7_C k7_30 := @ofP0 _ _ _ _ _ _ _ _ Tryd.func7 (by decide +kernel) rfl (by kernel_rfl) rfl (by kernel_rfl)
theorem szInt64SS_c (rs : List (List Int)) (n : Int) (h : Heap) (hn : 0 ≤ n ∧ n ≤ 1048576) (hw : wfSS rs) : ACalls Tryd.prog 7 [.snap 1 (rs.map il), .int .i64 n] h (fun v h' => v = .int .i64 (if n < ssTot rs then -1 else n - ssTot rs) ∧ h' = h) := by
  have hl := hw.2
  refine k7_of0 rfl noPure fun I => ?_
  refine Run2.of I 1000 ?_
  simp -implicitDefEqProofs
  refine ⟨by omega, fun h1 => ?_, fun h1 => ?_⟩
  · intro h2; exfalso; unfold ssTot at h2; omega
  · refine Run2.loopE (fun (i : Nat) => [(0, .snap 1 (rs.map il)), (1, .int .i64 (n - rs.length - sumL (rs.take i))), (5, .int .i64 i)]) (fun i => h) (fun i => rs.length - i) (fun i => i ≤ rs.length ∧ rs.length + sumL (rs.take i) ≤ n) 0 (by simp [sumL]) rfl ⟨Nat.zero_le _, by simp [sumL]; omega⟩ fun i hi ih => ?_
    by_cases hlt : i < rs.length
    · have hr := (hw.1 _ (List.getElem_mem hlt)).2
      have hs := sumL_take rs hlt
      have hle := sumL_le rs (i + 1)
      refine Run2.of I 1000 ?_
      simp -implicitDefEqProofs [hlt]
      refine (szInt64S_c rs[i] _ h (by omega) hr).mono ?_
      rintro v h' ⟨rfl, rfl⟩
      refine gK.go ?_
      by_cases h2 : n - rs.length - sumL (rs.take i) < rs[i].length
      · simp -implicitDefEqProofs [h2]
        intro h3; exfalso; unfold ssTot at h3; omega
      · have go := ih (i + 1) ⟨by omega, by omega⟩ (by omega)
        have e : n - (rs.length : Int) - (sumL (rs.take (i + 1)) : Nat) = n - rs.length - sumL (rs.take i) - rs[i].length := by omega
        rw [e] at go
        simp -implicitDefEqProofs [h2]
        refine ⟨fun h3 => by omega, fun h3 => ⟨by omega, ?_⟩⟩
        simpa using go
    · obtain rfl : i = rs.length := by omega
      have h2 := hi.2
      rw [List.take_length] at h2
      refine Run2.of I 1000 ?_
      simp -implicitDefEqProofs
      have h3 : ¬ n < ssTot rs := by unfold ssTot; omega
      rw [if_neg h3]; unfold ssTot; omega
noncomputable def o_szInt64SS : List AV → Option (Prop × AV) := tab (fun (x : LS × Int) => match x with | (rs, k) => [.snap 1 (rs.map il), .int .i64 k]) (fun x => match x with | (rs, k) => ((0 ≤ k ∧ k ≤ 1048576) ∧ wfSS rs)) (fun x => match x with | (rs, k) => .int .i64 (if k < ssTot rs then -1 else k - ssTot rs))
@[simp] theorem o_szInt64SS_e (rs : LS) (k : Int) : o_szInt64SS [.snap 1 (rs.map il), .int .i64 k] = some (((0 ≤ k ∧ k ≤ 1048576) ∧ wfSS rs), .int .i64 (if k < ssTot rs then -1 else k - ssTot rs)) := tab_at (enc := fun (x : LS × Int) => match x with | (rs, k) => [.snap 1 (rs.map il), .int .i64 k]) (fun x y h => by
  obtain ⟨rs1, k1⟩ := x; obtain ⟨rs2, k2⟩ := y; simp at h; simp [h] <;> omega) _ _ (rs, k)
theorem o_szInt64SS_k : Knows Tryd.prog 7 o_szInt64SS := tab_knows fun x hx h => by
  obtain ⟨rs, k⟩ := x; exact szInt64SS_c rs k h hx.1 hx.2
abbrev k11_o0 : List AJ := [.o ⟨(some 4), none, false, .mv (.c (.bool false)), (some [0, 1])⟩]
abbrev k11_o1 : List AJ := [.o ⟨(some 6), none, false, .mv (.t 0), none⟩, .o ⟨(some 7), none, false, .len (.t 6), none⟩, .o ⟨(some 8), none, false, .mv (.t 1), none⟩, .o ⟨(some 9), none, false, .len (.t 8), none⟩, .o ⟨(some 10), none, false, .bin .neq (.t 7) (.t 9), (some [0, 1, 10])⟩]
abbrev k11_o2 : List AJ := [.o ⟨(some 4), none, false, .mv (.c (.bool false)), (some [4])⟩]
def k11_3 : ACode := .seq (.region k11_o2) .ret
def k11_4 : ACode := .cond (.t 10) k11_3 .skip
def k11_5 : ACode := .seq (.region k11_o1) k11_4
abbrev k11_o3 : List AJ := [.o ⟨(some 5), none, false, .mv (.c (.int .i64 0)), (some [0, 1, 5])⟩]
abbrev k11_o4 : List AJ := [.o ⟨(some 11), none, false, .mv (.t 5), none⟩, .o ⟨(some 12), none, false, .mv (.t 0), none⟩, .o ⟨(some 13), none, false, .len (.t 12), none⟩, .o ⟨(some 14), none, false, .bin .lss (.t 11) (.t 13), (some [0, 1, 5, 14])⟩]
def k11_8 : ACode := .cond (.t 14) .skip (.exit 0)
def k11_9 : ACode := .seq (.region k11_o4) k11_8
abbrev k11_o5 : List AI := [⟨(some 17), none, false, .mv (.t 0), none⟩, ⟨(some 18), none, false, .mv (.t 5), none⟩, ⟨(some 19), none, false, .idxA 1 (.t 17) (.t 18), none⟩, ⟨(some 20), none, false, .load 1 false (.t 19), none⟩, ⟨(some 21), none, false, .mv (.t 1), none⟩, ⟨(some 22), none, false, .mv (.t 5), none⟩, ⟨(some 23), none, false, .idxA 1 (.t 21) (.t 22), none⟩, ⟨(some 24), none, false, .load 1 false (.t 23), none⟩, ⟨(some 25), none, false, .call 35 [(.t 20), (.t 24)], none⟩, ⟨(some 26), none, false, .un .not (.t 25), (some [0, 1, 5, 26])⟩]
abbrev k11_o6 : List AJ := [.o ⟨(some 4), none, false, .mv (.c (.bool false)), (some [4])⟩]
def k11_12 : ACode := .seq (.region k11_o6) .ret
def k11_13 : ACode := .cond (.t 26) k11_12 .skip
def k11_14 : ACode := .seq (.draw k11_o5 [] rfl) k11_13
abbrev k11_o7 : List AJ := [.o ⟨(some 15), none, false, .mv (.t 5), none⟩, .o ⟨(some 16), none, true, .bin .add (.t 15) (.c (.int .i64 1)), none⟩, .o ⟨(some 5), none, false, .mv (.t 16), (some [0, 1, 5])⟩]
def k11_16 : ACode := .region k11_o7
def k11_17 : ACode := .seq (.block 1 k11_14) k11_16
def k11_18 : ACode := .seq k11_9 k11_17
def k11_19 : ACode := .loop k11_18
def k11_20 : ACode := .block 0 k11_19
def k11_21 : ACode := .seq (.region k11_o3) k11_20
abbrev k11_o8 : List AJ := [.o ⟨(some 4), none, false, .mv (.c (.bool true)), (some [4])⟩]
def k11_23 : ACode := .seq (.region k11_o8) .ret
def k11_24 : ACode := .seq k11_21 k11_23
def k11_25 : ACode := .seq k11_5 k11_24
def k11_26 : ACode := .seq (.region k11_o0) k11_25
@[simp, simp ↓] theorem k11_3r : sR k11_3 k11_o2 .ret := yR rfl
@[simp, simp ↓] theorem k11_4r : rC k11_4 (.t 10) k11_3 .skip := zC rfl
@[simp, simp ↓] theorem k11_5r : sR k11_5 k11_o1 k11_4 := yR rfl
@[simp, simp ↓] theorem k11_8r : rC k11_8 (.t 14) .skip (.exit 0) := zC rfl
@[simp, simp ↓] theorem k11_9r : sR k11_9 k11_o4 k11_8 := yR rfl
@[simp, simp ↓] theorem k11_12r : sR k11_12 k11_o6 .ret := yR rfl
@[simp, simp ↓] theorem k11_13r : rC k11_13 (.t 26) k11_12 .skip := zC rfl
@[simp, simp ↓] theorem k11_14r : sD k11_14 k11_o5 [] k11_13 := yD rfl
@[simp, simp ↓] theorem k11_16r : rR k11_16 k11_o7 := zR rfl
@[simp, simp ↓] theorem k11_17r : sB k11_17 1 k11_14 k11_16 := yB rfl
@[simp, simp ↓] theorem k11_18r : rS k11_18 k11_9 k11_17 := zS rfl
@[simp, simp ↓] theorem k11_19r : rL k11_19 k11_18 := zL rfl
@[simp, simp ↓] theorem k11_20r : rB k11_20 0 k11_19 := zB rfl
@[simp, simp ↓] theorem k11_21r : sR k11_21 k11_o3 k11_20 := yR rfl
@[simp, simp ↓] theorem k11_23r : sR k11_23 k11_o8 .ret := yR rfl
@[simp, simp ↓] theorem k11_24r : rS k11_24 k11_21 k11_23 := zS rfl
@[simp, simp ↓] theorem k11_25r : rS k11_25 k11_5 k11_24 := zS rfl
@[simp, simp ↓] theorem k11_26r : sR k11_26 k11_o0 k11_25 := yR rfl
noncomputable abbrev k11_C : Orc → Cx := mkC Tryd.prog [] 11 27 [.tmp 4]
theorem k11_of0 : OfP0 Tryd.prog Tryd.f11 11 27 k11_C k11_26 := @ofP0 _ _ _ _ _ _ _ _ Tryd.func11 (by decide +kernel) rfl (by kernel_rfl) rfl (by kernel_rfl)
theorem eqInt64SS_s (l m : List (List Int)) (h : Heap) (hl : fitSS l) : ACalls Tryd.prog 11 [.snap 1 (l.map il), .snap 1 (m.map il)] h (fun v h' => v = .bool (decide (l = m)) ∧ h' = h) := by
  have hn := hl.1
  refine k11_of0 rfl orcI1_p fun I => ?_
  refine Run2.of I 1000 ?_
  simp -implicitDefEqProofs
  refine ⟨by rintro hne rfl; exact hne rfl, fun hlen => ?_⟩
  refine Run2.loop (fun i => [(0, .snap 1 (l.map il)), (1, .snap 1 (m.map il)), (5, .int .i64 (i : Nat))]) (fun i => h) (fun i => l.length - i) (fun i => i ≤ l.length ∧ l.take i = m.take i) 0 (by simp) fun i hi ih => ?_
  by_cases hlt : i < l.length
  · have hlt' : i < m.length := by omega
    have hr := hl.2 _ (List.getElem_mem hlt)
    refine Run2.of I 1000 ?_
    simp -implicitDefEqProofs [hlt, hlt', hr]
    constructor
    · rintro hne rfl
      exact hne rfl
    · intro he
      refine ⟨by omega, ?_⟩
      have := ih (i + 1) ⟨by omega, by rw [List.take_succ_eq_append_getElem hlt, List.take_succ_eq_append_getElem hlt', hi.2, he]⟩ (by omega)
      simpa using this
  · refine Run2.of I 1000 ?_
    simp -implicitDefEqProofs [hlt]
    have : i = l.length := by omega
    have h2 := hi.2
    rw [List.take_of_length_le (by omega), List.take_of_length_le (by omega)] at h2
    exact h2
/-- The slices that a slice holds which nobody writes. -/
def listsOf : AV → List (List Int)
  | .snap _ l => l.map intsOf
  | _ => []
@[simp] theorem listsOf_snap (s : Nat) (rs : List (List Int)) : listsOf (.snap s (rs.map il)) = rs := by
  simp only [listsOf, List.map_map]
  exact List.map_id'' (fun r => intsOf_snap 1 r) rs
@[simp] theorem listsOf_nil : listsOf .nilsl = [] := rfl
@[simp] theorem listsOf_emp : listsOf .emp = [] := rfl
def isLists (v : AV) : Prop := v = .nilsl ∨ v = .emp ∨ ∃ rs : List (List Int), v = .snap 1 (rs.map il)
@[simp] theorem isLists_snap (rs : List (List Int)) : isLists (.snap 1 (rs.map il)) := .inr (.inr ⟨rs, rfl⟩)
@[simp] theorem isLists_nil : isLists .nilsl := .inl rfl
@[simp] theorem isLists_emp : isLists .emp := .inr (.inl rfl)
theorem Wk.lists {v : AV} (h : isLists v) : Wk v (.snap 1 ((listsOf v).map il)) := by
  rcases h with rfl | rfl | ⟨rs, rfl⟩
  · exact Wk.nil 1
  · exact Wk.emp 1
  · rw [listsOf_snap]; exact Wk.refl _
theorem eqInt64SS_v (u v : AV) (h : Heap) (hu : isLists u) (hv : isLists v) (hl : fitSS (listsOf u)) : ACalls Tryd.prog 11 [u, v] h (fun r h' => r = .bool (decide (listsOf u = listsOf v)) ∧ h' = h) :=
  (eqInt64SS_s _ _ h hl).wk (.cons (.lists hu) (.cons (.lists hv) .nil))
noncomputable def o_eqInt64SS : List AV → Option (Prop × AV) := tab (fun (x : AV × AV) => match x with | (u, v) => [u, v]) (fun x => match x with | (u, v) => ((isLists u ∧ isLists v) ∧ fitSS (listsOf u))) (fun x => match x with | (u, v) => .bool (decide (listsOf u = listsOf v)))
@[simp] theorem o_eqInt64SS_e (u : AV) (v : AV) : o_eqInt64SS [u, v] = some (((isLists u ∧ isLists v) ∧ fitSS (listsOf u)), .bool (decide (listsOf u = listsOf v))) := tab_at (enc := fun (x : AV × AV) => match x with | (u, v) => [u, v]) (fun x y h => by
  obtain ⟨u1, v1⟩ := x; obtain ⟨u2, v2⟩ := y; simp at h; simp [h] <;> omega) _ _ (u, v)
theorem o_eqInt64SS_k : Knows Tryd.prog 11 o_eqInt64SS := tab_knows fun x hx h => by
  obtain ⟨u, v⟩ := x; exact eqInt64SS_v u v h hx.1.1 hx.1.2 hx.2
/-! ## With memory of their own -/
theorem toInt64SS_o (rs : List (List Int)) (h : Heap) (hl : fitSS rs) : ACalls Tryd.prog 9 [.snap 1 (rs.map il)] h (fun v h' => ∃ h1, OwnLL v rs h1 ∧ (∀ i ∈ dom h1, i ∉ dom h) ∧ h' = h1 ++ h) := by
  have hn := hl.1
  refine k9_of0 rfl noPure fun I => ?_
  refine Run2.of I 1000 ?_
  simp -implicitDefEqProofs
  refine ⟨by omega, fun id hid => ?_⟩
  refine Run2.loopE (α := Nat × List AV × Heap) (fun s => [(0, .snap 1 (rs.map il)), (3, .sl id 1 0 rs.length (some rs.length)), (4, .int .i64 (s.1 : Nat))]) (fun s => (id, ⟨1, s.2.1 ++ List.replicate (rs.length - s.1) .nilsl⟩) :: (s.2.2 ++ h)) (fun s => rs.length - s.1) (fun s => s.1 ≤ rs.length ∧ OwnLs s.2.1 (rs.take s.1) s.2.2 ∧ id ∉ dom s.2.2 ∧ ∀ j ∈ dom s.2.2, j ∉ dom h) (0, [], []) (by simp) (by simp) ⟨Nat.zero_le _, .nil, by simp [dom], by simp [dom]⟩ ?_
  rintro ⟨i, us, hi⟩ ⟨hin, ho, hd1, hd2⟩ ih
  simp only at hin ho hd1 hd2
  have hul : us.length = i := by rw [ho.len, List.length_take]; omega
  by_cases hlt : i < rs.length
  · have hr := hl.2 _ (List.getElem_mem hlt)
    refine Run2.of I 1000 ?_
    simp -implicitDefEqProofs [hlt]
    refine (toInt64S_o rs[i] _ hr).mono ?_
    rintro v h' ⟨h1, o, hd, rfl⟩
    have hcell := o.cell
    have hst := stor_of hcell
    have hcl : (cellsOf v).length = 1 := by rw [cells_of hcell]; rfl
    have hid1 : id ∉ dom h1 := fun hm => hd id hm (by simp [dom])
    have hgA : ∀ b, hget (h1 ++ b) id = hget b id := fun b => hget_app hid1
    have hsA : ∀ b c, hset (h1 ++ b) id c = h1 ++ hset b id c := fun b c => hset_app hid1
    have hd' : ∀ j ∈ dom h1, j ∉ dom hi ∧ j ∉ dom h := fun j hj => by
      have := hd j hj
      simp only [dom_cons, dom_append, List.mem_cons, List.mem_append, not_or] at this
      exact this.2
    have go := ih (i + 1, us ++ [v], hi ++ h1) ⟨by simp; omega, by
      rw [List.take_succ_eq_append_getElem hlt]
      exact ho.append (.one o) fun j hj hm => (hd' j hm).1 hj, by
      simp only [dom_append, List.mem_append, not_or]; exact ⟨hd1, hid1⟩, fun j hj => by
      simp only [dom_append, List.mem_append] at hj
      rcases hj with hj | hj
      · exact hd2 j hj
      · exact (hd' j hj).2⟩ (by simp; omega)
    clear ih
    have hset1 : (us ++ List.replicate (rs.length - i) AV.nilsl).set i v = us ++ [v] ++ List.replicate (rs.length - (i + 1)) .nilsl := by
      have hi' : i = us.length := by omega
      rw [List.set_append_right _ _ (by omega), show rs.length - i = (rs.length - (i + 1)) + 1 by omega, List.replicate_succ, List.append_assoc]
      simp [hi']
    refine gK.go ?_
    simp -implicitDefEqProofs [hcell, hst, hcl, hgA, hsA, hlt, hul, hset1]
    refine ⟨by omega, by omega, ?_⟩
    refine Run2.perm (perm_mid _ _ _ _) ?_
    simpa using go
  · obtain rfl : i = rs.length := by omega
    rw [List.take_length] at ho
    refine Run2.of I 1000 ?_
    simp -implicitDefEqProofs
    refine ⟨(id, ⟨1, us ++ []⟩) :: hi, .sl id _ _ [] rfl rfl ho hd1, ?_, by simp⟩
    simp only [dom_cons, List.mem_cons]
    rintro j (rfl | hj)
    · exact hid
    · exact hd2 j hj
/-- The marks that follow on k, as long as these. -/
def marksL : Int → List (List Int) → List (List Int)
  | _, [] => []
  | k, r :: rs => marks k r.length :: marksL (k + r.length) rs
theorem marksL_len (k : Int) (rs : List (List Int)) : (marksL k rs).length = rs.length := by
  induction rs generalizing k with
  | nil => rfl
  | cons r rs ih => simp [marksL, ih]
theorem marksL_snoc (r : List Int) : ∀ (k : Int) (rs : List (List Int)), marksL k (rs ++ [r]) = marksL k rs ++ [marks (k + sumL rs) r.length]
  | k, [] => by simp [marksL, sumL]
  | k, x :: rs => by
    simp only [List.cons_append, marksL, marksL_snoc r _ rs]
    congr 4
    simp [sumL]; omega
theorem marksL_take : ∀ (k : Int) (rs : List (List Int)) (j : Nat), (marksL k rs).take j = marksL k (rs.take j)
  | _, [], j => by simp [marksL]
  | _, _ :: _, 0 => rfl
  | k, r :: rs, j + 1 => by simp [marksL, marksL_take]
/-! ## In the laws: with other memory about -/
theorem toInt64SS_n (rs : List (List Int)) (h : Heap) (hl : ssTot rs ≤ 1048576) : ACalls Tryd.prog 9 [.snap 1 (rs.map il)] h (fun v h' => ∃ h1, OwnLL v rs h1 ∧ (∀ i ∈ dom h1, i ∉ dom h) ∧ h' = h1 ++ h) := toInt64SS_o rs h (fit_of_tot hl)
theorem toInt64SS_t (rs : List (List Int)) (h : Heap) (hl : ssTot rs ≤ 1048576) : ACalls Tryd.prog 9 [.snap 1 (rs.map il)] h (fun v h' => v = .snap 1 (rs.map il) ∧ h' = h) := toInt64SS_c rs h (fit_of_tot hl)
theorem eqL_own {w u : AV} {l m : List (List Int)} {g h : Heap} (o : OwnLL w l g) (hu : IsLL u m) (hs : ∀ p ∈ g, p ∈ h) (hl : ssTot l ≤ 1048576) : ACalls Tryd.prog 11 [w, u] h (fun r h' => r = .bool (decide (l = m)) ∧ h' = h) := by
  refine ACalls.reads g hs ?_ rfl
  rw [lend_cons, lend_cons, lend_nil', lend1_cold g hu.cold]
  exact ACalls.wk (.cons o.lent.wk (.cons hu.wk .nil)) (eqInt64SS_s l m [] (fit_of_tot hl))
end Go.AG
