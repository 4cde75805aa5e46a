/- LeastDrops: the functions that the program calls. No statement is made here. -/
import Derived.Test.YtdjamhallkijmaaPhCo
import Derived.Test.YtdjamhallkijmaaAGGrX
namespace Go.AG
open Go.Proofs Go.Proofs.Ytdjamhallkijmaa
set_option linter.unusedSimpArgs false
set_option linter.unusedVariables false
set_option maxRecDepth 4000
abbrev k34_o0 : List AJ := [.o ⟨(some 2), none, false, .mv (.c (.bool false)), (some [0])⟩]
abbrev k34_o1 : List AJ := [.o ⟨(some 3), none, false, .mv (.t 0), none⟩, .o ⟨(some 4), none, false, .nilchk (.t 3), none⟩, .o ⟨(some 5), none, false, .fieldA 0 (.t 4), none⟩, .o ⟨(some 6), none, false, .load 1 false (.t 5), none⟩, .o ⟨(some 7), none, false, .bin .eql (.t 6) (.c (.int .i64 0)), (some [0, 7])⟩]
abbrev k34_o2 : List AJ := [.o ⟨(some 8), none, false, .mv (.t 0), none⟩, .o ⟨(some 9), none, false, .nilchk (.t 8), none⟩, .o ⟨(some 10), none, false, .fieldA 1 (.t 9), none⟩, .o ⟨none, none, false, .store 1 (.t 10) (.c (.bool true)), (some [])⟩]
abbrev k34_o3 : List AJ := [.o ⟨(some 2), none, false, .mv (.c (.bool false)), (some [2])⟩]
def k34_4 : ACode := .seq (.region k34_o3) .ret
def k34_5 : ACode := .seq (.region k34_o2) k34_4
def k34_6 : ACode := .cond (.t 7) k34_5 .skip
def k34_7 : ACode := .seq (.region k34_o1) k34_6
abbrev k34_o4 : List AJ := [.o ⟨(some 11), none, false, .mv (.t 0), none⟩, .o ⟨(some 12), none, false, .nilchk (.t 11), none⟩, .o ⟨(some 13), none, false, .fieldA 0 (.t 12), none⟩, .o ⟨(some 14), none, false, .load 1 false (.t 13), none⟩, .o ⟨(some 15), none, true, .bin .sub (.t 14) (.c (.int .i64 1)), none⟩, .o ⟨(some 16), none, false, .nilchk (.t 11), none⟩, .o ⟨(some 17), none, false, .fieldA 0 (.t 16), none⟩, .o ⟨none, none, false, .store 1 (.t 17) (.t 15), (some [])⟩]
abbrev k34_o5 : List AJ := [.o ⟨(some 2), none, false, .mv (.c (.bool true)), (some [2])⟩]
def k34_10 : ACode := .seq (.region k34_o5) .ret
def k34_11 : ACode := .seq (.region k34_o4) k34_10
def k34_12 : ACode := .seq k34_7 k34_11
def k34_13 : ACode := .seq (.region k34_o0) k34_12
@[simp, simp ↓] theorem k34_4r : sR k34_4 k34_o3 .ret := yR rfl
@[simp, simp ↓] theorem k34_5r : sR k34_5 k34_o2 k34_4 := yR rfl
@[simp, simp ↓] theorem k34_6r : rC k34_6 (.t 7) k34_5 .skip := zC rfl
@[simp, simp ↓] theorem k34_7r : sR k34_7 k34_o1 k34_6 := yR rfl
@[simp, simp ↓] theorem k34_10r : sR k34_10 k34_o5 .ret := yR rfl
@[simp, simp ↓] theorem k34_11r : sR k34_11 k34_o4 k34_10 := yR rfl
@[simp, simp ↓] theorem k34_12r : rS k34_12 k34_7 k34_11 := zS rfl
@[simp, simp ↓] theorem k34_13r : sR k34_13 k34_o0 k34_12 := yR rfl
noncomputable abbrev k34_C : Orc → Cx := mkC Try.prog [] 34 18 [.tmp 2]
theorem k34_of0 : OfP0 Try.prog Try.f34 34 18 k34_C k34_13 := @ofP0 _ _ _ _ _ _ _ _ Try.func34 (by decide +kernel) rfl (by kernel_rfl) rfl (by kernel_rfl)
theorem node_w (id : Nat) (k : Int) (sp : Bool) (pre h : Heap) (hp : id ∉ dom pre) (hk : 0 ≤ k ∧ k ≤ 20000) : ACalls Try.prog 34 [.ptr id 2 0 0] (pre ++ (id, ⟨2, [.agg [.int .i64 k, .bool sp]]⟩) :: h) (fun v h' => v = .bool (decide (k ≠ 0)) ∧ h' = pre ++ (id, ⟨2, [.agg [.int .i64 (if k = 0 then k else k - 1), .bool (if k = 0 then true else sp)]]⟩) :: h) := by
  refine k34_of0 rfl noPure fun I => ?_
  refine Run2.of I 1000 ?_
  simp -implicitDefEqProofs [hget_app hp, hset_app hp]
  refine ⟨fun h1 => ?_, fun h1 => ⟨by omega, ?_⟩⟩
  · simp [h1]
  · simp [h1]
abbrev k31_o0 : List AJ := [.o ⟨(some 2), none, false, .mv (.c (.bool false)), (some [0])⟩]
abbrev k31_o1 : List AJ := [.o ⟨(some 3), none, false, .mv (.t 0), none⟩, .o ⟨(some 4), none, false, .call 59 [(.t 3), (.c (.int .i64 1)), (.c (.int .i64 20000))], none⟩, .o ⟨(some 2), none, false, .mv (.t 4), (some [2])⟩]
def k31_2 : ACode := .seq (.region k31_o1) .ret
def k31_3 : ACode := .seq (.region k31_o0) k31_2
@[simp, simp ↓] theorem k31_2r : sR k31_2 k31_o1 .ret := yR rfl
@[simp, simp ↓] theorem k31_3r : sR k31_3 k31_o0 k31_2 := yR rfl
noncomputable abbrev k31_C : Orc → Cx := mkC Try.prog [] 31 5 [.tmp 2]
theorem k31_of0 : OfP0 Try.prog Try.f31 31 5 k31_C k31_3 := @ofP0 _ _ _ _ _ _ _ _ Try.func31 (by decide +kernel) rfl (by kernel_rfl) rfl (by kernel_rfl)
theorem isBudget_c (B : Int) (h : Heap) : ACalls Try.prog 31 [.int .i64 B] h (fun v h' => v = .bool (decide (1 ≤ B ∧ B ≤ 20000)) ∧ h' = h) := by
  refine k31_of0 rfl orc1_p fun I => ?_
  refine Run2.of I 1000 ?_
  simp -implicitDefEqProofs
noncomputable def o_isBudget : List AV → Option (Prop × AV) := tab (fun (x : Int) => match x with | B => [.int .i64 B]) (fun x => match x with | B => True) (fun x => match x with | B => .bool (decide (1 ≤ B ∧ B ≤ 20000)))
@[simp] theorem o_isBudget_e (B : Int) : o_isBudget [.int .i64 B] = some (True, .bool (decide (1 ≤ B ∧ B ≤ 20000))) := tab_at (enc := fun (x : Int) => match x with | B => [.int .i64 B]) (fun x y h => by
  simp at h; simp [h] <;> omega) _ _ B
theorem o_isBudget_k : Knows Try.prog 31 o_isBudget := tab_knows fun x hx h => by
  exact isBudget_c x h
abbrev k32_o0 : List AJ := [.o ⟨(some 2), none, false, .mv (.c (.int .i64 0)), (some [0])⟩]
abbrev k32_o1 : List AJ := [.o ⟨(some 3), none, false, .mv (.t 0), none⟩, .o ⟨(some 4), none, false, .len (.t 3), none⟩, .o ⟨(some 2), none, false, .mv (.t 4), (some [2])⟩]
def k32_2 : ACode := .seq (.region k32_o1) .ret
def k32_3 : ACode := .seq (.region k32_o0) k32_2
@[simp, simp ↓] theorem k32_2r : sR k32_2 k32_o1 .ret := yR rfl
@[simp, simp ↓] theorem k32_3r : sR k32_3 k32_o0 k32_2 := yR rfl
noncomputable abbrev k32_C : Orc → Cx := mkC Try.prog [] 32 5 [.tmp 2]
theorem k32_of0 : OfP0 Try.prog Try.f32 32 5 k32_C k32_3 := @ofP0 _ _ _ _ _ _ _ _ Try.func32 (by decide +kernel) rfl (by kernel_rfl) rfl (by kernel_rfl)
theorem sizeT_c (n : Nat) (ts : List T) (h : Heap) (hl : ts.length ≤ 1048576) : ACalls Try.prog 32 [.snap 3 (ts.map T.av)] h (fun v h' => v = .int .i64 ts.length ∧ h' = h) := by
  refine k32_of0 rfl noPure fun I => ?_
  refine Run2.of I 1000 ?_
  simp -implicitDefEqProofs
theorem nxr_none_at {E : Int} {l : List Int} {i : Nat} (hi : i < l.length) (h : nxr E (l.drop (i + 1)) = none) (hc : ¬ l[i] < E - l.length + i) : nxr E (l.drop i) = none := by
  rw [List.drop_eq_getElem_cons hi]
  simp only [nxr, h]
  rw [if_neg (by simp; omega)]
theorem nxr_some_at {E : Int} {l : List Int} {i : Nat} (hi : i < l.length) (h : nxr E (l.drop (i + 1)) = none) (hc : l[i] < E - l.length + i) : nxr E l = some (l.take i ++ up (l[i] + 1) (l.length - i)) := by
  have : nxr E (l.drop i) = some (up (l[i] + 1) (l.length - i)) := by
    rw [List.drop_eq_getElem_cons hi]
    simp only [nxr, h]
    rw [if_pos (by simp; omega)]
    congr 2
    simp; omega
  have h2 := nxr_app this (l.take i)
  rwa [List.take_append_drop] at h2
/-- The list while its end is written anew. -/
def upl (l : List Int) (i j : Nat) : List Int := l.take i ++ up (l.getD i 0 + 1) (j - i) ++ l.drop j
theorem upl_len (l : List Int) {i j : Nat} (hij : i ≤ j) (hj : j ≤ l.length) : (upl l i j).length = l.length := by simp [upl, up_len]; omega
theorem upl_zero (l : List Int) (i : Nat) : upl l i i = l := by simp [upl, up]
theorem upl_end (l : List Int) {i : Nat} (hi : i < l.length) : upl l i l.length = l.take i ++ up (l[i] + 1) (l.length - i) := by simp [upl, hi]
theorem upl_set (l : List Int) {i j : Nat} (hij : i ≤ j) (hj : j < l.length) : (upl l i j).set j (l.getD i 0 + 1 + j - i) = upl l i (j + 1) := by
  have h1 : (l.take i ++ up (l.getD i 0 + 1) (j - i)).length = j := by simp [up_len]; omega
  unfold upl
  rw [List.set_append_right _ _ (by omega), h1, Nat.sub_self, List.drop_eq_getElem_cons hj, List.set_cons_zero, show j + 1 - i = (j - i) + 1 by omega]
  have h2 : up (l.getD i 0 + 1) (j - i + 1) = up (l.getD i 0 + 1) (j - i) ++ [l.getD i 0 + 1 + j - i] := by
    unfold up
    rw [List.range_succ, List.map_append]
    congr 1
    simp
    omega
  rw [h2]
  simp
noncomputable def orcN : List (Nat × (List AV → Option (Prop × AV))) := (64, o_size) :: []
theorem orcN_p : Pure Try.prog (lk orcN) := (lk_pure o_size_k lk_pure0)
@[simp] theorem orcN_l (b : Bool) (g : FuncId) (l : List AV) : lk orcN b g l = if g = 64 then o_size l else none := nr rfl
abbrev k38_o0 : List AJ := [.o ⟨(some 4), none, false, .mv (.c .nilsl), none⟩, .o ⟨(some 5), none, false, .mv (.c (.bool false)), (some [0, 1])⟩]
abbrev k38_o1 : List AJ := [.o ⟨(some 10), none, false, .mv (.t 0), none⟩, .o ⟨(some 11), none, false, .call 64 [(.t 10)], none⟩, .o ⟨(some 6), none, false, .mv (.t 11), (some [0, 1, 6])⟩]
abbrev k38_o2 : List AJ := [.o ⟨(some 12), none, false, .mv (.t 6), none⟩, .o ⟨(some 13), none, true, .bin .sub (.t 12) (.c (.int .i64 1)), none⟩, .o ⟨(some 7), none, false, .mv (.t 13), (some [0, 1, 6, 7])⟩]
abbrev k38_o3 : List AJ := [.o ⟨(some 14), none, false, .mv (.t 7), none⟩, .o ⟨(some 15), none, false, .bin .geq (.t 14) (.c (.int .i64 0)), (some [0, 1, 6, 7, 15])⟩]
def k38_4 : ACode := .cond (.t 15) .skip (.exit 0)
def k38_5 : ACode := .seq (.region k38_o3) k38_4
abbrev k38_o4 : List AJ := [.o ⟨(some 18), none, false, .mv (.t 0), none⟩, .o ⟨(some 19), none, false, .mv (.t 7), none⟩, .o ⟨(some 20), none, false, .idxA 1 (.t 18) (.t 19), none⟩, .o ⟨(some 21), none, false, .load 1 false (.t 20), none⟩, .o ⟨(some 22), none, false, .mv (.t 1), none⟩, .o ⟨(some 23), none, false, .mv (.t 6), none⟩, .o ⟨(some 24), none, true, .bin .sub (.t 22) (.t 23), none⟩, .o ⟨(some 25), none, false, .mv (.t 7), none⟩, .o ⟨(some 26), none, true, .bin .add (.t 24) (.t 25), none⟩, .o ⟨(some 27), none, false, .bin .lss (.t 21) (.t 26), (some [0, 1, 6, 7, 27])⟩]
abbrev k38_o5 : List AJ := [.o ⟨(some 28), none, false, .mv (.t 0), none⟩, .o ⟨(some 29), none, false, .call 27 [(.t 28)], none⟩, .o ⟨(some 8), none, false, .mv (.t 29), (some [0, 6, 7, 8])⟩]
abbrev k38_o6 : List AJ := [.o ⟨(some 30), none, false, .mv (.t 7), none⟩, .o ⟨(some 9), none, false, .mv (.t 30), (some [0, 6, 7, 8, 9])⟩]
abbrev k38_o7 : List AJ := [.o ⟨(some 31), none, false, .mv (.t 9), none⟩, .o ⟨(some 32), none, false, .mv (.t 6), none⟩, .o ⟨(some 33), none, false, .bin .lss (.t 31) (.t 32), (some [0, 6, 7, 8, 9, 33])⟩]
def k38_10 : ACode := .cond (.t 33) .skip (.exit 2)
def k38_11 : ACode := .seq (.region k38_o7) k38_10
abbrev k38_o8 : List AJ := [.o ⟨(some 36), none, false, .mv (.t 8), none⟩, .o ⟨(some 37), none, false, .mv (.t 9), none⟩, .o ⟨(some 38), none, false, .mv (.t 0), none⟩, .o ⟨(some 39), none, false, .mv (.t 7), none⟩, .o ⟨(some 40), none, false, .idxA 1 (.t 38) (.t 39), none⟩, .o ⟨(some 41), none, false, .load 1 false (.t 40), none⟩, .o ⟨(some 42), none, true, .bin .add (.t 41) (.c (.int .i64 1)), none⟩, .o ⟨(some 43), none, false, .mv (.t 9), none⟩, .o ⟨(some 44), none, true, .bin .add (.t 42) (.t 43), none⟩, .o ⟨(some 45), none, false, .mv (.t 7), none⟩, .o ⟨(some 46), none, true, .bin .sub (.t 44) (.t 45), none⟩, .o ⟨(some 47), none, false, .idxA 1 (.t 36) (.t 37), none⟩, .o ⟨none, none, false, .store 1 (.t 47) (.t 46), (some [0, 6, 7, 8, 9])⟩]
def k38_12 : ACode := .region k38_o8
abbrev k38_o9 : List AJ := [.o ⟨(some 34), none, false, .mv (.t 9), none⟩, .o ⟨(some 35), none, true, .bin .add (.t 34) (.c (.int .i64 1)), none⟩, .o ⟨(some 9), none, false, .mv (.t 35), (some [0, 6, 7, 8, 9])⟩]
def k38_14 : ACode := .region k38_o9
def k38_15 : ACode := .seq (.block 3 k38_12) k38_14
def k38_16 : ACode := .seq k38_11 k38_15
def k38_17 : ACode := .loop k38_16
def k38_18 : ACode := .block 2 k38_17
def k38_19 : ACode := .seq (.region k38_o6) k38_18
abbrev k38_o10 : List AJ := [.o ⟨(some 48), none, false, .mv (.t 8), none⟩, .o ⟨(some 4), none, false, .mv (.t 48), none⟩, .o ⟨(some 5), none, false, .mv (.c (.bool true)), (some [4, 5])⟩]
def k38_21 : ACode := .seq (.region k38_o10) .ret
def k38_22 : ACode := .seq k38_19 k38_21
def k38_23 : ACode := .seq (.region k38_o5) k38_22
def k38_24 : ACode := .cond (.t 27) k38_23 .skip
def k38_25 : ACode := .seq (.region k38_o4) k38_24
abbrev k38_o11 : List AJ := [.o ⟨(some 16), none, false, .mv (.t 7), none⟩, .o ⟨(some 17), none, true, .bin .sub (.t 16) (.c (.int .i64 1)), none⟩, .o ⟨(some 7), none, false, .mv (.t 17), (some [0, 1, 6, 7])⟩]
def k38_27 : ACode := .region k38_o11
def k38_28 : ACode := .seq (.block 1 k38_25) k38_27
def k38_29 : ACode := .seq k38_5 k38_28
def k38_30 : ACode := .loop k38_29
def k38_31 : ACode := .block 0 k38_30
def k38_32 : ACode := .seq (.region k38_o2) k38_31
abbrev k38_o12 : List AJ := [.o ⟨(some 4), none, false, .mv (.c .nilsl), none⟩, .o ⟨(some 5), none, false, .mv (.c (.bool false)), (some [4, 5])⟩]
def k38_34 : ACode := .seq (.region k38_o12) .ret
def k38_35 : ACode := .seq k38_32 k38_34
def k38_36 : ACode := .seq (.region k38_o1) k38_35
def k38_37 : ACode := .seq (.region k38_o0) k38_36
@[simp, simp ↓] theorem k38_4r : rC k38_4 (.t 15) .skip (.exit 0) := zC rfl
@[simp, simp ↓] theorem k38_5r : sR k38_5 k38_o3 k38_4 := yR rfl
@[simp, simp ↓] theorem k38_10r : rC k38_10 (.t 33) .skip (.exit 2) := zC rfl
@[simp, simp ↓] theorem k38_11r : sR k38_11 k38_o7 k38_10 := yR rfl
@[simp, simp ↓] theorem k38_12r : rR k38_12 k38_o8 := zR rfl
@[simp, simp ↓] theorem k38_14r : rR k38_14 k38_o9 := zR rfl
@[simp, simp ↓] theorem k38_15r : sB k38_15 3 k38_12 k38_14 := yB rfl
@[simp, simp ↓] theorem k38_16r : rS k38_16 k38_11 k38_15 := zS rfl
@[simp, simp ↓] theorem k38_17r : rL k38_17 k38_16 := zL rfl
@[simp, simp ↓] theorem k38_18r : rB k38_18 2 k38_17 := zB rfl
@[simp, simp ↓] theorem k38_19r : sR k38_19 k38_o6 k38_18 := yR rfl
@[simp, simp ↓] theorem k38_21r : sR k38_21 k38_o10 .ret := yR rfl
@[simp, simp ↓] theorem k38_22r : rS k38_22 k38_19 k38_21 := zS rfl
@[simp, simp ↓] theorem k38_23r : sR k38_23 k38_o5 k38_22 := yR rfl
@[simp, simp ↓] theorem k38_24r : rC k38_24 (.t 27) k38_23 .skip := zC rfl
@[simp, simp ↓] theorem k38_25r : sR k38_25 k38_o4 k38_24 := yR rfl
@[simp, simp ↓] theorem k38_27r : rR k38_27 k38_o11 := zR rfl
@[simp, simp ↓] theorem k38_28r : sB k38_28 1 k38_25 k38_27 := yB rfl
@[simp, simp ↓] theorem k38_29r : rS k38_29 k38_5 k38_28 := zS rfl
@[simp, simp ↓] theorem k38_30r : rL k38_30 k38_29 := zL rfl
@[simp, simp ↓] theorem k38_31r : rB k38_31 0 k38_30 := zB rfl
@[simp, simp ↓] theorem k38_32r : sR k38_32 k38_o2 k38_31 := yR rfl
@[simp, simp ↓] theorem k38_34r : sR k38_34 k38_o12 .ret := yR rfl
@[simp, simp ↓] theorem k38_35r : rS k38_35 k38_32 k38_34 := zS rfl
@[simp, simp ↓] theorem k38_36r : sR k38_36 k38_o1 k38_35 := yR rfl
@[simp, simp ↓] theorem k38_37r : sR k38_37 k38_o0 k38_36 := yR rfl
noncomputable abbrev k38_C : Orc → Cx := mkC Try.prog [] 38 49 [.tmp 4, .tmp 5]
theorem k38_of0 : OfP0 Try.prog Try.f38 38 49 k38_C k38_37 := @ofP0 _ _ _ _ _ _ _ _ Try.func38 (by decide +kernel) rfl (by kernel_rfl) rfl (by kernel_rfl)
theorem nextChoice_w (l : List Int) (E : Int) (h : Heap) (hl : l.length ≤ 24) (hE : 0 ≤ E ∧ E ≤ 24) (hr : ∀ c ∈ l, 0 ≤ c ∧ c ≤ 24) :
    ACalls Try.prog 38 [.snap 1 (l.map iv), .int .i64 E] h (fun v h' => ∃ u hp, v = .tup [u, .bool (nxr E l).isSome] ∧ Grow 1 u (((nxr E l).getD []).map iv) hp ∧ (∀ j ∈ dom hp, j ∉ dom h) ∧ h' = hp ++ h) := by
  have hll : l.length ≤ 1048576 := by omega
  refine k38_of0 rfl orcN_p fun I => ?_
  refine Run2.of I 1000 ?_
  simp -implicitDefEqProofs [hll]
  refine ⟨by omega, ?_⟩
  refine Run2.loopE (fun (i : Nat) => [(0, .snap 1 (l.map iv)), (1, .int .i64 E), (6, .int .i64 l.length), (7, .int .i64 ((l.length : Int) - 1 - i))]) (fun _ => h) (fun i => l.length - i) (fun i => i ≤ l.length ∧ nxr E (l.drop (l.length - i)) = none) 0 (by simp) rfl ⟨by omega, by simp [nxr]⟩ fun i ⟨hi, hn⟩ ih => ?_
  by_cases hlt : i < l.length
  · obtain ⟨j, hj⟩ : ∃ j : Nat, (l.length : Int) - 1 - i = (j : Int) := ⟨l.length - 1 - i, by omega⟩
    have hjl : j < l.length := by omega
    have hn : nxr E (l.drop (j + 1)) = none := by rw [show j + 1 = l.length - i by omega]; exact hn
    have hc := hr l[j] (List.getElem_mem hjl)
    have go := ih (i + 1)
    clear ih
    rw [hj]
    by_cases hlj : l[j] < E - l.length + j
    · have hs := nxr_some_at hjl hn hlj
      have hll2 : 0 ≤ l[j] ∧ l[j] ≤ 24 := hc
      refine Run2.of I 1000 ?_
      simp -implicitDefEqProofs [hjl, hlj]
      refine ⟨by omega, by omega, ?_⟩
      refine (Clone_w l h hll).mono ?_
      rintro u h' ⟨gu, hgu, hdu, rfl⟩
      generalize hL : l.map iv = L at hgu
      cases hgu with
      | nil => have h0 : l = [] := by simpa using hL
               subst h0; simp at hjl
      | emp => have h0 : l = [] := by simpa using hL
               subst h0; simp at hjl
      | sl idu _ n hn2 =>
      obtain rfl : n = l.length := by rw [hn2, ← hL]; simp
      subst hL
      have hdi : idu ∉ dom h := hdu idu (by simp [dom])
      refine gK.go ?_
      simp -implicitDefEqProofs
      have hgj : l.getD j 0 = l[j] := by simp [hjl]
      have e0 : (idu, (⟨1, l.map iv⟩ : Blk)) :: h = (idu, ⟨1, (upl l j j).map iv⟩) :: h := by rw [upl_zero]
      rw [e0]
      refine Run2.loopE (fun (k : Nat) => [(0, .snap 1 (l.map iv)), (6, .int .i64 l.length), (7, .int .i64 (j : Nat)), (8, .sl idu 1 0 l.length none), (9, .int .i64 (k : Nat))]) (fun k => (idu, ⟨1, (upl l j k).map iv⟩) :: h) (fun k => l.length - k) (fun k => j ≤ k ∧ k ≤ l.length) j (by simp) rfl ⟨Nat.le_refl _, by omega⟩ fun k ⟨hk1, hk2⟩ ih => ?_
      by_cases hkl : k < l.length
      · have go := ih (k + 1) ⟨by omega, by omega⟩ (by omega)
        clear ih
        rw [← upl_set l hk1 hkl, hgj, List.map_set] at go
        have hul := upl_len l hk1 (by omega)
        have hku : k < ((upl l j k).map iv).length := by rw [List.length_map]; omega
        generalize (upl l j k).map iv = X at *
        refine Run2.of I 1000 ?_
        simp -implicitDefEqProofs [hkl, hjl, hku]
        refine ⟨by omega, by omega, by omega, by omega, ?_⟩
        simpa using go
      · obtain rfl : k = l.length := by omega
        refine Run2.of I 1000 ?_
        simp -implicitDefEqProofs [hs]
        rw [upl_end l hjl]
        exact ⟨[(idu, _)], by simpa using Grow.sl (sz := 1) idu ((l.take j ++ up (l[j] + 1) (l.length - j)).map iv) l.length (by simp [up_len]; omega), fun b hb => by simp [dom] at hb; subst hb; exact hdi, rfl⟩
    · have h2 := nxr_none_at hjl hn hlj
      have go := go ⟨by omega, by rw [show l.length - (i + 1) = j by omega]; exact h2⟩ (by omega)
      have e1 : (j : Int) - 1 = (l.length : Int) - 1 - ((i + 1 : Nat) : Int) := by omega
      refine Run2.of I 1000 ?_
      simp -implicitDefEqProofs [hjl, hlj]
      refine ⟨by omega, by omega, by omega, ?_⟩
      rw [e1]
      exact go
  · obtain rfl : i = l.length := by omega
    have h0 : nxr E l = none := by simpa using hn
    rw [show (l.length : Int) - 1 - (l.length : Nat) = -1 by omega]
    refine Run2.of I 1000 ?_
    simp -implicitDefEqProofs [h0]
    exact .nil
end Go.AG
