/- DistanceFiltration: lists of vertices, one after the other. No statement is made here. -/
import Derived.Test.YtebkdegjiollbaaFxHz
import Derived.Test.YtebkdegjiollbaaCbP
namespace Go.AG
open Go.Proofs Go.Proofs.Ytebkdegjiollbaa
set_option linter.unusedSimpArgs false
set_option linter.unusedVariables false
set_option maxRecDepth 4000
abbrev k126_o0 : List AJ := [.o ⟨(some 2), none, false, .mv (.c (.int .i64 0)), (some [0])⟩]
abbrev k126_o1 : List AJ := [.o ⟨(some 3), none, false, .mv (.t 0), none⟩, .o ⟨(some 4), none, false, .len (.t 3), none⟩, .o ⟨(some 2), none, false, .mv (.t 4), (some [2])⟩]
def k126_2 : ACode := .seq (.region k126_o1) .ret
def k126_3 : ACode := .seq (.region k126_o0) k126_2
@[simp, simp ↓] theorem k126_2r : sR k126_2 k126_o1 .ret := yR rfl
@[simp, simp ↓] theorem k126_3r : sR k126_3 k126_o0 k126_2 := yR rfl
noncomputable abbrev k126_C : Orc → Cx := mkC Try.prog [] 126 5 [.tmp 2]
theorem k126_of0 : OfP0 Try.prog Try.f126 126 5 k126_C k126_3 := @ofP0 _ _ _ _ _ _ _ _ Try.func126 (by decide +kernel) rfl (by kernel_rfl) rfl (by kernel_rfl)
theorem size_c (u : AV) (h : Heap) (hu : isInts u) (hl : (intsOf u).length ≤ 1048576) : ACalls Try.prog 126 [u] h (fun v h' => v = .int .i64 (intsOf u).length ∧ h' = h) := by
  refine ACalls.wk (.cons (.ints hu) .nil) ?_
  refine k126_of0 rfl noPure fun I => ?_
  refine Run2.of I 1000 ?_
  simp -implicitDefEqProofs
noncomputable def o_size : List AV → Option (Prop × AV) := tab (fun (x : AV) => match x with | u => [u]) (fun x => match x with | u => (isInts u ∧ (intsOf u).length ≤ 1048576)) (fun x => match x with | u => .int .i64 (intsOf u).length)
@[simp] theorem o_size_e (u : AV) : o_size [u] = some ((isInts u ∧ (intsOf u).length ≤ 1048576), .int .i64 (intsOf u).length) := tab_at (enc := fun (x : AV) => match x with | u => [u]) (fun x y h => by
  simp at h; simp [h] <;> omega) _ _ u
theorem o_size_k : Knows Try.prog 126 o_size := tab_knows fun x hx h => by
  exact size_c x h hx.1 hx.2
abbrev k85_o0 : List AJ := [.o ⟨(some 2), none, false, .mv (.c .nilsl), (some [0])⟩]
abbrev k85_o1 : List AJ := [.o ⟨(some 3), none, false, .mv (.c .nilsl), (some [0, 3])⟩]
abbrev k85_o2 : List AJ := [.o ⟨(some 5), none, false, .mv (.t 0), none⟩, .o ⟨(some 6), none, false, .mv (.c (.int .i64 0)), (some [3, 5, 6])⟩]
abbrev k85_o3 : List AJ := [.o ⟨(some 7), none, false, .bin .lss (.t 6) (.t 5), (some [3, 5, 6, 7])⟩]
abbrev k85_o4 : List AJ := [.o ⟨(some 8), none, false, .mv (.t 6), none⟩, .o ⟨(some 4), none, false, .mv (.t 8), (some [3, 4, 5, 6])⟩]
abbrev k85_o5 : List AJ := [.o ⟨(some 9), none, false, .mv (.t 3), none⟩, .o ⟨(some 10), none, false, .mv (.t 4), none⟩, .o ⟨(some 11), none, false, .bsl false 1 [(.t 10)], none⟩, .o ⟨(some 12), none, false, .append 1 8 (.t 9) (.t 11), none⟩, .o ⟨(some 3), none, false, .mv (.t 12), (some [3, 5, 6])⟩]
def k85_6 : ACode := .region k85_o5
def k85_7 : ACode := .seq (.region k85_o4) k85_6
abbrev k85_o6 : List AJ := [.o ⟨(some 13), none, true, .bin .add (.t 6) (.c (.int .i64 1)), none⟩, .o ⟨(some 6), none, false, .mv (.t 13), (some [3, 5, 6])⟩]
def k85_9 : ACode := .region k85_o6
def k85_10 : ACode := .seq (.block 1 k85_7) k85_9
def k85_11 : ACode := .seq (.cond (.t 7) .skip (.exit 0)) k85_10
def k85_12 : ACode := .seq (.region k85_o3) k85_11
def k85_13 : ACode := .loop k85_12
def k85_14 : ACode := .block 0 k85_13
def k85_15 : ACode := .seq (.region k85_o2) k85_14
abbrev k85_o7 : List AJ := [.o ⟨(some 14), none, false, .mv (.t 3), none⟩, .o ⟨(some 2), none, false, .mv (.t 14), (some [2])⟩]
def k85_17 : ACode := .seq (.region k85_o7) .ret
def k85_18 : ACode := .seq k85_15 k85_17
def k85_19 : ACode := .seq (.region k85_o1) k85_18
def k85_20 : ACode := .seq (.region k85_o0) k85_19
@[simp, simp ↓] theorem k85_6r : rR k85_6 k85_o5 := zR rfl
@[simp, simp ↓] theorem k85_7r : sR k85_7 k85_o4 k85_6 := yR rfl
@[simp, simp ↓] theorem k85_9r : rR k85_9 k85_o6 := zR rfl
@[simp, simp ↓] theorem k85_10r : sB k85_10 1 k85_7 k85_9 := yB rfl
@[simp, simp ↓] theorem k85_11r : sC k85_11 (.t 7) .skip (.exit 0) k85_10 := yC rfl
@[simp, simp ↓] theorem k85_12r : sR k85_12 k85_o3 k85_11 := yR rfl
@[simp, simp ↓] theorem k85_13r : rL k85_13 k85_12 := zL rfl
@[simp, simp ↓] theorem k85_14r : rB k85_14 0 k85_13 := zB rfl
@[simp, simp ↓] theorem k85_15r : sR k85_15 k85_o2 k85_14 := yR rfl
@[simp, simp ↓] theorem k85_17r : sR k85_17 k85_o7 .ret := yR rfl
@[simp, simp ↓] theorem k85_18r : rS k85_18 k85_15 k85_17 := zS rfl
@[simp, simp ↓] theorem k85_19r : sR k85_19 k85_o1 k85_18 := yR rfl
@[simp, simp ↓] theorem k85_20r : sR k85_20 k85_o0 k85_19 := yR rfl
noncomputable abbrev k85_C : Orc → Cx := mkC Try.prog [] 85 15 [.tmp 2]
theorem k85_of0 : OfP0 Try.prog Try.f85 85 15 k85_C k85_20 := @ofP0 _ _ _ _ _ _ _ _ Try.func85 (by decide +kernel) rfl (by kernel_rfl) rfl (by kernel_rfl)
theorem firstChoice_w (n : Int) (h : Heap) (hn : n ≤ 1048576) : ACalls Try.prog 85 [.int .i64 n] h (fun v h' => ∃ hp, Grow 1 v (((List.range n.toNat).map Int.ofNat).map iv) hp ∧ (∀ j ∈ dom hp, j ∉ dom h) ∧ h' = hp ++ h) := by
  refine k85_of0 rfl noPure fun I => ?_
  refine Run2.of I 1000 ?_
  simp -implicitDefEqProofs
  obtain ⟨N, hN⟩ : ∃ N : Nat, n.toNat = N := ⟨_, rfl⟩
  rw [hN]
  refine Run2.loopE (α := Nat × AV × Heap) (fun s => [(3, s.2.1), (5, .int .i64 n), (6, .int .i64 (s.1 : Nat))]) (fun s => s.2.2 ++ h) (fun s => N - s.1) (fun s => s.1 ≤ N ∧ Grow 1 s.2.1 (((List.range s.1).map Int.ofNat).map iv) s.2.2 ∧ (∀ j ∈ dom s.2.2, j ∉ dom h)) (0, .nilsl, []) (by simp) rfl ⟨Nat.zero_le _, by simpa using Grow.nil, by simp [dom]⟩ ?_
  rintro ⟨i, w, hp⟩ ⟨hi, hg, hd⟩ ih
  simp only at hi hg hd ih ⊢
  by_cases hlt : i < N
  · have hlt' : (i : Int) < n := by omega
    have go := fun w' hp' a b => ih (i + 1, w', hp') ⟨by simp; omega, a, b⟩ (by simp; omega)
    clear ih
    refine Run2.of I 1000 ?_
    simp -implicitDefEqProofs [hlt']
    refine Grow.app_mid (pre := []) (post := h) hg (fun j hj => by simp [dom]) (by simp; omega) (by simp) fun w' hp' hg' hf => ?_
    simp -implicitDefEqProofs
    refine ⟨by omega, ?_⟩
    have := go w' hp' (by simpa [List.range_succ] using hg') (by simpa using hf)
    simpa using this
  · obtain rfl : i = N := by omega
    have hlt' : ¬ (i : Int) < n := by omega
    refine Run2.of I 1000 ?_
    simp -implicitDefEqProofs [hlt']
    exact ⟨by simpa using hg, hd⟩
theorem nxr_none_at {E : Int} {l : List Int} {i : Nat} (hi : i < l.length) (h : nxr E (l.drop (i + 1)) = none) (hc : ¬ l[i] < E - l.length + i) : nxr E (l.drop i) = none := by
  rw [List.drop_eq_getElem_cons hi]
  simp only [nxr, h]
  rw [if_neg (by simp; omega)]
theorem nxr_some_at {E : Int} {l : List Int} {i : Nat} (hi : i < l.length) (h : nxr E (l.drop (i + 1)) = none) (hc : l[i] < E - l.length + i) : nxr E l = some (l.take i ++ up (l[i] + 1) (l.length - i)) := by
  have : nxr E (l.drop i) = some (up (l[i] + 1) (l.length - i)) := by
    rw [List.drop_eq_getElem_cons hi]
    simp only [nxr, h]
    rw [if_pos (by simp; omega)]
    congr 2
    simp; omega
  have h2 := nxr_app this (l.take i)
  rwa [List.take_append_drop] at h2
/-- The list while its end is written anew. -/
def upl (l : List Int) (i j : Nat) : List Int := l.take i ++ up (l.getD i 0 + 1) (j - i) ++ l.drop j
theorem upl_len (l : List Int) {i j : Nat} (hij : i ≤ j) (hj : j ≤ l.length) : (upl l i j).length = l.length := by simp [upl, up_len]; omega
theorem upl_zero (l : List Int) (i : Nat) : upl l i i = l := by simp [upl, up]
theorem upl_end (l : List Int) {i : Nat} (hi : i < l.length) : upl l i l.length = l.take i ++ up (l[i] + 1) (l.length - i) := by simp [upl, hi]
theorem upl_set (l : List Int) {i j : Nat} (hij : i ≤ j) (hj : j < l.length) : (upl l i j).set j (l.getD i 0 + 1 + j - i) = upl l i (j + 1) := by
  have h1 : (l.take i ++ up (l.getD i 0 + 1) (j - i)).length = j := by simp [up_len]; omega
  unfold upl
  rw [List.set_append_right _ _ (by omega), h1, Nat.sub_self, List.drop_eq_getElem_cons hj, List.set_cons_zero, show j + 1 - i = (j - i) + 1 by omega]
  have h2 : up (l.getD i 0 + 1) (j - i + 1) = up (l.getD i 0 + 1) (j - i) ++ [l.getD i 0 + 1 + j - i] := by
    unfold up
    rw [List.range_succ, List.map_append]
    congr 1
    simp
    omega
  rw [h2]
  simp
noncomputable def orcN : List (Nat × (List AV → Option (Prop × AV))) := (126, o_size) :: []
theorem orcN_p : Pure Try.prog (lk orcN) := (lk_pure o_size_k lk_pure0)
@[simp] theorem orcN_l (b : Bool) (g : FuncId) (l : List AV) : lk orcN b g l = if g = 126 then o_size l else none := nr rfl
abbrev k86_o0 : List AJ := [.o ⟨(some 4), none, false, .mv (.c .nilsl), none⟩, .o ⟨(some 5), none, false, .mv (.c (.bool false)), (some [0, 1])⟩]
abbrev k86_o1 : List AJ := [.o ⟨(some 10), none, false, .mv (.t 0), none⟩, .o ⟨(some 11), none, false, .call 126 [(.t 10)], none⟩, .o ⟨(some 6), none, false, .mv (.t 11), (some [0, 1, 6])⟩]
abbrev k86_o2 : List AJ := [.o ⟨(some 12), none, false, .mv (.t 6), none⟩, .o ⟨(some 13), none, true, .bin .sub (.t 12) (.c (.int .i64 1)), none⟩, .o ⟨(some 7), none, false, .mv (.t 13), (some [0, 1, 6, 7])⟩]
abbrev k86_o3 : List AJ := [.o ⟨(some 14), none, false, .mv (.t 7), none⟩, .o ⟨(some 15), none, false, .bin .geq (.t 14) (.c (.int .i64 0)), (some [0, 1, 6, 7, 15])⟩]
def k86_4 : ACode := .cond (.t 15) .skip (.exit 0)
def k86_5 : ACode := .seq (.region k86_o3) k86_4
abbrev k86_o4 : List AJ := [.o ⟨(some 18), none, false, .mv (.t 0), none⟩, .o ⟨(some 19), none, false, .mv (.t 7), none⟩, .o ⟨(some 20), none, false, .idxA 1 (.t 18) (.t 19), none⟩, .o ⟨(some 21), none, false, .load 1 false (.t 20), none⟩, .o ⟨(some 22), none, false, .mv (.t 1), none⟩, .o ⟨(some 23), none, false, .mv (.t 6), none⟩, .o ⟨(some 24), none, true, .bin .sub (.t 22) (.t 23), none⟩, .o ⟨(some 25), none, false, .mv (.t 7), none⟩, .o ⟨(some 26), none, true, .bin .add (.t 24) (.t 25), none⟩, .o ⟨(some 27), none, false, .bin .lss (.t 21) (.t 26), (some [0, 1, 6, 7, 27])⟩]
abbrev k86_o5 : List AJ := [.o ⟨(some 28), none, false, .mv (.t 0), none⟩, .o ⟨(some 29), none, false, .call 96 [(.t 28)], none⟩, .o ⟨(some 8), none, false, .mv (.t 29), (some [0, 6, 7, 8])⟩]
abbrev k86_o6 : List AJ := [.o ⟨(some 30), none, false, .mv (.t 7), none⟩, .o ⟨(some 9), none, false, .mv (.t 30), (some [0, 6, 7, 8, 9])⟩]
abbrev k86_o7 : List AJ := [.o ⟨(some 31), none, false, .mv (.t 9), none⟩, .o ⟨(some 32), none, false, .mv (.t 6), none⟩, .o ⟨(some 33), none, false, .bin .lss (.t 31) (.t 32), (some [0, 6, 7, 8, 9, 33])⟩]
def k86_10 : ACode := .cond (.t 33) .skip (.exit 2)
def k86_11 : ACode := .seq (.region k86_o7) k86_10
abbrev k86_o8 : List AJ := [.o ⟨(some 36), none, false, .mv (.t 8), none⟩, .o ⟨(some 37), none, false, .mv (.t 9), none⟩, .o ⟨(some 38), none, false, .mv (.t 0), none⟩, .o ⟨(some 39), none, false, .mv (.t 7), none⟩, .o ⟨(some 40), none, false, .idxA 1 (.t 38) (.t 39), none⟩, .o ⟨(some 41), none, false, .load 1 false (.t 40), none⟩, .o ⟨(some 42), none, true, .bin .add (.t 41) (.c (.int .i64 1)), none⟩, .o ⟨(some 43), none, false, .mv (.t 9), none⟩, .o ⟨(some 44), none, true, .bin .add (.t 42) (.t 43), none⟩, .o ⟨(some 45), none, false, .mv (.t 7), none⟩, .o ⟨(some 46), none, true, .bin .sub (.t 44) (.t 45), none⟩, .o ⟨(some 47), none, false, .idxA 1 (.t 36) (.t 37), none⟩, .o ⟨none, none, false, .store 1 (.t 47) (.t 46), (some [0, 6, 7, 8, 9])⟩]
def k86_12 : ACode := .region k86_o8
abbrev k86_o9 : List AJ := [.o ⟨(some 34), none, false, .mv (.t 9), none⟩, .o ⟨(some 35), none, true, .bin .add (.t 34) (.c (.int .i64 1)), none⟩, .o ⟨(some 9), none, false, .mv (.t 35), (some [0, 6, 7, 8, 9])⟩]
def k86_14 : ACode := .region k86_o9
def k86_15 : ACode := .seq (.block 3 k86_12) k86_14
def k86_16 : ACode := .seq k86_11 k86_15
def k86_17 : ACode := .loop k86_16
def k86_18 : ACode := .block 2 k86_17
def k86_19 : ACode := .seq (.region k86_o6) k86_18
abbrev k86_o10 : List AJ := [.o ⟨(some 48), none, false, .mv (.t 8), none⟩, .o ⟨(some 4), none, false, .mv (.t 48), none⟩, .o ⟨(some 5), none, false, .mv (.c (.bool true)), (some [4, 5])⟩]
def k86_21 : ACode := .seq (.region k86_o10) .ret
def k86_22 : ACode := .seq k86_19 k86_21
def k86_23 : ACode := .seq (.region k86_o5) k86_22
def k86_24 : ACode := .cond (.t 27) k86_23 .skip
def k86_25 : ACode := .seq (.region k86_o4) k86_24
abbrev k86_o11 : List AJ := [.o ⟨(some 16), none, false, .mv (.t 7), none⟩, .o ⟨(some 17), none, true, .bin .sub (.t 16) (.c (.int .i64 1)), none⟩, .o ⟨(some 7), none, false, .mv (.t 17), (some [0, 1, 6, 7])⟩]
def k86_27 : ACode := .region k86_o11
def k86_28 : ACode := .seq (.block 1 k86_25) k86_27
def k86_29 : ACode := .seq k86_5 k86_28
def k86_30 : ACode := .loop k86_29
def k86_31 : ACode := .block 0 k86_30
def k86_32 : ACode := .seq (.region k86_o2) k86_31
abbrev k86_o12 : List AJ := [.o ⟨(some 4), none, false, .mv (.c .nilsl), none⟩, .o ⟨(some 5), none, false, .mv (.c (.bool false)), (some [4, 5])⟩]
def k86_34 : ACode := .seq (.region k86_o12) .ret
def k86_35 : ACode := .seq k86_32 k86_34
def k86_36 : ACode := .seq (.region k86_o1) k86_35
def k86_37 : ACode := .seq (.region k86_o0) k86_36
@[simp, simp ↓] theorem k86_4r : rC k86_4 (.t 15) .skip (.exit 0) := zC rfl
@[simp, simp ↓] theorem k86_5r : sR k86_5 k86_o3 k86_4 := yR rfl
@[simp, simp ↓] theorem k86_10r : rC k86_10 (.t 33) .skip (.exit 2) := zC rfl
@[simp, simp ↓] theorem k86_11r : sR k86_11 k86_o7 k86_10 := yR rfl
@[simp, simp ↓] theorem k86_12r : rR k86_12 k86_o8 := zR rfl
@[simp, simp ↓] theorem k86_14r : rR k86_14 k86_o9 := zR rfl
@[simp, simp ↓] theorem k86_15r : sB k86_15 3 k86_12 k86_14 := yB rfl
@[simp, simp ↓] theorem k86_16r : rS k86_16 k86_11 k86_15 := zS rfl
@[simp, simp ↓] theorem k86_17r : rL k86_17 k86_16 := zL rfl
@[simp, simp ↓] theorem k86_18r : rB k86_18 2 k86_17 := zB rfl
@[simp, simp ↓] theorem k86_19r : sR k86_19 k86_o6 k86_18 := yR rfl
@[simp, simp ↓] theorem k86_21r : sR k86_21 k86_o10 .ret := yR rfl
@[simp, simp ↓] theorem k86_22r : rS k86_22 k86_19 k86_21 := zS rfl
@[simp, simp ↓] theorem k86_23r : sR k86_23 k86_o5 k86_22 := yR rfl
@[simp, simp ↓] theorem k86_24r : rC k86_24 (.t 27) k86_23 .skip := zC rfl
@[simp, simp ↓] theorem k86_25r : sR k86_25 k86_o4 k86_24 := yR rfl
@[simp, simp ↓] theorem k86_27r : rR k86_27 k86_o11 := zR rfl
@[simp, simp ↓] theorem k86_28r : sB k86_28 1 k86_25 k86_27 := yB rfl
@[simp, simp ↓] theorem k86_29r : rS k86_29 k86_5 k86_28 := zS rfl
@[simp, simp ↓] theorem k86_30r : rL k86_30 k86_29 := zL rfl
@[simp, simp ↓] theorem k86_31r : rB k86_31 0 k86_30 := zB rfl
@[simp, simp ↓] theorem k86_32r : sR k86_32 k86_o2 k86_31 := yR rfl
@[simp, simp ↓] theorem k86_34r : sR k86_34 k86_o12 .ret := yR rfl
@[simp, simp ↓] theorem k86_35r : rS k86_35 k86_32 k86_34 := zS rfl
@[simp, simp ↓] theorem k86_36r : sR k86_36 k86_o1 k86_35 := yR rfl
@[simp, simp ↓] theorem k86_37r : sR k86_37 k86_o0 k86_36 := yR rfl
noncomputable abbrev k86_C : Orc → Cx := mkC Try.prog [] 86 49 [.tmp 4, .tmp 5]
theorem k86_of0 : OfP0 Try.prog Try.f86 86 49 k86_C k86_37 := @ofP0 _ _ _ _ _ _ _ _ Try.func86 (by decide +kernel) rfl (by kernel_rfl) rfl (by kernel_rfl)
theorem nextChoice_w (l : List Int) (E : Int) (h : Heap) (hl : l.length ≤ 24) (hE : 0 ≤ E ∧ E ≤ 24) (hr : ∀ c ∈ l, 0 ≤ c ∧ c ≤ 24) :
    ACalls Try.prog 86 [.snap 1 (l.map iv), .int .i64 E] h (fun v h' => ∃ u hp, v = .tup [u, .bool (nxr E l).isSome] ∧ Grow 1 u (((nxr E l).getD []).map iv) hp ∧ (∀ j ∈ dom hp, j ∉ dom h) ∧ h' = hp ++ h) := by
  have hll : l.length ≤ 1048576 := by omega
  refine k86_of0 rfl orcN_p fun I => ?_
  refine Run2.of I 1000 ?_
  simp -implicitDefEqProofs [hll]
  refine ⟨by omega, ?_⟩
  refine Run2.loopE (fun (i : Nat) => [(0, .snap 1 (l.map iv)), (1, .int .i64 E), (6, .int .i64 l.length), (7, .int .i64 ((l.length : Int) - 1 - i))]) (fun _ => h) (fun i => l.length - i) (fun i => i ≤ l.length ∧ nxr E (l.drop (l.length - i)) = none) 0 (by simp) rfl ⟨by omega, by simp [nxr]⟩ fun i ⟨hi, hn⟩ ih => ?_
  by_cases hlt : i < l.length
  · obtain ⟨j, hj⟩ : ∃ j : Nat, (l.length : Int) - 1 - i = (j : Int) := ⟨l.length - 1 - i, by omega⟩
    have hjl : j < l.length := by omega
    have hn : nxr E (l.drop (j + 1)) = none := by rw [show j + 1 = l.length - i by omega]; exact hn
    have hc := hr l[j] (List.getElem_mem hjl)
    have go := ih (i + 1)
    clear ih
    rw [hj]
    by_cases hlj : l[j] < E - l.length + j
    · have hs := nxr_some_at hjl hn hlj
      have hll2 : 0 ≤ l[j] ∧ l[j] ≤ 24 := hc
      refine Run2.of I 1000 ?_
      simp -implicitDefEqProofs [hjl, hlj]
      refine ⟨by omega, by omega, ?_⟩
      refine (Clone_w l h hll).monoN ?_
      rintro u h' ⟨gu, hgu, rfl⟩ nd
      have hdu : ∀ j ∈ dom gu, j ∉ dom h := fun j hj hj2 => by
        rw [dom_app, List.nodup_append] at nd
        exact nd.2.2 j hj j hj2 rfl
      generalize hL : l.map iv = L at hgu
      cases hgu with
      | nil => have h0 : l = [] := by simpa using hL
               subst h0; simp at hjl
      | emp => have h0 : l = [] := by simpa using hL
               subst h0; simp at hjl
      | sl idu _ n hn2 =>
      obtain rfl : n = l.length := by rw [hn2, ← hL]; simp
      subst hL
      have hdi : idu ∉ dom h := hdu idu (by simp [dom])
      refine gK.go ?_
      simp -implicitDefEqProofs
      have hgj : l.getD j 0 = l[j] := by simp [hjl]
      have e0 : (idu, (⟨1, l.map iv⟩ : Blk)) :: h = (idu, ⟨1, (upl l j j).map iv⟩) :: h := by rw [upl_zero]
      rw [e0]
      refine Run2.loopE (fun (k : Nat) => [(0, .snap 1 (l.map iv)), (6, .int .i64 l.length), (7, .int .i64 (j : Nat)), (8, .sl idu 1 0 l.length none), (9, .int .i64 (k : Nat))]) (fun k => (idu, ⟨1, (upl l j k).map iv⟩) :: h) (fun k => l.length - k) (fun k => j ≤ k ∧ k ≤ l.length) j (by simp) rfl ⟨Nat.le_refl _, by omega⟩ fun k ⟨hk1, hk2⟩ ih => ?_
      by_cases hkl : k < l.length
      · have go := ih (k + 1) ⟨by omega, by omega⟩ (by omega)
        clear ih
        rw [← upl_set l hk1 hkl, hgj, List.map_set] at go
        have hul := upl_len l hk1 (by omega)
        have hku : k < ((upl l j k).map iv).length := by rw [List.length_map]; omega
        generalize (upl l j k).map iv = X at *
        refine Run2.of I 1000 ?_
        simp -implicitDefEqProofs [hkl, hjl, hku]
        refine ⟨by omega, by omega, by omega, by omega, ?_⟩
        simpa using go
      · obtain rfl : k = l.length := by omega
        refine Run2.of I 1000 ?_
        simp -implicitDefEqProofs [hs]
        rw [upl_end l hjl]
        exact ⟨[(idu, _)], by simpa using Grow.sl (sz := 1) idu ((l.take j ++ up (l[j] + 1) (l.length - j)).map iv) l.length (by simp [up_len]; omega), fun b hb => by simp [dom] at hb; subst hb; exact hdi, rfl⟩
    · have h2 := nxr_none_at hjl hn hlj
      have go := go ⟨by omega, by rw [show l.length - (i + 1) = j by omega]; exact h2⟩ (by omega)
      have e1 : (j : Int) - 1 = (l.length : Int) - 1 - ((i + 1 : Nat) : Int) := by omega
      refine Run2.of I 1000 ?_
      simp -implicitDefEqProofs [hjl, hlj]
      refine ⟨by omega, by omega, by omega, ?_⟩
      rw [e1]
      exact go
  · obtain rfl : i = l.length := by omega
    have h0 : nxr E l = none := by simpa using hn
    rw [show (l.length : Int) - 1 - (l.length : Nat) = -1 by omega]
    refine Run2.of I 1000 ?_
    simp -implicitDefEqProofs [h0]
    exact .nil
end Go.AG
