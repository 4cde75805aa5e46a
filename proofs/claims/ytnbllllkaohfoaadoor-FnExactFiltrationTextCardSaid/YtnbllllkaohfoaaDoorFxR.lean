/- Stars, and a filtration with one time raised. No statement is made here. -/
import Derived.Test.YtnbllllkaohfoaaDoorFxHz
namespace Go.AG
open Go.Proofs Go.Proofs.YtnbllllkaohfoaaDoor
set_option linter.unusedSimpArgs false
set_option linter.unusedVariables false
set_option maxRecDepth 4000
abbrev k141_o0 : List AJ := [.o ⟨(some 4), none, false, .mv (.c (.int .i64 0)), (some [0, 1])⟩]
abbrev k141_o1 : List AJ := [.o ⟨(some 6), none, false, .mv (.t 0), none⟩, .o ⟨(some 7), none, false, .len (.t 6), none⟩, .o ⟨(some 8), none, false, .mv (.c (.int .i64 0)), (some [0, 1, 7, 8])⟩]
abbrev k141_o2 : List AJ := [.o ⟨(some 9), none, false, .bin .lss (.t 8) (.t 7), (some [0, 1, 7, 8, 9])⟩]
abbrev k141_o3 : List AJ := [.o ⟨(some 10), none, false, .mv (.t 8), none⟩, .o ⟨(some 5), none, false, .mv (.t 10), (some [0, 1, 5, 7, 8])⟩]
abbrev k141_o4 : List AJ := [.o ⟨(some 11), none, false, .mv (.t 1), none⟩, .o ⟨(some 12), none, false, .mv (.t 0), none⟩, .o ⟨(some 13), none, false, .mv (.t 5), none⟩, .o ⟨(some 14), none, false, .idxA 1 (.t 12) (.t 13), none⟩, .o ⟨(some 15), none, false, .load 1 false (.t 14), none⟩, .o ⟨(some 16), none, false, .bin .eql (.t 11) (.t 15), (some [0, 1, 5, 7, 8, 16])⟩]
abbrev k141_o5 : List AJ := [.o ⟨(some 17), none, false, .mv (.t 5), none⟩, .o ⟨(some 4), none, false, .mv (.t 17), (some [4])⟩]
def k141_7 : ACode := .seq (.region k141_o5) .ret
def k141_8 : ACode := .cond (.t 16) k141_7 .skip
def k141_9 : ACode := .seq (.region k141_o4) k141_8
def k141_10 : ACode := .seq (.region k141_o3) k141_9
abbrev k141_o6 : List AJ := [.o ⟨(some 18), none, true, .bin .add (.t 8) (.c (.int .i64 1)), none⟩, .o ⟨(some 8), none, false, .mv (.t 18), (some [0, 1, 7, 8])⟩]
def k141_12 : ACode := .region k141_o6
def k141_13 : ACode := .seq (.block 1 k141_10) k141_12
def k141_14 : ACode := .seq (.cond (.t 9) .skip (.exit 0)) k141_13
def k141_15 : ACode := .seq (.region k141_o2) k141_14
def k141_16 : ACode := .loop k141_15
def k141_17 : ACode := .block 0 k141_16
def k141_18 : ACode := .seq (.region k141_o1) k141_17
abbrev k141_o7 : List AJ := [.o ⟨(some 4), none, false, .mv (.c (.int .i64 (-1))), (some [4])⟩]
def k141_20 : ACode := .seq (.region k141_o7) .ret
def k141_21 : ACode := .seq k141_18 k141_20
def k141_22 : ACode := .seq (.region k141_o0) k141_21
@[simp, simp ↓] theorem k141_7r : sR k141_7 k141_o5 .ret := yR rfl
@[simp, simp ↓] theorem k141_8r : rC k141_8 (.t 16) k141_7 .skip := zC rfl
@[simp, simp ↓] theorem k141_9r : sR k141_9 k141_o4 k141_8 := yR rfl
@[simp, simp ↓] theorem k141_10r : sR k141_10 k141_o3 k141_9 := yR rfl
@[simp, simp ↓] theorem k141_12r : rR k141_12 k141_o6 := zR rfl
@[simp, simp ↓] theorem k141_13r : sB k141_13 1 k141_10 k141_12 := yB rfl
@[simp, simp ↓] theorem k141_14r : sC k141_14 (.t 9) .skip (.exit 0) k141_13 := yC rfl
@[simp, simp ↓] theorem k141_15r : sR k141_15 k141_o2 k141_14 := yR rfl
@[simp, simp ↓] theorem k141_16r : rL k141_16 k141_15 := zL rfl
@[simp, simp ↓] theorem k141_17r : rB k141_17 0 k141_16 := zB rfl
@[simp, simp ↓] theorem k141_18r : sR k141_18 k141_o1 k141_17 := yR rfl
@[simp, simp ↓] theorem k141_20r : sR k141_20 k141_o7 .ret := yR rfl
@[simp, simp ↓] theorem k141_21r : rS k141_21 k141_18 k141_20 := zS rfl
@[simp, simp ↓] theorem k141_22r : sR k141_22 k141_o0 k141_21 := yR rfl
noncomputable abbrev k141_C : Orc → Cx := mkC Tryd.prog [] 141 19 [.tmp 4]
theorem k141_of0 : OfP0 Tryd.prog Tryd.f141 141 19 k141_C k141_22 := @ofP0 _ _ _ _ _ _ _ _ Tryd.func141 (by decide +kernel) rfl (by kernel_rfl) rfl (by kernel_rfl)
theorem Index_s (l : List Int) (n : Int) (h : Heap) (hl : l.length ≤ 1048576) : ACalls Tryd.prog 141 [.snap 1 (l.map iv), .int .i64 n] h (fun v h' => v = .int .i64 (ixI l n) ∧ h' = h) := by
  unfold ixI
  refine k141_of0 rfl noPure fun I => ?_
  refine Run2.of I 1000 ?_
  simp -implicitDefEqProofs
  refine Run2.loopE (fun i => [(0, .snap 1 (l.map iv)), (1, .int .i64 n), (7, .int .i64 l.length), (8, .int .i64 (i : Nat))]) (fun i => h) (fun i => l.length - i) (fun i => i ≤ l.length ∧ ∀ j (hj : j < l.length), j < i → decide (n = l[j]) = false) 0 (by simp) rfl ⟨Nat.zero_le _, fun _ _ h => absurd h (Nat.not_lt_zero _)⟩ fun i hi ih => ?_
  by_cases hlt : i < l.length
  · have go := fun (h1 : ¬ n = l[i]) => ih (i + 1) ⟨by omega, fun j hj hji => by
      rcases Nat.lt_or_ge j i with h | h
      · exact hi.2 j hj h
      · obtain rfl : j = i := by omega
        simpa using h1⟩ (by omega)
    have hat := fun h1 : n = l[i] => idxf_at (q := fun a => decide (n = a)) hlt hi.2 (by simpa using h1)
    clear ih
    refine Run2.of I 1000 ?_
    simp -implicitDefEqProofs [hlt]
    refine ⟨fun h => (hat h).symm, fun h => ⟨by omega, ?_⟩⟩
    simpa using go h
  · obtain rfl : i = l.length := by omega
    have := idxf_none (q := fun a => decide (n = a)) (l := l) fun j hj => hi.2 j hj hj
    refine Run2.of I 1000 ?_
    simp -implicitDefEqProofs
    exact this.symm
theorem ixI_ge (l : List Int) (n : Int) : 0 ≤ ixI l n ↔ n ∈ l := by
  unfold ixI
  rw [idxf_ge]
  simp
noncomputable def o_indexI : List AV → Option (Prop × AV) := tab (fun (x : List Int × Int) => match x with | (l, n) => [.snap 1 (l.map iv), .int .i64 n]) (fun x => match x with | (l, n) => l.length ≤ 1048576) (fun x => match x with | (l, n) => .int .i64 (ixI l n))
@[simp] theorem o_indexI_e (l : List Int) (n : Int) : o_indexI [.snap 1 (l.map iv), .int .i64 n] = some (l.length ≤ 1048576, .int .i64 (ixI l n)) := tab_at (enc := fun (x : List Int × Int) => match x with | (l, n) => [.snap 1 (l.map iv), .int .i64 n]) (fun x y h => by
  obtain ⟨l1, n1⟩ := x; obtain ⟨l2, n2⟩ := y; simp at h; simp [h] <;> omega) _ _ (l, n)
theorem o_indexI_k : Knows Tryd.prog 141 o_indexI := tab_knows fun x hx h => by
  obtain ⟨l, n⟩ := x; exact Index_s l n h hx
noncomputable def orcR1 : List (Nat × (List AV → Option (Prop × AV))) := (141, o_indexI) :: []
theorem orcR1_p : Pure Tryd.prog (lk orcR1) := (lk_pure o_indexI_k lk_pure0)
@[simp] theorem orcR1_l (b : Bool) (g : FuncId) (l : List AV) : lk orcR1 b g l = if g = 141 then o_indexI l else none := nr rfl
abbrev k137_o0 : List AJ := [.o ⟨(some 4), none, false, .mv (.c (.bool false)), (some [0, 1])⟩]
abbrev k137_o1 : List AJ := [.o ⟨(some 5), none, false, .mv (.t 0), none⟩, .o ⟨(some 6), none, false, .mv (.t 1), none⟩, .o ⟨(some 7), none, false, .call 141 [(.t 5), (.t 6)], none⟩, .o ⟨(some 8), none, false, .bin .geq (.t 7) (.c (.int .i64 0)), none⟩, .o ⟨(some 4), none, false, .mv (.t 8), (some [4])⟩]
def k137_2 : ACode := .seq (.region k137_o1) .ret
def k137_3 : ACode := .seq (.region k137_o0) k137_2
@[simp, simp ↓] theorem k137_2r : sR k137_2 k137_o1 .ret := yR rfl
@[simp, simp ↓] theorem k137_3r : sR k137_3 k137_o0 k137_2 := yR rfl
noncomputable abbrev k137_C : Orc → Cx := mkC Tryd.prog [] 137 9 [.tmp 4]
theorem k137_of0 : OfP0 Tryd.prog Tryd.f137 137 9 k137_C k137_3 := @ofP0 _ _ _ _ _ _ _ _ Tryd.func137 (by decide +kernel) rfl (by kernel_rfl) rfl (by kernel_rfl)
theorem Contains_s (l : List Int) (n : Int) (h : Heap) (hl : l.length ≤ 1048576) : ACalls Tryd.prog 137 [.snap 1 (l.map iv), .int .i64 n] h (fun v h' => v = .bool (decide (n ∈ l)) ∧ h' = h) := by
  refine k137_of0 rfl orcR1_p fun I => ?_
  refine Run2.of I 1000 ?_
  simp -implicitDefEqProofs [hl, ixI_ge]
abbrev k136_o0 : List AJ := [.o ⟨(some 3), none, false, .mv (.c (.bool false)), (some [0, 1])⟩]
abbrev k136_o1 : List AJ := [.o ⟨(some 4), none, false, .load 1 false (.t 1), none⟩, .o ⟨(some 5), none, false, .mv (.t 0), none⟩, .o ⟨(some 6), none, false, .call 137 [(.t 4), (.t 5)], none⟩, .o ⟨(some 7), none, false, .un .not (.t 6), none⟩, .o ⟨(some 3), none, false, .mv (.t 7), (some [3])⟩]
def k136_2 : ACode := .seq (.region k136_o1) .ret
def k136_3 : ACode := .seq (.region k136_o0) k136_2
@[simp, simp ↓] theorem k136_2r : sR k136_2 k136_o1 .ret := yR rfl
@[simp, simp ↓] theorem k136_3r : sR k136_3 k136_o0 k136_2 := yR rfl
noncomputable abbrev k136_C : Orc → Cx := mkC Tryd.prog [] 136 8 [.tmp 3]
theorem k136_of0 : OfP0 Tryd.prog Tryd.f136 136 8 k136_C k136_3 := @ofP0 _ _ _ _ _ _ _ _ Tryd.func136 (by decide +kernel) rfl (by kernel_rfl) rfl (by kernel_rfl)
theorem isFace1_c (s : List Int) (a : Int) (h : Heap) (hl : s.length ≤ 1048576) : ACalls Tryd.prog 136 [.int .i64 a, .ip [.snap 1 (s.map iv)]] h (fun v h' => v = .bool (!decide (a ∈ s)) ∧ h' = h) := by
  refine k136_of0 rfl noPure fun I => ?_
  refine Run2.of I 1000 ?_
  simp -implicitDefEqProofs
  refine (Contains_s s a h hl).mono ?_
  rintro v h' ⟨rfl, rfl⟩
  refine gK.go ?_
  simp -implicitDefEqProofs
/-- All numbers of f are numbers of s. -/
def subL (f s : List Int) : Bool := f.all fun a => decide (a ∈ s)
abbrev k127_o0 : List AJ := [.o ⟨(some 3), none, false, .box false 1 (.t 1), none⟩, .o ⟨(some 4), none, false, .mv (.c (.bool false)), (some [0, 3])⟩]
abbrev k127_o1 : List AJ := [.o ⟨(some 5), none, false, .mv (.t 0), none⟩, .o ⟨(some 6), none, false, .mkfn 136 [(.t 3)], none⟩, .o ⟨(some 7), none, false, .call 58 [(.t 5), (.t 6)], none⟩, .o ⟨(some 8), none, false, .un .not (.t 7), none⟩, .o ⟨(some 4), none, false, .mv (.t 8), (some [4])⟩]
def k127_2 : ACode := .seq (.region k127_o1) .ret
def k127_3 : ACode := .seq (.region k127_o0) k127_2
@[simp, simp ↓] theorem k127_2r : sR k127_2 k127_o1 .ret := yR rfl
@[simp, simp ↓] theorem k127_3r : sR k127_3 k127_o0 k127_2 := yR rfl
noncomputable abbrev k127_C : Orc → Cx := mkC Tryd.prog [] 127 9 [.tmp 4]
theorem k127_of0 : OfP0 Tryd.prog Tryd.f127 127 9 k127_C k127_3 := @ofP0 _ _ _ _ _ _ _ _ Tryd.func127 (by decide +kernel) rfl (by kernel_rfl) rfl (by kernel_rfl)
theorem isFace_s (f s : List Int) (h : Heap) (hf : f.length ≤ 1048576) (hl : s.length ≤ 1048576) : ACalls Tryd.prog 127 [.snap 1 (f.map iv), .snap 1 (s.map iv)] h (fun v h' => v = .bool (subL f s) ∧ h' = h) := by
  refine k127_of0 rfl noPure fun I => ?_
  refine Run2.of I 1000 ?_
  simp -implicitDefEqProofs
  refine (ContainsFunc_s f 136 [.ip [.snap 1 (s.map iv)]] (fun a => !decide (a ∈ s)) h hf fun a ha => isFace1_c s a h hl).mono ?_
  rintro v h' ⟨rfl, rfl⟩
  refine gK.go ?_
  simp -implicitDefEqProofs
  rw [subL]
  exact (List.not_all_eq_any_not ..).symm
noncomputable def o_isFace : List AV → Option (Prop × AV) := tab (fun (x : List Int × List Int) => match x with | (f, s) => [.snap 1 (f.map iv), .snap 1 (s.map iv)]) (fun x => match x with | (f, s) => (f.length ≤ 1048576 ∧ s.length ≤ 1048576)) (fun x => match x with | (f, s) => .bool (subL f s))
@[simp] theorem o_isFace_e (f : List Int) (s : List Int) : o_isFace [.snap 1 (f.map iv), .snap 1 (s.map iv)] = some ((f.length ≤ 1048576 ∧ s.length ≤ 1048576), .bool (subL f s)) := tab_at (enc := fun (x : List Int × List Int) => match x with | (f, s) => [.snap 1 (f.map iv), .snap 1 (s.map iv)]) (fun x y h => by
  obtain ⟨f1, s1⟩ := x; obtain ⟨f2, s2⟩ := y; simp at h; simp [h] <;> omega) _ _ (f, s)
theorem o_isFace_k : Knows Tryd.prog 127 o_isFace := tab_knows fun x hx h => by
  obtain ⟨f, s⟩ := x; exact isFace_s f s h hx.1 hx.2
noncomputable def orcR2 : List (Nat × (List AV → Option (Prop × AV))) := (127, o_isFace) :: []
theorem orcR2_p : Pure Tryd.prog (lk orcR2) := (lk_pure o_isFace_k lk_pure0)
@[simp] theorem orcR2_l (b : Bool) (g : FuncId) (l : List AV) : lk orcR2 b g l = if g = 127 then o_isFace l else none := nr rfl
/-- The places of those around a simplex, of the first i. -/
def starN (rs : List (List Int)) (s : List Int) (i : Nat) : List Nat := (List.range i).filter fun j => subL s (rs.getD j [])
theorem starN_pos {rs : List (List Int)} {s : List Int} {i : Nat} (hi : i < rs.length) (h : subL s rs[i] = true) : starN rs s (i + 1) = starN rs s i ++ [i] := by
  unfold starN
  rw [List.range_succ, List.filter_append]
  simp [hi, h]
theorem starN_neg {rs : List (List Int)} {s : List Int} {i : Nat} (hi : i < rs.length) (h : ¬ subL s rs[i] = true) : starN rs s (i + 1) = starN rs s i := by
  unfold starN
  rw [List.range_succ, List.filter_append]
  simp [hi, h]
theorem starN_len (rs : List (List Int)) (s : List Int) (i : Nat) : (starN rs s i).length ≤ i := by
  unfold starN
  exact Nat.le_trans (List.length_filter_le ..) (by simp)
theorem starN_lt {rs : List (List Int)} {s : List Int} {i j : Nat} (h : j ∈ starN rs s i) : j < i := by
  unfold starN at h
  exact List.mem_range.1 (List.mem_filter.1 h).1
def nv (n : Nat) : AV := .int .i64 n
abbrev k110_o0 : List AJ := [.o ⟨(some 2), none, false, .box false 1 (.t 0), none⟩, .o ⟨(some 4), none, false, .mv (.c .nilsl), (some [1, 2])⟩]
abbrev k110_o1 : List AJ := [.o ⟨(some 5), none, false, .mv (.c .nilsl), (some [1, 2, 5])⟩]
abbrev k110_o2 : List AJ := [.o ⟨(some 8), none, false, .fieldA 0 (.t 2), none⟩, .o ⟨(some 9), none, false, .load 1 false (.t 8), none⟩, .o ⟨(some 10), none, false, .len (.t 9), none⟩, .o ⟨(some 11), none, false, .mv (.c (.int .i64 0)), (some [1, 2, 5, 9, 10, 11])⟩]
abbrev k110_o3 : List AJ := [.o ⟨(some 12), none, false, .bin .lss (.t 11) (.t 10), (some [1, 2, 5, 9, 10, 11, 12])⟩]
abbrev k110_o4 : List AJ := [.o ⟨(some 13), none, false, .mv (.t 11), none⟩, .o ⟨(some 14), none, false, .idxA 1 (.t 9) (.t 11), none⟩, .o ⟨(some 15), none, false, .load 1 false (.t 14), none⟩, .o ⟨(some 6), none, false, .mv (.t 13), none⟩, .o ⟨(some 7), none, false, .mv (.t 15), (some [1, 2, 5, 6, 7, 9, 10, 11])⟩]
abbrev k110_o5 : List AJ := [.o ⟨(some 16), none, false, .fieldA 0 (.t 2), none⟩, .o ⟨(some 17), none, false, .load 1 false (.t 16), none⟩, .o ⟨(some 18), none, false, .mv (.t 1), none⟩, .o ⟨(some 19), none, false, .idxA 1 (.t 17) (.t 18), none⟩, .o ⟨(some 20), none, false, .load 1 false (.t 19), none⟩, .o ⟨(some 21), none, false, .mv (.t 7), none⟩, .o ⟨(some 22), none, false, .call 127 [(.t 20), (.t 21)], (some [1, 2, 5, 6, 9, 10, 11, 22])⟩]
abbrev k110_o6 : List AJ := [.o ⟨(some 23), none, false, .mv (.t 5), none⟩, .o ⟨(some 24), none, false, .mv (.t 6), none⟩, .o ⟨(some 25), none, false, .bsl false 1 [(.t 24)], none⟩, .o ⟨(some 26), none, false, .append 1 8 (.t 23) (.t 25), none⟩, .o ⟨(some 5), none, false, .mv (.t 26), (some [1, 2, 5, 9, 10, 11])⟩]
def k110_7 : ACode := .region k110_o6
def k110_8 : ACode := .cond (.t 22) k110_7 .skip
def k110_9 : ACode := .seq (.region k110_o5) k110_8
def k110_10 : ACode := .seq (.region k110_o4) k110_9
abbrev k110_o7 : List AJ := [.o ⟨(some 27), none, true, .bin .add (.t 11) (.c (.int .i64 1)), none⟩, .o ⟨(some 11), none, false, .mv (.t 27), (some [1, 2, 5, 9, 10, 11])⟩]
def k110_12 : ACode := .region k110_o7
def k110_13 : ACode := .seq (.block 1 k110_10) k110_12
def k110_14 : ACode := .seq (.cond (.t 12) .skip (.exit 0)) k110_13
def k110_15 : ACode := .seq (.region k110_o3) k110_14
def k110_16 : ACode := .loop k110_15
def k110_17 : ACode := .block 0 k110_16
def k110_18 : ACode := .seq (.region k110_o2) k110_17
abbrev k110_o8 : List AJ := [.o ⟨(some 28), none, false, .mv (.t 5), none⟩, .o ⟨(some 4), none, false, .mv (.t 28), (some [4])⟩]
def k110_20 : ACode := .seq (.region k110_o8) .ret
def k110_21 : ACode := .seq k110_18 k110_20
def k110_22 : ACode := .seq (.region k110_o1) k110_21
def k110_23 : ACode := .seq (.region k110_o0) k110_22
@[simp, simp ↓] theorem k110_7r : rR k110_7 k110_o6 := zR rfl
@[simp, simp ↓] theorem k110_8r : rC k110_8 (.t 22) k110_7 .skip := zC rfl
@[simp, simp ↓] theorem k110_9r : sR k110_9 k110_o5 k110_8 := yR rfl
@[simp, simp ↓] theorem k110_10r : sR k110_10 k110_o4 k110_9 := yR rfl
@[simp, simp ↓] theorem k110_12r : rR k110_12 k110_o7 := zR rfl
@[simp, simp ↓] theorem k110_13r : sB k110_13 1 k110_10 k110_12 := yB rfl
@[simp, simp ↓] theorem k110_14r : sC k110_14 (.t 12) .skip (.exit 0) k110_13 := yC rfl
@[simp, simp ↓] theorem k110_15r : sR k110_15 k110_o3 k110_14 := yR rfl
@[simp, simp ↓] theorem k110_16r : rL k110_16 k110_15 := zL rfl
@[simp, simp ↓] theorem k110_17r : rB k110_17 0 k110_16 := zB rfl
@[simp, simp ↓] theorem k110_18r : sR k110_18 k110_o2 k110_17 := yR rfl
@[simp, simp ↓] theorem k110_20r : sR k110_20 k110_o8 .ret := yR rfl
@[simp, simp ↓] theorem k110_21r : rS k110_21 k110_18 k110_20 := zS rfl
@[simp, simp ↓] theorem k110_22r : sR k110_22 k110_o1 k110_21 := yR rfl
@[simp, simp ↓] theorem k110_23r : sR k110_23 k110_o0 k110_22 := yR rfl
noncomputable abbrev k110_C : Orc → Cx := mkC Tryd.prog [] 110 29 [.tmp 4]
theorem k110_of : OfP Tryd.prog Tryd.f110 110 29 k110_C k110_23 := @ofP _ _ _ _ _ _ _ _ Tryd.func110 (by decide +kernel) rfl (by kernel_rfl) rfl (by kernel_rfl)
theorem starOf_s (rs : List (List Int)) (k : Nat) (h : Heap) (hl : ssTot rs ≤ 1048576) (hk : k < rs.length) : ACalls Tryd.prog 110 [.agg [.snap 1 (rs.map il)], .int .i64 k] h (fun v h' => v = .snap 1 ((starN rs rs[k] rs.length).map nv) ∧ h' = h) := by
  have hf := fit_of_tot hl
  have hn := hf.1
  have hrk := hf.2 _ (List.getElem_mem hk)
  refine k110_of rfl orcR2_p fun I => ?_
  refine Run2.of I 1000 ?_
  simp -implicitDefEqProofs
  refine Run2.loopE (α := Nat × AV × Heap) (fun p => [(1, .int .i64 k), (2, .ip [.snap 1 (rs.map il)]), (5, p.2.1), (9, .snap 1 (rs.map il)), (10, .int .i64 rs.length), (11, .int .i64 (p.1 : Nat))]) (fun p => p.2.2 ++ h) (fun p => rs.length - p.1) (fun p => p.1 ≤ rs.length ∧ Grow 1 p.2.1 ((starN rs rs[k] p.1).map nv) p.2.2) (0, .nilsl, []) (by simp) rfl ⟨Nat.zero_le _, by simpa [starN] using Grow.nil⟩ ?_
  rintro ⟨i, w, hp⟩ ⟨hi, hg⟩ ih
  simp only at hi hg
  have hcell := hg.cell
  by_cases hlt : i < rs.length
  · have hr := hf.2 _ (List.getElem_mem hlt)
    have hsl := starN_len rs rs[k] i
    by_cases hs : subL rs[k] rs[i] = true
    · have go := fun w' hp' (g : Grow 1 w' ((starN rs rs[k] i).map nv ++ [.int .i64 i]) hp') => ih (i + 1, w', hp') ⟨hlt, by
        simp only
        rw [starN_pos hlt hs, List.map_append]
        exact g⟩ (by simp; omega)
      clear ih
      refine Run2.of I 1000 ?_
      simp -implicitDefEqProofs [hlt, hk, hr, hrk, hcell, hs]
      refine hg.app (by simp; omega) (by simp) fun w' hp' hg' => ?_
      have hcell' := hg'.cell
      have := go w' hp' hg'
      simp -implicitDefEqProofs [hcell']
      refine ⟨by omega, ?_⟩
      simpa using this
    · have go := ih (i + 1, w, hp) ⟨hlt, by simp only; rw [starN_neg hlt hs]; exact hg⟩ (by simp; omega)
      have hs' : subL rs[k] rs[i] = false := by simpa using hs
      clear ih
      refine Run2.of I 1000 ?_
      simp -implicitDefEqProofs [hlt, hk, hr, hrk, hcell, hs']
      refine ⟨by omega, ?_⟩
      simpa using go
  · obtain rfl : i = rs.length := by omega
    refine Run2.of I 1000 ?_
    simp -implicitDefEqProofs [hlt, hcell]
    exact hg.froze (fun x => x) (fun _ _ _ => rfl) (fun _ _ h => h) (.base ⟨rfl, rfl⟩)
abbrev k140_o0 : List AJ := [.o ⟨(some 4), none, false, .mv (.c (.bool false)), (some [0, 1])⟩]
abbrev k140_o1 : List AJ := [.o ⟨(some 5), none, false, .mv (.c (.int .i64 0)), (some [0, 1, 5])⟩]
abbrev k140_o2 : List AJ := [.o ⟨(some 6), none, false, .mv (.t 5), none⟩, .o ⟨(some 7), none, false, .mv (.t 0), none⟩, .o ⟨(some 8), none, false, .len (.t 7), none⟩, .o ⟨(some 9), none, false, .bin .lss (.t 6) (.t 8), (some [0, 1, 5, 9])⟩]
def k140_3 : ACode := .cond (.t 9) .skip (.exit 0)
def k140_4 : ACode := .seq (.region k140_o2) k140_3
abbrev k140_o3 : List AJ := [.o ⟨(some 12), none, false, .mv (.t 0), none⟩, .o ⟨(some 13), none, false, .mv (.t 5), none⟩, .o ⟨(some 14), none, false, .idxA 1 (.t 12) (.t 13), none⟩, .o ⟨(some 15), none, false, .load 1 false (.t 14), none⟩, .o ⟨(some 16), none, false, .mv (.t 1), none⟩, .o ⟨(some 17), none, false, .bin .eql (.t 15) (.t 16), (some [0, 1, 5, 17])⟩]
abbrev k140_o4 : List AJ := [.o ⟨(some 4), none, false, .mv (.c (.bool true)), (some [4])⟩]
def k140_7 : ACode := .seq (.region k140_o4) .ret
def k140_8 : ACode := .cond (.t 17) k140_7 .skip
def k140_9 : ACode := .seq (.region k140_o3) k140_8
abbrev k140_o5 : List AJ := [.o ⟨(some 10), none, false, .mv (.t 5), none⟩, .o ⟨(some 11), none, true, .bin .add (.t 10) (.c (.int .i64 1)), none⟩, .o ⟨(some 5), none, false, .mv (.t 11), (some [0, 1, 5])⟩]
def k140_11 : ACode := .region k140_o5
def k140_12 : ACode := .seq (.block 1 k140_9) k140_11
def k140_13 : ACode := .seq k140_4 k140_12
def k140_14 : ACode := .loop k140_13
def k140_15 : ACode := .block 0 k140_14
def k140_16 : ACode := .seq (.region k140_o1) k140_15
abbrev k140_o6 : List AJ := [.o ⟨(some 4), none, false, .mv (.c (.bool false)), (some [4])⟩]
def k140_18 : ACode := .seq (.region k140_o6) .ret
def k140_19 : ACode := .seq k140_16 k140_18
def k140_20 : ACode := .seq (.region k140_o0) k140_19
@[simp, simp ↓] theorem k140_3r : rC k140_3 (.t 9) .skip (.exit 0) := zC rfl
@[simp, simp ↓] theorem k140_4r : sR k140_4 k140_o2 k140_3 := yR rfl
@[simp, simp ↓] theorem k140_7r : sR k140_7 k140_o4 .ret := yR rfl
@[simp, simp ↓] theorem k140_8r : rC k140_8 (.t 17) k140_7 .skip := zC rfl
@[simp, simp ↓] theorem k140_9r : sR k140_9 k140_o3 k140_8 := yR rfl
@[simp, simp ↓] theorem k140_11r : rR k140_11 k140_o5 := zR rfl
@[simp, simp ↓] theorem k140_12r : sB k140_12 1 k140_9 k140_11 := yB rfl
@[simp, simp ↓] theorem k140_13r : rS k140_13 k140_4 k140_12 := zS rfl
@[simp, simp ↓] theorem k140_14r : rL k140_14 k140_13 := zL rfl
@[simp, simp ↓] theorem k140_15r : rB k140_15 0 k140_14 := zB rfl
@[simp, simp ↓] theorem k140_16r : sR k140_16 k140_o1 k140_15 := yR rfl
@[simp, simp ↓] theorem k140_18r : sR k140_18 k140_o6 .ret := yR rfl
@[simp, simp ↓] theorem k140_19r : rS k140_19 k140_16 k140_18 := zS rfl
@[simp, simp ↓] theorem k140_20r : sR k140_20 k140_o0 k140_19 := yR rfl
noncomputable abbrev k140_C : Orc → Cx := mkC Tryd.prog [] 140 18 [.tmp 4]
theorem k140_of0 : OfP0 Tryd.prog Tryd.f140 140 18 k140_C k140_20 := @ofP0 _ _ _ _ _ _ _ _ Tryd.func140 (by decide +kernel) rfl (by kernel_rfl) rfl (by kernel_rfl)
theorem l00Has_s (l : List Int) (n : Int) (h : Heap) (hl : l.length ≤ 1048576) : ACalls Tryd.prog 140 [.snap 1 (l.map iv), .int .i64 n] h (fun v h' => v = .bool (decide (n ∈ l)) ∧ h' = h) := by
  refine k140_of0 rfl noPure fun I => ?_
  refine Run2.of I 1000 ?_
  simp -implicitDefEqProofs
  refine Run2.loopE (fun i => [(0, .snap 1 (l.map iv)), (1, .int .i64 n), (5, .int .i64 (i : Nat))]) (fun i => h) (fun i => l.length - i) (fun i => i ≤ l.length ∧ n ∉ l.take i) 0 (by simp) rfl (by simp) fun i hi ih => ?_
  by_cases hlt : i < l.length
  · have hin : l[i] = n → n ∈ l := fun h => h ▸ List.getElem_mem hlt
    have go := fun (h1 : ¬ l[i] = n) => ih (i + 1) ⟨by omega, by rw [List.take_succ_eq_append_getElem hlt, List.mem_append, List.mem_singleton]; rintro (h | h); exact hi.2 h; exact h1 h.symm⟩ (by omega)
    clear ih
    refine Run2.of I 1000 ?_
    simp -implicitDefEqProofs [hlt]
    exact ⟨fun h => hin h, fun h => ⟨by omega, by simpa using go h⟩⟩
  · obtain rfl : i = l.length := by omega
    have h2 := hi.2
    rw [List.take_length] at h2
    refine Run2.of I 1000 ?_
    simp -implicitDefEqProofs
    exact h2
noncomputable def o_l00Has : List AV → Option (Prop × AV) := tab (fun (x : List Int × Int) => match x with | (l, n) => [.snap 1 (l.map iv), .int .i64 n]) (fun x => match x with | (l, n) => l.length ≤ 1048576) (fun x => match x with | (l, n) => .bool (decide (n ∈ l)))
@[simp] theorem o_l00Has_e (l : List Int) (n : Int) : o_l00Has [.snap 1 (l.map iv), .int .i64 n] = some (l.length ≤ 1048576, .bool (decide (n ∈ l))) := tab_at (enc := fun (x : List Int × Int) => match x with | (l, n) => [.snap 1 (l.map iv), .int .i64 n]) (fun x y h => by
  obtain ⟨l1, n1⟩ := x; obtain ⟨l2, n2⟩ := y; simp at h; simp [h] <;> omega) _ _ (l, n)
theorem o_l00Has_k : Knows Tryd.prog 140 o_l00Has := tab_knows fun x hx h => by
  obtain ⟨l, n⟩ := x; exact l00Has_s l n h hx
noncomputable def orcR3 : List (Nat × (List AV → Option (Prop × AV))) := (140, o_l00Has) :: []
theorem orcR3_p : Pure Tryd.prog (lk orcR3) := (lk_pure o_l00Has_k lk_pure0)
@[simp] theorem orcR3_l (b : Bool) (g : FuncId) (l : List AV) : lk orcR3 b g l = if g = 140 then o_l00Has l else none := nr rfl
abbrev k133_o0 : List AJ := [.o ⟨(some 4), none, false, .mv (.c (.bool false)), (some [0, 1])⟩]
abbrev k133_o1 : List AJ := [.o ⟨(some 5), none, false, .mv (.c (.int .i64 0)), (some [0, 1, 5])⟩]
abbrev k133_o2 : List AJ := [.o ⟨(some 6), none, false, .mv (.t 5), none⟩, .o ⟨(some 7), none, false, .mv (.t 0), none⟩, .o ⟨(some 8), none, false, .len (.t 7), none⟩, .o ⟨(some 9), none, false, .bin .lss (.t 6) (.t 8), (some [0, 1, 5, 9])⟩]
def k133_3 : ACode := .cond (.t 9) .skip (.exit 0)
def k133_4 : ACode := .seq (.region k133_o2) k133_3
abbrev k133_o3 : List AJ := [.o ⟨(some 12), none, false, .mv (.t 1), none⟩, .o ⟨(some 13), none, false, .mv (.t 0), none⟩, .o ⟨(some 14), none, false, .mv (.t 5), none⟩, .o ⟨(some 15), none, false, .idxA 1 (.t 13) (.t 14), none⟩, .o ⟨(some 16), none, false, .load 1 false (.t 15), none⟩, .o ⟨(some 17), none, false, .call 140 [(.t 12), (.t 16)], none⟩, .o ⟨(some 18), none, false, .un .not (.t 17), (some [0, 1, 5, 18])⟩]
abbrev k133_o4 : List AJ := [.o ⟨(some 4), none, false, .mv (.c (.bool false)), (some [4])⟩]
def k133_7 : ACode := .seq (.region k133_o4) .ret
def k133_8 : ACode := .cond (.t 18) k133_7 .skip
def k133_9 : ACode := .seq (.region k133_o3) k133_8
abbrev k133_o5 : List AJ := [.o ⟨(some 10), none, false, .mv (.t 5), none⟩, .o ⟨(some 11), none, true, .bin .add (.t 10) (.c (.int .i64 1)), none⟩, .o ⟨(some 5), none, false, .mv (.t 11), (some [0, 1, 5])⟩]
def k133_11 : ACode := .region k133_o5
def k133_12 : ACode := .seq (.block 1 k133_9) k133_11
def k133_13 : ACode := .seq k133_4 k133_12
def k133_14 : ACode := .loop k133_13
def k133_15 : ACode := .block 0 k133_14
def k133_16 : ACode := .seq (.region k133_o1) k133_15
abbrev k133_o6 : List AJ := [.o ⟨(some 4), none, false, .mv (.c (.bool true)), (some [4])⟩]
def k133_18 : ACode := .seq (.region k133_o6) .ret
def k133_19 : ACode := .seq k133_16 k133_18
def k133_20 : ACode := .seq (.region k133_o0) k133_19
@[simp, simp ↓] theorem k133_3r : rC k133_3 (.t 9) .skip (.exit 0) := zC rfl
@[simp, simp ↓] theorem k133_4r : sR k133_4 k133_o2 k133_3 := yR rfl
@[simp, simp ↓] theorem k133_7r : sR k133_7 k133_o4 .ret := yR rfl
@[simp, simp ↓] theorem k133_8r : rC k133_8 (.t 18) k133_7 .skip := zC rfl
@[simp, simp ↓] theorem k133_9r : sR k133_9 k133_o3 k133_8 := yR rfl
@[simp, simp ↓] theorem k133_11r : rR k133_11 k133_o5 := zR rfl
@[simp, simp ↓] theorem k133_12r : sB k133_12 1 k133_9 k133_11 := yB rfl
@[simp, simp ↓] theorem k133_13r : rS k133_13 k133_4 k133_12 := zS rfl
@[simp, simp ↓] theorem k133_14r : rL k133_14 k133_13 := zL rfl
@[simp, simp ↓] theorem k133_15r : rB k133_15 0 k133_14 := zB rfl
@[simp, simp ↓] theorem k133_16r : sR k133_16 k133_o1 k133_15 := yR rfl
@[simp, simp ↓] theorem k133_18r : sR k133_18 k133_o6 .ret := yR rfl
@[simp, simp ↓] theorem k133_19r : rS k133_19 k133_16 k133_18 := zS rfl
@[simp, simp ↓] theorem k133_20r : sR k133_20 k133_o0 k133_19 := yR rfl
noncomputable abbrev k133_C : Orc → Cx := mkC Tryd.prog [] 133 19 [.tmp 4]
theorem k133_of0 : OfP0 Tryd.prog Tryd.f133 133 19 k133_C k133_20 := @ofP0 _ _ _ _ _ _ _ _ Tryd.func133 (by decide +kernel) rfl (by kernel_rfl) rfl (by kernel_rfl)
theorem l05Part_s (f s : List Int) (h : Heap) (hf : f.length ≤ 1048576) (hl : s.length ≤ 1048576) : ACalls Tryd.prog 133 [.snap 1 (f.map iv), .snap 1 (s.map iv)] h (fun v h' => v = .bool (subL f s) ∧ h' = h) := by
  refine k133_of0 rfl orcR3_p fun I => ?_
  refine Run2.of I 1000 ?_
  simp -implicitDefEqProofs
  refine Run2.loopE (fun (i : Nat) => [(0, .snap 1 (f.map iv)), (1, .snap 1 (s.map iv)), (5, .int .i64 i)]) (fun i => h) (fun i => f.length - i) (fun i => i ≤ f.length ∧ ∀ j (hj : j < f.length), j < i → f[j] ∈ s) 0 (by simp) rfl ⟨Nat.zero_le _, fun _ _ h => by omega⟩ fun i hi ih => ?_
  by_cases hlt : i < f.length
  · have go := fun (h1 : f[i] ∈ s) => ih (i + 1) ⟨by omega, fun j hj hji => by
      rcases Nat.lt_or_ge j i with h | h
      · exact hi.2 j hj h
      · obtain rfl : j = i := by omega
        exact h1⟩ (by omega)
    have hb : f[i] ∉ s → subL f s = false := fun h1 => by
      rw [Bool.eq_false_iff]
      intro h2
      have := List.all_eq_true.1 h2 _ (List.getElem_mem hlt)
      exact h1 (by simpa using this)
    clear ih
    refine Run2.of I 1000 ?_
    simp -implicitDefEqProofs [hlt, hl]
    refine ⟨fun h => (hb h), fun h => ⟨by omega, by simpa using go h⟩⟩
  · obtain rfl : i = f.length := by omega
    have : subL f s = true := List.all_eq_true.2 fun a ha => by
      obtain ⟨j, hj, rfl⟩ := List.mem_iff_getElem.1 ha
      simpa using hi.2 j hj hj
    refine Run2.of I 1000 ?_
    simp -implicitDefEqProofs [this]
noncomputable def o_l05Part : List AV → Option (Prop × AV) := tab (fun (x : List Int × List Int) => match x with | (f, s) => [.snap 1 (f.map iv), .snap 1 (s.map iv)]) (fun x => match x with | (f, s) => (f.length ≤ 1048576 ∧ s.length ≤ 1048576)) (fun x => match x with | (f, s) => .bool (subL f s))
@[simp] theorem o_l05Part_e (f : List Int) (s : List Int) : o_l05Part [.snap 1 (f.map iv), .snap 1 (s.map iv)] = some ((f.length ≤ 1048576 ∧ s.length ≤ 1048576), .bool (subL f s)) := tab_at (enc := fun (x : List Int × List Int) => match x with | (f, s) => [.snap 1 (f.map iv), .snap 1 (s.map iv)]) (fun x y h => by
  obtain ⟨f1, s1⟩ := x; obtain ⟨f2, s2⟩ := y; simp at h; simp [h] <;> omega) _ _ (f, s)
theorem o_l05Part_k : Knows Tryd.prog 133 o_l05Part := tab_knows fun x hx h => by
  obtain ⟨f, s⟩ := x; exact l05Part_s f s h hx.1 hx.2
noncomputable def orcR4 : List (Nat × (List AV → Option (Prop × AV))) := (133, o_l05Part) :: []
theorem orcR4_p : Pure Tryd.prog (lk orcR4) := (lk_pure o_l05Part_k lk_pure0)
@[simp] theorem orcR4_l (b : Bool) (g : FuncId) (l : List AV) : lk orcR4 b g l = if g = 133 then o_l05Part l else none := nr rfl
abbrev k119_o0 : List AJ := [.o ⟨(some 4), none, false, .mv (.c .nilsl), (some [0, 1])⟩]
abbrev k119_o1 : List AJ := [.e 7 1 none, .o ⟨(some 5), none, false, .mv (.t 7), (some [0, 1, 5])⟩]
abbrev k119_o2 : List AJ := [.o ⟨(some 6), none, false, .mv (.c (.int .i64 0)), (some [0, 1, 5, 6])⟩]
abbrev k119_o3 : List AJ := [.o ⟨(some 8), none, false, .mv (.t 6), none⟩, .o ⟨(some 9), none, false, .mv (.t 0), none⟩, .o ⟨(some 10), none, false, .nilchk (.t 9), none⟩, .o ⟨(some 11), none, false, .fieldA 0 (.t 10), none⟩, .o ⟨(some 12), none, false, .load 1 false (.t 11), none⟩, .o ⟨(some 13), none, false, .len (.t 12), none⟩, .o ⟨(some 14), none, false, .bin .lss (.t 8) (.t 13), (some [0, 1, 5, 6, 14])⟩]
def k119_4 : ACode := .cond (.t 14) .skip (.exit 0)
def k119_5 : ACode := .seq (.region k119_o3) k119_4
abbrev k119_o4 : List AJ := [.o ⟨(some 17), none, false, .mv (.t 1), none⟩, .o ⟨(some 18), none, false, .mv (.t 0), none⟩, .o ⟨(some 19), none, false, .nilchk (.t 18), none⟩, .o ⟨(some 20), none, false, .fieldA 0 (.t 19), none⟩, .o ⟨(some 21), none, false, .load 1 false (.t 20), none⟩, .o ⟨(some 22), none, false, .mv (.t 6), none⟩, .o ⟨(some 23), none, false, .idxA 1 (.t 21) (.t 22), none⟩, .o ⟨(some 24), none, false, .load 1 false (.t 23), none⟩, .o ⟨(some 25), none, false, .call 133 [(.t 17), (.t 24)], (some [0, 1, 5, 6, 25])⟩]
abbrev k119_o5 : List AJ := [.o ⟨(some 26), none, false, .mv (.t 5), none⟩, .o ⟨(some 27), none, false, .mv (.t 6), none⟩, .o ⟨(some 28), none, false, .bsl false 1 [(.t 27)], none⟩, .o ⟨(some 29), none, false, .append 1 8 (.t 26) (.t 28), none⟩, .o ⟨(some 5), none, false, .mv (.t 29), (some [0, 1, 5, 6])⟩]
def k119_7 : ACode := .region k119_o5
def k119_8 : ACode := .cond (.t 25) k119_7 .skip
def k119_9 : ACode := .seq (.region k119_o4) k119_8
abbrev k119_o6 : List AJ := [.o ⟨(some 15), none, false, .mv (.t 6), none⟩, .o ⟨(some 16), none, true, .bin .add (.t 15) (.c (.int .i64 1)), none⟩, .o ⟨(some 6), none, false, .mv (.t 16), (some [0, 1, 5, 6])⟩]
def k119_11 : ACode := .region k119_o6
def k119_12 : ACode := .seq (.block 1 k119_9) k119_11
def k119_13 : ACode := .seq k119_5 k119_12
def k119_14 : ACode := .loop k119_13
def k119_15 : ACode := .block 0 k119_14
def k119_16 : ACode := .seq (.region k119_o2) k119_15
abbrev k119_o7 : List AJ := [.o ⟨(some 30), none, false, .mv (.t 5), none⟩, .o ⟨(some 4), none, false, .mv (.t 30), (some [4])⟩]
def k119_18 : ACode := .seq (.region k119_o7) .ret
def k119_19 : ACode := .seq k119_16 k119_18
def k119_20 : ACode := .seq (.region k119_o1) k119_19
def k119_21 : ACode := .seq (.region k119_o0) k119_20
@[simp, simp ↓] theorem k119_4r : rC k119_4 (.t 14) .skip (.exit 0) := zC rfl
@[simp, simp ↓] theorem k119_5r : sR k119_5 k119_o3 k119_4 := yR rfl
@[simp, simp ↓] theorem k119_7r : rR k119_7 k119_o5 := zR rfl
@[simp, simp ↓] theorem k119_8r : rC k119_8 (.t 25) k119_7 .skip := zC rfl
@[simp, simp ↓] theorem k119_9r : sR k119_9 k119_o4 k119_8 := yR rfl
@[simp, simp ↓] theorem k119_11r : rR k119_11 k119_o6 := zR rfl
@[simp, simp ↓] theorem k119_12r : sB k119_12 1 k119_9 k119_11 := yB rfl
@[simp, simp ↓] theorem k119_13r : rS k119_13 k119_5 k119_12 := zS rfl
@[simp, simp ↓] theorem k119_14r : rL k119_14 k119_13 := zL rfl
@[simp, simp ↓] theorem k119_15r : rB k119_15 0 k119_14 := zB rfl
@[simp, simp ↓] theorem k119_16r : sR k119_16 k119_o2 k119_15 := yR rfl
@[simp, simp ↓] theorem k119_18r : sR k119_18 k119_o7 .ret := yR rfl
@[simp, simp ↓] theorem k119_19r : rS k119_19 k119_16 k119_18 := zS rfl
@[simp, simp ↓] theorem k119_20r : sR k119_20 k119_o1 k119_19 := yR rfl
@[simp, simp ↓] theorem k119_21r : sR k119_21 k119_o0 k119_20 := yR rfl
noncomputable abbrev k119_C : Orc → Cx := mkC Tryd.prog [7] 119 31 [.tmp 4]
theorem k119_of : OfP Tryd.prog Tryd.f119 119 31 k119_C k119_21 := @ofP _ _ _ _ _ _ _ _ Tryd.func119 (by decide +kernel) rfl (by kernel_rfl) rfl (by kernel_rfl)
theorem l05Star_s (rs : List (List Int)) (e : List AV) (s : List Int) (h : Heap) (hl : ssTot rs ≤ 1048576) (hs0 : s.length ≤ 1048576) : ACalls Tryd.prog 119 [.ip (.snap 1 (rs.map il) :: e), .snap 1 (s.map iv)] h (fun v h' => v = .snap 1 ((starN rs s rs.length).map nv) ∧ h' = h) := by
  have hf := fit_of_tot hl
  have hn := hf.1
  refine k119_of rfl orcR4_p fun I => ?_
  refine Run2.of I 1000 ?_
  simp -implicitDefEqProofs
  refine Run2.loopE (α := Nat × AV × Heap) (fun p => [(0, .ip (.snap 1 (rs.map il) :: e)), (1, .snap 1 (s.map iv)), (5, p.2.1), (6, .int .i64 (p.1 : Nat))]) (fun p => p.2.2 ++ h) (fun p => rs.length - p.1) (fun p => p.1 ≤ rs.length ∧ Grow 1 p.2.1 ((starN rs s p.1).map nv) p.2.2) (0, .emp, []) (by simp) rfl ⟨Nat.zero_le _, by simpa [starN] using Grow.emp⟩ ?_
  rintro ⟨i, w, hp⟩ ⟨hi, hg⟩ ih
  simp only at hi hg
  have hcell := hg.cell
  by_cases hlt : i < rs.length
  · have hr := hf.2 _ (List.getElem_mem hlt)
    have hsl := starN_len rs s i
    by_cases hs : subL s rs[i] = true
    · have go := fun w' hp' (g : Grow 1 w' ((starN rs s i).map nv ++ [.int .i64 i]) hp') => ih (i + 1, w', hp') ⟨hlt, by
        simp only
        rw [starN_pos hlt hs, List.map_append]
        exact g⟩ (by simp; omega)
      clear ih
      refine Run2.of I 1000 ?_
      simp -implicitDefEqProofs [hlt, hr, hs0, hcell, hs]
      refine hg.app (by simp; omega) (by simp) fun w' hp' hg' => ?_
      have hcell' := hg'.cell
      have := go w' hp' hg'
      simp -implicitDefEqProofs [hcell']
      refine ⟨by omega, ?_⟩
      simpa using this
    · have go := ih (i + 1, w, hp) ⟨hlt, by simp only; rw [starN_neg hlt hs]; exact hg⟩ (by simp; omega)
      have hs' : subL s rs[i] = false := by simpa using hs
      clear ih
      refine Run2.of I 1000 ?_
      simp -implicitDefEqProofs [hlt, hr, hs0, hcell, hs']
      refine ⟨by omega, ?_⟩
      simpa using go
  · obtain rfl : i = rs.length := by omega
    refine Run2.of I 1000 ?_
    simp -implicitDefEqProofs [hlt, hcell]
    exact hg.froze (fun x => x) (fun _ _ _ => rfl) (fun _ _ h => h) (.base ⟨rfl, rfl⟩)
end Go.AG
