/- Stars, and a filtration with one time raised. No statement is made here. -/
import Derived.Test.YtebkdegjiollbaaFxHz
namespace Go.AG
open Go.Proofs Go.Proofs.Ytebkdegjiollbaa
set_option linter.unusedSimpArgs false
set_option linter.unusedVariables false
set_option maxRecDepth 4000
abbrev k165_o0 : List AJ := [.o ⟨(some 4), none, false, .mv (.c (.int .i64 0)), (some [0, 1])⟩]
abbrev k165_o1 : List AJ := [.o ⟨(some 6), none, false, .mv (.t 0), none⟩, .o ⟨(some 7), none, false, .len (.t 6), none⟩, .o ⟨(some 8), none, false, .mv (.c (.int .i64 0)), (some [0, 1, 7, 8])⟩]
abbrev k165_o2 : List AJ := [.o ⟨(some 9), none, false, .bin .lss (.t 8) (.t 7), (some [0, 1, 7, 8, 9])⟩]
abbrev k165_o3 : List AJ := [.o ⟨(some 10), none, false, .mv (.t 8), none⟩, .o ⟨(some 5), none, false, .mv (.t 10), (some [0, 1, 5, 7, 8])⟩]
abbrev k165_o4 : List AJ := [.o ⟨(some 11), none, false, .mv (.t 1), none⟩, .o ⟨(some 12), none, false, .mv (.t 0), none⟩, .o ⟨(some 13), none, false, .mv (.t 5), none⟩, .o ⟨(some 14), none, false, .idxA 1 (.t 12) (.t 13), none⟩, .o ⟨(some 15), none, false, .load 1 false (.t 14), none⟩, .o ⟨(some 16), none, false, .bin .eql (.t 11) (.t 15), (some [0, 1, 5, 7, 8, 16])⟩]
abbrev k165_o5 : List AJ := [.o ⟨(some 17), none, false, .mv (.t 5), none⟩, .o ⟨(some 4), none, false, .mv (.t 17), (some [4])⟩]
def k165_7 : ACode := .seq (.region k165_o5) .ret
def k165_8 : ACode := .cond (.t 16) k165_7 .skip
def k165_9 : ACode := .seq (.region k165_o4) k165_8
def k165_10 : ACode := .seq (.region k165_o3) k165_9
abbrev k165_o6 : List AJ := [.o ⟨(some 18), none, true, .bin .add (.t 8) (.c (.int .i64 1)), none⟩, .o ⟨(some 8), none, false, .mv (.t 18), (some [0, 1, 7, 8])⟩]
def k165_12 : ACode := .region k165_o6
def k165_13 : ACode := .seq (.block 1 k165_10) k165_12
def k165_14 : ACode := .seq (.cond (.t 9) .skip (.exit 0)) k165_13
def k165_15 : ACode := .seq (.region k165_o2) k165_14
def k165_16 : ACode := .loop k165_15
def k165_17 : ACode := .block 0 k165_16
def k165_18 : ACode := .seq (.region k165_o1) k165_17
abbrev k165_o7 : List AJ := [.o ⟨(some 4), none, false, .mv (.c (.int .i64 (-1))), (some [4])⟩]
def k165_20 : ACode := .seq (.region k165_o7) .ret
def k165_21 : ACode := .seq k165_18 k165_20
def k165_22 : ACode := .seq (.region k165_o0) k165_21
@[simp, simp ↓] theorem k165_7r : sR k165_7 k165_o5 .ret := yR rfl
@[simp, simp ↓] theorem k165_8r : rC k165_8 (.t 16) k165_7 .skip := zC rfl
@[simp, simp ↓] theorem k165_9r : sR k165_9 k165_o4 k165_8 := yR rfl
@[simp, simp ↓] theorem k165_10r : sR k165_10 k165_o3 k165_9 := yR rfl
@[simp, simp ↓] theorem k165_12r : rR k165_12 k165_o6 := zR rfl
@[simp, simp ↓] theorem k165_13r : sB k165_13 1 k165_10 k165_12 := yB rfl
@[simp, simp ↓] theorem k165_14r : sC k165_14 (.t 9) .skip (.exit 0) k165_13 := yC rfl
@[simp, simp ↓] theorem k165_15r : sR k165_15 k165_o2 k165_14 := yR rfl
@[simp, simp ↓] theorem k165_16r : rL k165_16 k165_15 := zL rfl
@[simp, simp ↓] theorem k165_17r : rB k165_17 0 k165_16 := zB rfl
@[simp, simp ↓] theorem k165_18r : sR k165_18 k165_o1 k165_17 := yR rfl
@[simp, simp ↓] theorem k165_20r : sR k165_20 k165_o7 .ret := yR rfl
@[simp, simp ↓] theorem k165_21r : rS k165_21 k165_18 k165_20 := zS rfl
@[simp, simp ↓] theorem k165_22r : sR k165_22 k165_o0 k165_21 := yR rfl
noncomputable abbrev k165_C : Orc → Cx := mkC Try.prog [] 165 19 [.tmp 4]
theorem k165_of0 : OfP0 Try.prog Try.f165 165 19 k165_C k165_22 := @ofP0 _ _ _ _ _ _ _ _ Try.func165 (by decide +kernel) rfl (by kernel_rfl) rfl (by kernel_rfl)
theorem Index_s (l : List Int) (n : Int) (h : Heap) (hl : l.length ≤ 1048576) : ACalls Try.prog 165 [.snap 1 (l.map iv), .int .i64 n] h (fun v h' => v = .int .i64 (ixI l n) ∧ h' = h) := by
  unfold ixI
  refine k165_of0 rfl noPure fun I => ?_
  refine Run2.of I 1000 ?_
  simp -implicitDefEqProofs
  refine Run2.loopE (fun i => [(0, .snap 1 (l.map iv)), (1, .int .i64 n), (7, .int .i64 l.length), (8, .int .i64 (i : Nat))]) (fun i => h) (fun i => l.length - i) (fun i => i ≤ l.length ∧ ∀ j (hj : j < l.length), j < i → decide (n = l[j]) = false) 0 (by simp) rfl ⟨Nat.zero_le _, fun _ _ h => absurd h (Nat.not_lt_zero _)⟩ fun i hi ih => ?_
  by_cases hlt : i < l.length
  · have go := fun (h1 : ¬ n = l[i]) => ih (i + 1) ⟨by omega, fun j hj hji => by
      rcases Nat.lt_or_ge j i with h | h
      · exact hi.2 j hj h
      · obtain rfl : j = i := by omega
        simpa using h1⟩ (by omega)
    have hat := fun h1 : n = l[i] => idxf_at (q := fun a => decide (n = a)) hlt hi.2 (by simpa using h1)
    clear ih
    refine Run2.of I 1000 ?_
    simp -implicitDefEqProofs [hlt]
    refine ⟨fun h => (hat h).symm, fun h => ⟨by omega, ?_⟩⟩
    simpa using go h
  · obtain rfl : i = l.length := by omega
    have := idxf_none (q := fun a => decide (n = a)) (l := l) fun j hj => hi.2 j hj hj
    refine Run2.of I 1000 ?_
    simp -implicitDefEqProofs
    exact this.symm
theorem ixI_ge (l : List Int) (n : Int) : 0 ≤ ixI l n ↔ n ∈ l := by
  unfold ixI
  rw [idxf_ge]
  simp
noncomputable def o_indexI : List AV → Option (Prop × AV) := tab (fun (x : List Int × Int) => match x with | (l, n) => [.snap 1 (l.map iv), .int .i64 n]) (fun x => match x with | (l, n) => l.length ≤ 1048576) (fun x => match x with | (l, n) => .int .i64 (ixI l n))
@[simp] theorem o_indexI_e (l : List Int) (n : Int) : o_indexI [.snap 1 (l.map iv), .int .i64 n] = some (l.length ≤ 1048576, .int .i64 (ixI l n)) := tab_at (enc := fun (x : List Int × Int) => match x with | (l, n) => [.snap 1 (l.map iv), .int .i64 n]) (fun x y h => by
  obtain ⟨l1, n1⟩ := x; obtain ⟨l2, n2⟩ := y; simp at h; simp [h] <;> omega) _ _ (l, n)
theorem o_indexI_k : Knows Try.prog 165 o_indexI := tab_knows fun x hx h => by
  obtain ⟨l, n⟩ := x; exact Index_s l n h hx
noncomputable def orcR1 : List (Nat × (List AV → Option (Prop × AV))) := (165, o_indexI) :: []
theorem orcR1_p : Pure Try.prog (lk orcR1) := (lk_pure o_indexI_k lk_pure0)
@[simp] theorem orcR1_l (b : Bool) (g : FuncId) (l : List AV) : lk orcR1 b g l = if g = 165 then o_indexI l else none := nr rfl
abbrev k164_o0 : List AJ := [.o ⟨(some 4), none, false, .mv (.c (.bool false)), (some [0, 1])⟩]
abbrev k164_o1 : List AJ := [.o ⟨(some 5), none, false, .mv (.t 0), none⟩, .o ⟨(some 6), none, false, .mv (.t 1), none⟩, .o ⟨(some 7), none, false, .call 165 [(.t 5), (.t 6)], none⟩, .o ⟨(some 8), none, false, .bin .geq (.t 7) (.c (.int .i64 0)), none⟩, .o ⟨(some 4), none, false, .mv (.t 8), (some [4])⟩]
def k164_2 : ACode := .seq (.region k164_o1) .ret
def k164_3 : ACode := .seq (.region k164_o0) k164_2
@[simp, simp ↓] theorem k164_2r : sR k164_2 k164_o1 .ret := yR rfl
@[simp, simp ↓] theorem k164_3r : sR k164_3 k164_o0 k164_2 := yR rfl
noncomputable abbrev k164_C : Orc → Cx := mkC Try.prog [] 164 9 [.tmp 4]
theorem k164_of0 : OfP0 Try.prog Try.f164 164 9 k164_C k164_3 := @ofP0 _ _ _ _ _ _ _ _ Try.func164 (by decide +kernel) rfl (by kernel_rfl) rfl (by kernel_rfl)
theorem Contains_s (l : List Int) (n : Int) (h : Heap) (hl : l.length ≤ 1048576) : ACalls Try.prog 164 [.snap 1 (l.map iv), .int .i64 n] h (fun v h' => v = .bool (decide (n ∈ l)) ∧ h' = h) := by
  refine k164_of0 rfl orcR1_p fun I => ?_
  refine Run2.of I 1000 ?_
  simp -implicitDefEqProofs [hl, ixI_ge]
abbrev k163_o0 : List AJ := [.o ⟨(some 3), none, false, .mv (.c (.bool false)), (some [0, 1])⟩]
abbrev k163_o1 : List AJ := [.o ⟨(some 4), none, false, .load 1 false (.t 1), none⟩, .o ⟨(some 5), none, false, .mv (.t 0), none⟩, .o ⟨(some 6), none, false, .call 164 [(.t 4), (.t 5)], none⟩, .o ⟨(some 7), none, false, .un .not (.t 6), none⟩, .o ⟨(some 3), none, false, .mv (.t 7), (some [3])⟩]
def k163_2 : ACode := .seq (.region k163_o1) .ret
def k163_3 : ACode := .seq (.region k163_o0) k163_2
@[simp, simp ↓] theorem k163_2r : sR k163_2 k163_o1 .ret := yR rfl
@[simp, simp ↓] theorem k163_3r : sR k163_3 k163_o0 k163_2 := yR rfl
noncomputable abbrev k163_C : Orc → Cx := mkC Try.prog [] 163 8 [.tmp 3]
theorem k163_of0 : OfP0 Try.prog Try.f163 163 8 k163_C k163_3 := @ofP0 _ _ _ _ _ _ _ _ Try.func163 (by decide +kernel) rfl (by kernel_rfl) rfl (by kernel_rfl)
theorem isFace1_c (s : List Int) (a : Int) (h : Heap) (hl : s.length ≤ 1048576) : ACalls Try.prog 163 [.int .i64 a, .ip [.snap 1 (s.map iv)]] h (fun v h' => v = .bool (!decide (a ∈ s)) ∧ h' = h) := by
  refine k163_of0 rfl noPure fun I => ?_
  refine Run2.of I 1000 ?_
  simp -implicitDefEqProofs
  refine (Contains_s s a h hl).mono ?_
  rintro v h' ⟨rfl, rfl⟩
  refine gK.go ?_
  simp -implicitDefEqProofs
/-- All numbers of f are numbers of s. -/
def subL (f s : List Int) : Bool := f.all fun a => decide (a ∈ s)
abbrev k144_o0 : List AJ := [.o ⟨(some 3), none, false, .box false 1 (.t 1), none⟩, .o ⟨(some 4), none, false, .mv (.c (.bool false)), (some [0, 3])⟩]
abbrev k144_o1 : List AJ := [.o ⟨(some 5), none, false, .mv (.t 0), none⟩, .o ⟨(some 6), none, false, .mkfn 163 [(.t 3)], none⟩, .o ⟨(some 7), none, false, .call 130 [(.t 5), (.t 6)], none⟩, .o ⟨(some 8), none, false, .un .not (.t 7), none⟩, .o ⟨(some 4), none, false, .mv (.t 8), (some [4])⟩]
def k144_2 : ACode := .seq (.region k144_o1) .ret
def k144_3 : ACode := .seq (.region k144_o0) k144_2
@[simp, simp ↓] theorem k144_2r : sR k144_2 k144_o1 .ret := yR rfl
@[simp, simp ↓] theorem k144_3r : sR k144_3 k144_o0 k144_2 := yR rfl
noncomputable abbrev k144_C : Orc → Cx := mkC Try.prog [] 144 9 [.tmp 4]
theorem k144_of0 : OfP0 Try.prog Try.f144 144 9 k144_C k144_3 := @ofP0 _ _ _ _ _ _ _ _ Try.func144 (by decide +kernel) rfl (by kernel_rfl) rfl (by kernel_rfl)
theorem isFace_s (f s : List Int) (h : Heap) (hf : f.length ≤ 1048576) (hl : s.length ≤ 1048576) : ACalls Try.prog 144 [.snap 1 (f.map iv), .snap 1 (s.map iv)] h (fun v h' => v = .bool (subL f s) ∧ h' = h) := by
  refine k144_of0 rfl noPure fun I => ?_
  refine Run2.of I 1000 ?_
  simp -implicitDefEqProofs
  refine (ContainsFunc_s f 163 [.ip [.snap 1 (s.map iv)]] (fun a => !decide (a ∈ s)) h hf fun a ha => isFace1_c s a h hl).mono ?_
  rintro v h' ⟨rfl, rfl⟩
  refine gK.go ?_
  simp -implicitDefEqProofs
  rw [subL]
  exact (List.not_all_eq_any_not ..).symm
noncomputable def o_isFace : List AV → Option (Prop × AV) := tab (fun (x : List Int × List Int) => match x with | (f, s) => [.snap 1 (f.map iv), .snap 1 (s.map iv)]) (fun x => match x with | (f, s) => (f.length ≤ 1048576 ∧ s.length ≤ 1048576)) (fun x => match x with | (f, s) => .bool (subL f s))
@[simp] theorem o_isFace_e (f : List Int) (s : List Int) : o_isFace [.snap 1 (f.map iv), .snap 1 (s.map iv)] = some ((f.length ≤ 1048576 ∧ s.length ≤ 1048576), .bool (subL f s)) := tab_at (enc := fun (x : List Int × List Int) => match x with | (f, s) => [.snap 1 (f.map iv), .snap 1 (s.map iv)]) (fun x y h => by
  obtain ⟨f1, s1⟩ := x; obtain ⟨f2, s2⟩ := y; simp at h; simp [h] <;> omega) _ _ (f, s)
theorem o_isFace_k : Knows Try.prog 144 o_isFace := tab_knows fun x hx h => by
  obtain ⟨f, s⟩ := x; exact isFace_s f s h hx.1 hx.2
noncomputable def orcR2 : List (Nat × (List AV → Option (Prop × AV))) := (144, o_isFace) :: []
theorem orcR2_p : Pure Try.prog (lk orcR2) := (lk_pure o_isFace_k lk_pure0)
@[simp] theorem orcR2_l (b : Bool) (g : FuncId) (l : List AV) : lk orcR2 b g l = if g = 144 then o_isFace l else none := nr rfl
/-- The places of those around a simplex, of the first i. -/
def starN (rs : List (List Int)) (s : List Int) (i : Nat) : List Nat := (List.range i).filter fun j => subL s (rs.getD j [])
theorem starN_pos {rs : List (List Int)} {s : List Int} {i : Nat} (hi : i < rs.length) (h : subL s rs[i] = true) : starN rs s (i + 1) = starN rs s i ++ [i] := by
  unfold starN
  rw [List.range_succ, List.filter_append]
  simp [hi, h]
theorem starN_neg {rs : List (List Int)} {s : List Int} {i : Nat} (hi : i < rs.length) (h : ¬ subL s rs[i] = true) : starN rs s (i + 1) = starN rs s i := by
  unfold starN
  rw [List.range_succ, List.filter_append]
  simp [hi, h]
theorem starN_len (rs : List (List Int)) (s : List Int) (i : Nat) : (starN rs s i).length ≤ i := by
  unfold starN
  exact Nat.le_trans (List.length_filter_le ..) (by simp)
theorem starN_lt {rs : List (List Int)} {s : List Int} {i j : Nat} (h : j ∈ starN rs s i) : j < i := by
  unfold starN at h
  exact List.mem_range.1 (List.mem_filter.1 h).1
def nv (n : Nat) : AV := .int .i64 n

noncomputable def orcR3 : List (Nat × (List AV → Option (Prop × AV))) := []
theorem orcR3_p : Pure Try.prog (lk orcR3) := lk_pure0
@[simp] theorem orcR3_l (b : Bool) (g : FuncId) (l : List AV) : lk orcR3 b g l = none := nr rfl

noncomputable def orcR4 : List (Nat × (List AV → Option (Prop × AV))) := []
theorem orcR4_p : Pure Try.prog (lk orcR4) := lk_pure0
@[simp] theorem orcR4_l (b : Bool) (g : FuncId) (l : List AV) : lk orcR4 b g l = none := nr rfl
end Go.AG
