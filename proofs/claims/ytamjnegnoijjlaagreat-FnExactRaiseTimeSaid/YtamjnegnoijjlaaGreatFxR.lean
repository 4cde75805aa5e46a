/- Stars, and a filtration with one time raised. No statement is made here. -/
import Derived.Test.YtamjnegnoijjlaaGreatFxK
namespace Go.AG
open Go.Proofs Go.Proofs.YtamjnegnoijjlaaGreat
set_option linter.unusedSimpArgs false
set_option linter.unusedVariables false
set_option maxRecDepth 4000
abbrev k115_o0 : List AJ := [.o ⟨(some 4), none, false, .mv (.c (.int .i64 0)), (some [0, 1])⟩]
abbrev k115_o1 : List AJ := [.o ⟨(some 6), none, false, .mv (.t 0), none⟩, .o ⟨(some 7), none, false, .len (.t 6), none⟩, .o ⟨(some 8), none, false, .mv (.c (.int .i64 0)), (some [0, 1, 7, 8])⟩]
abbrev k115_o2 : List AJ := [.o ⟨(some 9), none, false, .bin .lss (.t 8) (.t 7), (some [0, 1, 7, 8, 9])⟩]
abbrev k115_o3 : List AJ := [.o ⟨(some 10), none, false, .mv (.t 8), none⟩, .o ⟨(some 5), none, false, .mv (.t 10), (some [0, 1, 5, 7, 8])⟩]
abbrev k115_o4 : List AJ := [.o ⟨(some 11), none, false, .mv (.t 1), none⟩, .o ⟨(some 12), none, false, .mv (.t 0), none⟩, .o ⟨(some 13), none, false, .mv (.t 5), none⟩, .o ⟨(some 14), none, false, .idxA 1 (.t 12) (.t 13), none⟩, .o ⟨(some 15), none, false, .load 1 false (.t 14), none⟩, .o ⟨(some 16), none, false, .bin .eql (.t 11) (.t 15), (some [0, 1, 5, 7, 8, 16])⟩]
abbrev k115_o5 : List AJ := [.o ⟨(some 17), none, false, .mv (.t 5), none⟩, .o ⟨(some 4), none, false, .mv (.t 17), (some [4])⟩]
def k115_7 : ACode := .seq (.region k115_o5) .ret
def k115_8 : ACode := .cond (.t 16) k115_7 .skip
def k115_9 : ACode := .seq (.region k115_o4) k115_8
def k115_10 : ACode := .seq (.region k115_o3) k115_9
abbrev k115_o6 : List AJ := [.o ⟨(some 18), none, true, .bin .add (.t 8) (.c (.int .i64 1)), none⟩, .o ⟨(some 8), none, false, .mv (.t 18), (some [0, 1, 7, 8])⟩]
def k115_12 : ACode := .region k115_o6
def k115_13 : ACode := .seq (.block 1 k115_10) k115_12
def k115_14 : ACode := .seq (.cond (.t 9) .skip (.exit 0)) k115_13
def k115_15 : ACode := .seq (.region k115_o2) k115_14
def k115_16 : ACode := .loop k115_15
def k115_17 : ACode := .block 0 k115_16
def k115_18 : ACode := .seq (.region k115_o1) k115_17
abbrev k115_o7 : List AJ := [.o ⟨(some 4), none, false, .mv (.c (.int .i64 (-1))), (some [4])⟩]
def k115_20 : ACode := .seq (.region k115_o7) .ret
def k115_21 : ACode := .seq k115_18 k115_20
def k115_22 : ACode := .seq (.region k115_o0) k115_21
@[simp, simp ↓] theorem k115_7r : sR k115_7 k115_o5 .ret := yR rfl
@[simp, simp ↓] theorem k115_8r : rC k115_8 (.t 16) k115_7 .skip := zC rfl
@[simp, simp ↓] theorem k115_9r : sR k115_9 k115_o4 k115_8 := yR rfl
@[simp, simp ↓] theorem k115_10r : sR k115_10 k115_o3 k115_9 := yR rfl
@[simp, simp ↓] theorem k115_12r : rR k115_12 k115_o6 := zR rfl
@[simp, simp ↓] theorem k115_13r : sB k115_13 1 k115_10 k115_12 := yB rfl
@[simp, simp ↓] theorem k115_14r : sC k115_14 (.t 9) .skip (.exit 0) k115_13 := yC rfl
@[simp, simp ↓] theorem k115_15r : sR k115_15 k115_o2 k115_14 := yR rfl
@[simp, simp ↓] theorem k115_16r : rL k115_16 k115_15 := zL rfl
@[simp, simp ↓] theorem k115_17r : rB k115_17 0 k115_16 := zB rfl
@[simp, simp ↓] theorem k115_18r : sR k115_18 k115_o1 k115_17 := yR rfl
@[simp, simp ↓] theorem k115_20r : sR k115_20 k115_o7 .ret := yR rfl
@[simp, simp ↓] theorem k115_21r : rS k115_21 k115_18 k115_20 := zS rfl
@[simp, simp ↓] theorem k115_22r : sR k115_22 k115_o0 k115_21 := yR rfl
noncomputable abbrev k115_C : Orc → Cx := mkC Tryz.prog [] 115 19 [.tmp 4]
theorem k115_of0 : OfP0 Tryz.prog Tryz.f115 115 19 k115_C k115_22 := @ofP0 _ _ _ _ _ _ _ _ Tryz.func115 (by decide +kernel) rfl (by kernel_rfl) rfl (by kernel_rfl)
/-- The first place of a number, or -1. -/
def ixI (l : List Int) (n : Int) : Int := idxf (fun a => decide (n = a)) l
theorem Index_s (l : List Int) (n : Int) (h : Heap) (hl : l.length ≤ 1048576) : ACalls Tryz.prog 115 [.snap 1 (l.map iv), .int .i64 n] h (fun v h' => v = .int .i64 (ixI l n) ∧ h' = h) := by
  unfold ixI
  refine k115_of0 rfl noPure fun I => ?_
  refine Run2.of I 1000 ?_
  simp -implicitDefEqProofs
  refine Run2.loopE (fun i => [(0, .snap 1 (l.map iv)), (1, .int .i64 n), (7, .int .i64 l.length), (8, .int .i64 (i : Nat))]) (fun i => h) (fun i => l.length - i) (fun i => i ≤ l.length ∧ ∀ j (hj : j < l.length), j < i → decide (n = l[j]) = false) 0 (by simp) rfl ⟨Nat.zero_le _, fun _ _ h => absurd h (Nat.not_lt_zero _)⟩ fun i hi ih => ?_
  by_cases hlt : i < l.length
  · have go := fun (h1 : ¬ n = l[i]) => ih (i + 1) ⟨by omega, fun j hj hji => by
      rcases Nat.lt_or_ge j i with h | h
      · exact hi.2 j hj h
      · obtain rfl : j = i := by omega
        simpa using h1⟩ (by omega)
    have hat := fun h1 : n = l[i] => idxf_at (q := fun a => decide (n = a)) hlt hi.2 (by simpa using h1)
    clear ih
    refine Run2.of I 1000 ?_
    simp -implicitDefEqProofs [hlt]
    refine ⟨fun h => (hat h).symm, fun h => ⟨by omega, ?_⟩⟩
    simpa using go h
  · obtain rfl : i = l.length := by omega
    have := idxf_none (q := fun a => decide (n = a)) (l := l) fun j hj => hi.2 j hj hj
    refine Run2.of I 1000 ?_
    simp -implicitDefEqProofs
    exact this.symm
theorem ixI_ge (l : List Int) (n : Int) : 0 ≤ ixI l n ↔ n ∈ l := by
  unfold ixI
  rw [idxf_ge]
  simp
noncomputable def o_indexI : List AV → Option (Prop × AV) := tab (fun (x : List Int × Int) => match x with | (l, n) => [.snap 1 (l.map iv), .int .i64 n]) (fun x => match x with | (l, n) => l.length ≤ 1048576) (fun x => match x with | (l, n) => .int .i64 (ixI l n))
@[simp] theorem o_indexI_e (l : List Int) (n : Int) : o_indexI [.snap 1 (l.map iv), .int .i64 n] = some (l.length ≤ 1048576, .int .i64 (ixI l n)) := tab_at (enc := fun (x : List Int × Int) => match x with | (l, n) => [.snap 1 (l.map iv), .int .i64 n]) (fun x y h => by
  obtain ⟨l1, n1⟩ := x; obtain ⟨l2, n2⟩ := y; simp at h; simp [h] <;> omega) _ _ (l, n)
theorem o_indexI_k : Knows Tryz.prog 115 o_indexI := tab_knows fun x hx h => by
  obtain ⟨l, n⟩ := x; exact Index_s l n h hx
noncomputable def orcR1 : List (Nat × (List AV → Option (Prop × AV))) := (115, o_indexI) :: []
theorem orcR1_p : Pure Tryz.prog (lk orcR1) := (lk_pure o_indexI_k lk_pure0)
@[simp] theorem orcR1_l (b : Bool) (g : FuncId) (l : List AV) : lk orcR1 b g l = if g = 115 then o_indexI l else none := nr rfl
abbrev k99_o0 : List AJ := [.o ⟨(some 4), none, false, .mv (.c (.bool false)), (some [0, 1])⟩]
abbrev k99_o1 : List AJ := [.o ⟨(some 5), none, false, .mv (.t 0), none⟩, .o ⟨(some 6), none, false, .mv (.t 1), none⟩, .o ⟨(some 7), none, false, .call 115 [(.t 5), (.t 6)], none⟩, .o ⟨(some 8), none, false, .bin .geq (.t 7) (.c (.int .i64 0)), none⟩, .o ⟨(some 4), none, false, .mv (.t 8), (some [4])⟩]
def k99_2 : ACode := .seq (.region k99_o1) .ret
def k99_3 : ACode := .seq (.region k99_o0) k99_2
@[simp, simp ↓] theorem k99_2r : sR k99_2 k99_o1 .ret := yR rfl
@[simp, simp ↓] theorem k99_3r : sR k99_3 k99_o0 k99_2 := yR rfl
noncomputable abbrev k99_C : Orc → Cx := mkC Tryz.prog [] 99 9 [.tmp 4]
theorem k99_of0 : OfP0 Tryz.prog Tryz.f99 99 9 k99_C k99_3 := @ofP0 _ _ _ _ _ _ _ _ Tryz.func99 (by decide +kernel) rfl (by kernel_rfl) rfl (by kernel_rfl)
theorem Contains_s (l : List Int) (n : Int) (h : Heap) (hl : l.length ≤ 1048576) : ACalls Tryz.prog 99 [.snap 1 (l.map iv), .int .i64 n] h (fun v h' => v = .bool (decide (n ∈ l)) ∧ h' = h) := by
  refine k99_of0 rfl orcR1_p fun I => ?_
  refine Run2.of I 1000 ?_
  simp -implicitDefEqProofs [hl, ixI_ge]
abbrev k98_o0 : List AJ := [.o ⟨(some 3), none, false, .mv (.c (.bool false)), (some [0, 1])⟩]
abbrev k98_o1 : List AJ := [.o ⟨(some 4), none, false, .load 1 false (.t 1), none⟩, .o ⟨(some 5), none, false, .mv (.t 0), none⟩, .o ⟨(some 6), none, false, .call 99 [(.t 4), (.t 5)], none⟩, .o ⟨(some 7), none, false, .un .not (.t 6), none⟩, .o ⟨(some 3), none, false, .mv (.t 7), (some [3])⟩]
def k98_2 : ACode := .seq (.region k98_o1) .ret
def k98_3 : ACode := .seq (.region k98_o0) k98_2
@[simp, simp ↓] theorem k98_2r : sR k98_2 k98_o1 .ret := yR rfl
@[simp, simp ↓] theorem k98_3r : sR k98_3 k98_o0 k98_2 := yR rfl
noncomputable abbrev k98_C : Orc → Cx := mkC Tryz.prog [] 98 8 [.tmp 3]
theorem k98_of0 : OfP0 Tryz.prog Tryz.f98 98 8 k98_C k98_3 := @ofP0 _ _ _ _ _ _ _ _ Tryz.func98 (by decide +kernel) rfl (by kernel_rfl) rfl (by kernel_rfl)
theorem isFace1_c (s : List Int) (a : Int) (h : Heap) (hl : s.length ≤ 1048576) : ACalls Tryz.prog 98 [.int .i64 a, .ip [.snap 1 (s.map iv)]] h (fun v h' => v = .bool (!decide (a ∈ s)) ∧ h' = h) := by
  refine k98_of0 rfl noPure fun I => ?_
  refine Run2.of I 1000 ?_
  simp -implicitDefEqProofs
  refine (Contains_s s a h hl).mono ?_
  rintro v h' ⟨rfl, rfl⟩
  refine gK.go ?_
  simp -implicitDefEqProofs
/-- All numbers of f are numbers of s. -/
def subL (f s : List Int) : Bool := f.all fun a => decide (a ∈ s)
abbrev k69_o0 : List AJ := [.o ⟨(some 3), none, false, .box false 1 (.t 1), none⟩, .o ⟨(some 4), none, false, .mv (.c (.bool false)), (some [0, 3])⟩]
abbrev k69_o1 : List AJ := [.o ⟨(some 5), none, false, .mv (.t 0), none⟩, .o ⟨(some 6), none, false, .mkfn 98 [(.t 3)], none⟩, .o ⟨(some 7), none, false, .call 62 [(.t 5), (.t 6)], none⟩, .o ⟨(some 8), none, false, .un .not (.t 7), none⟩, .o ⟨(some 4), none, false, .mv (.t 8), (some [4])⟩]
def k69_2 : ACode := .seq (.region k69_o1) .ret
def k69_3 : ACode := .seq (.region k69_o0) k69_2
@[simp, simp ↓] theorem k69_2r : sR k69_2 k69_o1 .ret := yR rfl
@[simp, simp ↓] theorem k69_3r : sR k69_3 k69_o0 k69_2 := yR rfl
noncomputable abbrev k69_C : Orc → Cx := mkC Tryz.prog [] 69 9 [.tmp 4]
theorem k69_of0 : OfP0 Tryz.prog Tryz.f69 69 9 k69_C k69_3 := @ofP0 _ _ _ _ _ _ _ _ Tryz.func69 (by decide +kernel) rfl (by kernel_rfl) rfl (by kernel_rfl)
theorem isFace_s (f s : List Int) (h : Heap) (hf : f.length ≤ 1048576) (hl : s.length ≤ 1048576) : ACalls Tryz.prog 69 [.snap 1 (f.map iv), .snap 1 (s.map iv)] h (fun v h' => v = .bool (subL f s) ∧ h' = h) := by
  refine k69_of0 rfl noPure fun I => ?_
  refine Run2.of I 1000 ?_
  simp -implicitDefEqProofs
  refine (ContainsFunc_s f 98 [.ip [.snap 1 (s.map iv)]] (fun a => !decide (a ∈ s)) h hf fun a ha => isFace1_c s a h hl).mono ?_
  rintro v h' ⟨rfl, rfl⟩
  refine gK.go ?_
  simp -implicitDefEqProofs
  rw [subL]
  exact (List.not_all_eq_any_not ..).symm
noncomputable def o_isFace : List AV → Option (Prop × AV) := tab (fun (x : List Int × List Int) => match x with | (f, s) => [.snap 1 (f.map iv), .snap 1 (s.map iv)]) (fun x => match x with | (f, s) => (f.length ≤ 1048576 ∧ s.length ≤ 1048576)) (fun x => match x with | (f, s) => .bool (subL f s))
@[simp] theorem o_isFace_e (f : List Int) (s : List Int) : o_isFace [.snap 1 (f.map iv), .snap 1 (s.map iv)] = some ((f.length ≤ 1048576 ∧ s.length ≤ 1048576), .bool (subL f s)) := tab_at (enc := fun (x : List Int × List Int) => match x with | (f, s) => [.snap 1 (f.map iv), .snap 1 (s.map iv)]) (fun x y h => by
  obtain ⟨f1, s1⟩ := x; obtain ⟨f2, s2⟩ := y; simp at h; simp [h] <;> omega) _ _ (f, s)
theorem o_isFace_k : Knows Tryz.prog 69 o_isFace := tab_knows fun x hx h => by
  obtain ⟨f, s⟩ := x; exact isFace_s f s h hx.1 hx.2
noncomputable def orcR2 : List (Nat × (List AV → Option (Prop × AV))) := (69, o_isFace) :: []
theorem orcR2_p : Pure Tryz.prog (lk orcR2) := (lk_pure o_isFace_k lk_pure0)
@[simp] theorem orcR2_l (b : Bool) (g : FuncId) (l : List AV) : lk orcR2 b g l = if g = 69 then o_isFace l else none := nr rfl
/-- The places of those around a simplex, of the first i. -/
def starN (rs : List (List Int)) (s : List Int) (i : Nat) : List Nat := (List.range i).filter fun j => subL s (rs.getD j [])
theorem starN_pos {rs : List (List Int)} {s : List Int} {i : Nat} (hi : i < rs.length) (h : subL s rs[i] = true) : starN rs s (i + 1) = starN rs s i ++ [i] := by
  unfold starN
  rw [List.range_succ, List.filter_append]
  simp [hi, h]
theorem starN_neg {rs : List (List Int)} {s : List Int} {i : Nat} (hi : i < rs.length) (h : ¬ subL s rs[i] = true) : starN rs s (i + 1) = starN rs s i := by
  unfold starN
  rw [List.range_succ, List.filter_append]
  simp [hi, h]
theorem starN_len (rs : List (List Int)) (s : List Int) (i : Nat) : (starN rs s i).length ≤ i := by
  unfold starN
  exact Nat.le_trans (List.length_filter_le ..) (by simp)
theorem starN_lt {rs : List (List Int)} {s : List Int} {i j : Nat} (h : j ∈ starN rs s i) : j < i := by
  unfold starN at h
  exact List.mem_range.1 (List.mem_filter.1 h).1
def nv (n : Nat) : AV := .int .i64 n
abbrev k38_o0 : List AJ := [.o ⟨(some 2), none, false, .box false 1 (.t 0), none⟩, .o ⟨(some 4), none, false, .mv (.c .nilsl), (some [1, 2])⟩]
abbrev k38_o1 : List AJ := [.o ⟨(some 5), none, false, .mv (.c .nilsl), (some [1, 2, 5])⟩]
abbrev k38_o2 : List AJ := [.o ⟨(some 8), none, false, .fieldA 0 (.t 2), none⟩, .o ⟨(some 9), none, false, .load 1 false (.t 8), none⟩, .o ⟨(some 10), none, false, .len (.t 9), none⟩, .o ⟨(some 11), none, false, .mv (.c (.int .i64 0)), (some [1, 2, 5, 9, 10, 11])⟩]
abbrev k38_o3 : List AJ := [.o ⟨(some 12), none, false, .bin .lss (.t 11) (.t 10), (some [1, 2, 5, 9, 10, 11, 12])⟩]
abbrev k38_o4 : List AJ := [.o ⟨(some 13), none, false, .mv (.t 11), none⟩, .o ⟨(some 14), none, false, .idxA 1 (.t 9) (.t 11), none⟩, .o ⟨(some 15), none, false, .load 1 false (.t 14), none⟩, .o ⟨(some 6), none, false, .mv (.t 13), none⟩, .o ⟨(some 7), none, false, .mv (.t 15), (some [1, 2, 5, 6, 7, 9, 10, 11])⟩]
abbrev k38_o5 : List AJ := [.o ⟨(some 16), none, false, .fieldA 0 (.t 2), none⟩, .o ⟨(some 17), none, false, .load 1 false (.t 16), none⟩, .o ⟨(some 18), none, false, .mv (.t 1), none⟩, .o ⟨(some 19), none, false, .idxA 1 (.t 17) (.t 18), none⟩, .o ⟨(some 20), none, false, .load 1 false (.t 19), none⟩, .o ⟨(some 21), none, false, .mv (.t 7), none⟩, .o ⟨(some 22), none, false, .call 69 [(.t 20), (.t 21)], (some [1, 2, 5, 6, 9, 10, 11, 22])⟩]
abbrev k38_o6 : List AJ := [.o ⟨(some 23), none, false, .mv (.t 5), none⟩, .o ⟨(some 24), none, false, .mv (.t 6), none⟩, .o ⟨(some 25), none, false, .bsl false 1 [(.t 24)], none⟩, .o ⟨(some 26), none, false, .append 1 8 (.t 23) (.t 25), none⟩, .o ⟨(some 5), none, false, .mv (.t 26), (some [1, 2, 5, 9, 10, 11])⟩]
def k38_7 : ACode := .region k38_o6
def k38_8 : ACode := .cond (.t 22) k38_7 .skip
def k38_9 : ACode := .seq (.region k38_o5) k38_8
def k38_10 : ACode := .seq (.region k38_o4) k38_9
abbrev k38_o7 : List AJ := [.o ⟨(some 27), none, true, .bin .add (.t 11) (.c (.int .i64 1)), none⟩, .o ⟨(some 11), none, false, .mv (.t 27), (some [1, 2, 5, 9, 10, 11])⟩]
def k38_12 : ACode := .region k38_o7
def k38_13 : ACode := .seq (.block 1 k38_10) k38_12
def k38_14 : ACode := .seq (.cond (.t 12) .skip (.exit 0)) k38_13
def k38_15 : ACode := .seq (.region k38_o3) k38_14
def k38_16 : ACode := .loop k38_15
def k38_17 : ACode := .block 0 k38_16
def k38_18 : ACode := .seq (.region k38_o2) k38_17
abbrev k38_o8 : List AJ := [.o ⟨(some 28), none, false, .mv (.t 5), none⟩, .o ⟨(some 4), none, false, .mv (.t 28), (some [4])⟩]
def k38_20 : ACode := .seq (.region k38_o8) .ret
def k38_21 : ACode := .seq k38_18 k38_20
def k38_22 : ACode := .seq (.region k38_o1) k38_21
def k38_23 : ACode := .seq (.region k38_o0) k38_22
@[simp, simp ↓] theorem k38_7r : rR k38_7 k38_o6 := zR rfl
@[simp, simp ↓] theorem k38_8r : rC k38_8 (.t 22) k38_7 .skip := zC rfl
@[simp, simp ↓] theorem k38_9r : sR k38_9 k38_o5 k38_8 := yR rfl
@[simp, simp ↓] theorem k38_10r : sR k38_10 k38_o4 k38_9 := yR rfl
@[simp, simp ↓] theorem k38_12r : rR k38_12 k38_o7 := zR rfl
@[simp, simp ↓] theorem k38_13r : sB k38_13 1 k38_10 k38_12 := yB rfl
@[simp, simp ↓] theorem k38_14r : sC k38_14 (.t 12) .skip (.exit 0) k38_13 := yC rfl
@[simp, simp ↓] theorem k38_15r : sR k38_15 k38_o3 k38_14 := yR rfl
@[simp, simp ↓] theorem k38_16r : rL k38_16 k38_15 := zL rfl
@[simp, simp ↓] theorem k38_17r : rB k38_17 0 k38_16 := zB rfl
@[simp, simp ↓] theorem k38_18r : sR k38_18 k38_o2 k38_17 := yR rfl
@[simp, simp ↓] theorem k38_20r : sR k38_20 k38_o8 .ret := yR rfl
@[simp, simp ↓] theorem k38_21r : rS k38_21 k38_18 k38_20 := zS rfl
@[simp, simp ↓] theorem k38_22r : sR k38_22 k38_o1 k38_21 := yR rfl
@[simp, simp ↓] theorem k38_23r : sR k38_23 k38_o0 k38_22 := yR rfl
noncomputable abbrev k38_C : Orc → Cx := mkC Tryz.prog [] 38 29 [.tmp 4]
theorem k38_of : OfP Tryz.prog Tryz.f38 38 29 k38_C k38_23 := @ofP _ _ _ _ _ _ _ _ Tryz.func38 (by decide +kernel) rfl (by kernel_rfl) rfl (by kernel_rfl)
theorem starOf_s (rs : List (List Int)) (k : Nat) (h : Heap) (hl : ssTot rs ≤ 1048576) (hk : k < rs.length) : ACalls Tryz.prog 38 [.agg [.snap 1 (rs.map il)], .int .i64 k] h (fun v h' => v = .snap 1 ((starN rs rs[k] rs.length).map nv) ∧ h' = h) := by
  have hf := fit_of_tot hl
  have hn := hf.1
  have hrk := hf.2 _ (List.getElem_mem hk)
  refine k38_of rfl orcR2_p fun I => ?_
  refine Run2.of I 1000 ?_
  simp -implicitDefEqProofs
  refine Run2.loopE (α := Nat × AV × Heap) (fun p => [(1, .int .i64 k), (2, .ip [.snap 1 (rs.map il)]), (5, p.2.1), (9, .snap 1 (rs.map il)), (10, .int .i64 rs.length), (11, .int .i64 (p.1 : Nat))]) (fun p => p.2.2 ++ h) (fun p => rs.length - p.1) (fun p => p.1 ≤ rs.length ∧ Grow 1 p.2.1 ((starN rs rs[k] p.1).map nv) p.2.2) (0, .nilsl, []) (by simp) rfl ⟨Nat.zero_le _, by simpa [starN] using Grow.nil⟩ ?_
  rintro ⟨i, w, hp⟩ ⟨hi, hg⟩ ih
  simp only at hi hg
  have hcell := hg.cell
  by_cases hlt : i < rs.length
  · have hr := hf.2 _ (List.getElem_mem hlt)
    have hsl := starN_len rs rs[k] i
    by_cases hs : subL rs[k] rs[i] = true
    · have go := fun w' hp' (g : Grow 1 w' ((starN rs rs[k] i).map nv ++ [.int .i64 i]) hp') => ih (i + 1, w', hp') ⟨hlt, by
        simp only
        rw [starN_pos hlt hs, List.map_append]
        exact g⟩ (by simp; omega)
      clear ih
      refine Run2.of I 1000 ?_
      simp -implicitDefEqProofs [hlt, hk, hr, hrk, hcell, hs]
      refine hg.app (by simp; omega) (by simp) fun w' hp' hg' => ?_
      have hcell' := hg'.cell
      have := go w' hp' hg'
      simp -implicitDefEqProofs [hcell']
      refine ⟨by omega, ?_⟩
      simpa using this
    · have go := ih (i + 1, w, hp) ⟨hlt, by simp only; rw [starN_neg hlt hs]; exact hg⟩ (by simp; omega)
      have hs' : subL rs[k] rs[i] = false := by simpa using hs
      clear ih
      refine Run2.of I 1000 ?_
      simp -implicitDefEqProofs [hlt, hk, hr, hrk, hcell, hs']
      refine ⟨by omega, ?_⟩
      simpa using go
  · obtain rfl : i = rs.length := by omega
    refine Run2.of I 1000 ?_
    simp -implicitDefEqProofs [hlt, hcell]
    exact hg.froze (fun x => x) (fun _ _ _ => rfl) (fun _ _ h => h) (.base ⟨rfl, rfl⟩)
abbrev k83_o0 : List AJ := [.o ⟨(some 4), none, false, .mv (.c (.bool false)), (some [0, 1])⟩]
abbrev k83_o1 : List AJ := [.o ⟨(some 5), none, false, .mv (.c (.int .i64 0)), (some [0, 1, 5])⟩]
abbrev k83_o2 : List AJ := [.o ⟨(some 6), none, false, .mv (.t 5), none⟩, .o ⟨(some 7), none, false, .mv (.t 0), none⟩, .o ⟨(some 8), none, false, .len (.t 7), none⟩, .o ⟨(some 9), none, false, .bin .lss (.t 6) (.t 8), (some [0, 1, 5, 9])⟩]
def k83_3 : ACode := .cond (.t 9) .skip (.exit 0)
def k83_4 : ACode := .seq (.region k83_o2) k83_3
abbrev k83_o3 : List AJ := [.o ⟨(some 12), none, false, .mv (.t 0), none⟩, .o ⟨(some 13), none, false, .mv (.t 5), none⟩, .o ⟨(some 14), none, false, .idxA 1 (.t 12) (.t 13), none⟩, .o ⟨(some 15), none, false, .load 1 false (.t 14), none⟩, .o ⟨(some 16), none, false, .mv (.t 1), none⟩, .o ⟨(some 17), none, false, .bin .eql (.t 15) (.t 16), (some [0, 1, 5, 17])⟩]
abbrev k83_o4 : List AJ := [.o ⟨(some 4), none, false, .mv (.c (.bool true)), (some [4])⟩]
def k83_7 : ACode := .seq (.region k83_o4) .ret
def k83_8 : ACode := .cond (.t 17) k83_7 .skip
def k83_9 : ACode := .seq (.region k83_o3) k83_8
abbrev k83_o5 : List AJ := [.o ⟨(some 10), none, false, .mv (.t 5), none⟩, .o ⟨(some 11), none, true, .bin .add (.t 10) (.c (.int .i64 1)), none⟩, .o ⟨(some 5), none, false, .mv (.t 11), (some [0, 1, 5])⟩]
def k83_11 : ACode := .region k83_o5
def k83_12 : ACode := .seq (.block 1 k83_9) k83_11
def k83_13 : ACode := .seq k83_4 k83_12
def k83_14 : ACode := .loop k83_13
def k83_15 : ACode := .block 0 k83_14
def k83_16 : ACode := .seq (.region k83_o1) k83_15
abbrev k83_o6 : List AJ := [.o ⟨(some 4), none, false, .mv (.c (.bool false)), (some [4])⟩]
def k83_18 : ACode := .seq (.region k83_o6) .ret
def k83_19 : ACode := .seq k83_16 k83_18
def k83_20 : ACode := .seq (.region k83_o0) k83_19
@[simp, simp ↓] theorem k83_3r : rC k83_3 (.t 9) .skip (.exit 0) := zC rfl
@[simp, simp ↓] theorem k83_4r : sR k83_4 k83_o2 k83_3 := yR rfl
@[simp, simp ↓] theorem k83_7r : sR k83_7 k83_o4 .ret := yR rfl
@[simp, simp ↓] theorem k83_8r : rC k83_8 (.t 17) k83_7 .skip := zC rfl
@[simp, simp ↓] theorem k83_9r : sR k83_9 k83_o3 k83_8 := yR rfl
@[simp, simp ↓] theorem k83_11r : rR k83_11 k83_o5 := zR rfl
@[simp, simp ↓] theorem k83_12r : sB k83_12 1 k83_9 k83_11 := yB rfl
@[simp, simp ↓] theorem k83_13r : rS k83_13 k83_4 k83_12 := zS rfl
@[simp, simp ↓] theorem k83_14r : rL k83_14 k83_13 := zL rfl
@[simp, simp ↓] theorem k83_15r : rB k83_15 0 k83_14 := zB rfl
@[simp, simp ↓] theorem k83_16r : sR k83_16 k83_o1 k83_15 := yR rfl
@[simp, simp ↓] theorem k83_18r : sR k83_18 k83_o6 .ret := yR rfl
@[simp, simp ↓] theorem k83_19r : rS k83_19 k83_16 k83_18 := zS rfl
@[simp, simp ↓] theorem k83_20r : sR k83_20 k83_o0 k83_19 := yR rfl
noncomputable abbrev k83_C : Orc → Cx := mkC Tryz.prog [] 83 18 [.tmp 4]
theorem k83_of0 : OfP0 Tryz.prog Tryz.f83 83 18 k83_C k83_20 := @ofP0 _ _ _ _ _ _ _ _ Tryz.func83 (by decide +kernel) rfl (by kernel_rfl) rfl (by kernel_rfl)
theorem l00Has_s (l : List Int) (n : Int) (h : Heap) (hl : l.length ≤ 1048576) : ACalls Tryz.prog 83 [.snap 1 (l.map iv), .int .i64 n] h (fun v h' => v = .bool (decide (n ∈ l)) ∧ h' = h) := by
  refine k83_of0 rfl noPure fun I => ?_
  refine Run2.of I 1000 ?_
  simp -implicitDefEqProofs
  refine Run2.loopE (fun i => [(0, .snap 1 (l.map iv)), (1, .int .i64 n), (5, .int .i64 (i : Nat))]) (fun i => h) (fun i => l.length - i) (fun i => i ≤ l.length ∧ n ∉ l.take i) 0 (by simp) rfl (by simp) fun i hi ih => ?_
  by_cases hlt : i < l.length
  · have hin : l[i] = n → n ∈ l := fun h => h ▸ List.getElem_mem hlt
    have go := fun (h1 : ¬ l[i] = n) => ih (i + 1) ⟨by omega, by rw [List.take_succ_eq_append_getElem hlt, List.mem_append, List.mem_singleton]; rintro (h | h); exact hi.2 h; exact h1 h.symm⟩ (by omega)
    clear ih
    refine Run2.of I 1000 ?_
    simp -implicitDefEqProofs [hlt]
    exact ⟨fun h => hin h, fun h => ⟨by omega, by simpa using go h⟩⟩
  · obtain rfl : i = l.length := by omega
    have h2 := hi.2
    rw [List.take_length] at h2
    refine Run2.of I 1000 ?_
    simp -implicitDefEqProofs
    exact h2
noncomputable def o_l00Has : List AV → Option (Prop × AV) := tab (fun (x : List Int × Int) => match x with | (l, n) => [.snap 1 (l.map iv), .int .i64 n]) (fun x => match x with | (l, n) => l.length ≤ 1048576) (fun x => match x with | (l, n) => .bool (decide (n ∈ l)))
@[simp] theorem o_l00Has_e (l : List Int) (n : Int) : o_l00Has [.snap 1 (l.map iv), .int .i64 n] = some (l.length ≤ 1048576, .bool (decide (n ∈ l))) := tab_at (enc := fun (x : List Int × Int) => match x with | (l, n) => [.snap 1 (l.map iv), .int .i64 n]) (fun x y h => by
  obtain ⟨l1, n1⟩ := x; obtain ⟨l2, n2⟩ := y; simp at h; simp [h] <;> omega) _ _ (l, n)
theorem o_l00Has_k : Knows Tryz.prog 83 o_l00Has := tab_knows fun x hx h => by
  obtain ⟨l, n⟩ := x; exact l00Has_s l n h hx
noncomputable def orcR3 : List (Nat × (List AV → Option (Prop × AV))) := (83, o_l00Has) :: []
theorem orcR3_p : Pure Tryz.prog (lk orcR3) := (lk_pure o_l00Has_k lk_pure0)
@[simp] theorem orcR3_l (b : Bool) (g : FuncId) (l : List AV) : lk orcR3 b g l = if g = 83 then o_l00Has l else none := nr rfl
abbrev k59_o0 : List AJ := [.o ⟨(some 4), none, false, .mv (.c (.bool false)), (some [0, 1])⟩]
abbrev k59_o1 : List AJ := [.o ⟨(some 5), none, false, .mv (.c (.int .i64 0)), (some [0, 1, 5])⟩]
abbrev k59_o2 : List AJ := [.o ⟨(some 6), none, false, .mv (.t 5), none⟩, .o ⟨(some 7), none, false, .mv (.t 0), none⟩, .o ⟨(some 8), none, false, .len (.t 7), none⟩, .o ⟨(some 9), none, false, .bin .lss (.t 6) (.t 8), (some [0, 1, 5, 9])⟩]
def k59_3 : ACode := .cond (.t 9) .skip (.exit 0)
def k59_4 : ACode := .seq (.region k59_o2) k59_3
abbrev k59_o3 : List AJ := [.o ⟨(some 12), none, false, .mv (.t 1), none⟩, .o ⟨(some 13), none, false, .mv (.t 0), none⟩, .o ⟨(some 14), none, false, .mv (.t 5), none⟩, .o ⟨(some 15), none, false, .idxA 1 (.t 13) (.t 14), none⟩, .o ⟨(some 16), none, false, .load 1 false (.t 15), none⟩, .o ⟨(some 17), none, false, .call 83 [(.t 12), (.t 16)], none⟩, .o ⟨(some 18), none, false, .un .not (.t 17), (some [0, 1, 5, 18])⟩]
abbrev k59_o4 : List AJ := [.o ⟨(some 4), none, false, .mv (.c (.bool false)), (some [4])⟩]
def k59_7 : ACode := .seq (.region k59_o4) .ret
def k59_8 : ACode := .cond (.t 18) k59_7 .skip
def k59_9 : ACode := .seq (.region k59_o3) k59_8
abbrev k59_o5 : List AJ := [.o ⟨(some 10), none, false, .mv (.t 5), none⟩, .o ⟨(some 11), none, true, .bin .add (.t 10) (.c (.int .i64 1)), none⟩, .o ⟨(some 5), none, false, .mv (.t 11), (some [0, 1, 5])⟩]
def k59_11 : ACode := .region k59_o5
def k59_12 : ACode := .seq (.block 1 k59_9) k59_11
def k59_13 : ACode := .seq k59_4 k59_12
def k59_14 : ACode := .loop k59_13
def k59_15 : ACode := .block 0 k59_14
def k59_16 : ACode := .seq (.region k59_o1) k59_15
abbrev k59_o6 : List AJ := [.o ⟨(some 4), none, false, .mv (.c (.bool true)), (some [4])⟩]
def k59_18 : ACode := .seq (.region k59_o6) .ret
def k59_19 : ACode := .seq k59_16 k59_18
def k59_20 : ACode := .seq (.region k59_o0) k59_19
@[simp, simp ↓] theorem k59_3r : rC k59_3 (.t 9) .skip (.exit 0) := zC rfl
@[simp, simp ↓] theorem k59_4r : sR k59_4 k59_o2 k59_3 := yR rfl
@[simp, simp ↓] theorem k59_7r : sR k59_7 k59_o4 .ret := yR rfl
@[simp, simp ↓] theorem k59_8r : rC k59_8 (.t 18) k59_7 .skip := zC rfl
@[simp, simp ↓] theorem k59_9r : sR k59_9 k59_o3 k59_8 := yR rfl
@[simp, simp ↓] theorem k59_11r : rR k59_11 k59_o5 := zR rfl
@[simp, simp ↓] theorem k59_12r : sB k59_12 1 k59_9 k59_11 := yB rfl
@[simp, simp ↓] theorem k59_13r : rS k59_13 k59_4 k59_12 := zS rfl
@[simp, simp ↓] theorem k59_14r : rL k59_14 k59_13 := zL rfl
@[simp, simp ↓] theorem k59_15r : rB k59_15 0 k59_14 := zB rfl
@[simp, simp ↓] theorem k59_16r : sR k59_16 k59_o1 k59_15 := yR rfl
@[simp, simp ↓] theorem k59_18r : sR k59_18 k59_o6 .ret := yR rfl
@[simp, simp ↓] theorem k59_19r : rS k59_19 k59_16 k59_18 := zS rfl
@[simp, simp ↓] theorem k59_20r : sR k59_20 k59_o0 k59_19 := yR rfl
noncomputable abbrev k59_C : Orc → Cx := mkC Tryz.prog [] 59 19 [.tmp 4]
theorem k59_of0 : OfP0 Tryz.prog Tryz.f59 59 19 k59_C k59_20 := @ofP0 _ _ _ _ _ _ _ _ Tryz.func59 (by decide +kernel) rfl (by kernel_rfl) rfl (by kernel_rfl)
theorem l05Part_s (f s : List Int) (h : Heap) (hf : f.length ≤ 1048576) (hl : s.length ≤ 1048576) : ACalls Tryz.prog 59 [.snap 1 (f.map iv), .snap 1 (s.map iv)] h (fun v h' => v = .bool (subL f s) ∧ h' = h) := by
  refine k59_of0 rfl orcR3_p fun I => ?_
  refine Run2.of I 1000 ?_
  simp -implicitDefEqProofs
  refine Run2.loopE (fun (i : Nat) => [(0, .snap 1 (f.map iv)), (1, .snap 1 (s.map iv)), (5, .int .i64 i)]) (fun i => h) (fun i => f.length - i) (fun i => i ≤ f.length ∧ ∀ j (hj : j < f.length), j < i → f[j] ∈ s) 0 (by simp) rfl ⟨Nat.zero_le _, fun _ _ h => by omega⟩ fun i hi ih => ?_
  by_cases hlt : i < f.length
  · have go := fun (h1 : f[i] ∈ s) => ih (i + 1) ⟨by omega, fun j hj hji => by
      rcases Nat.lt_or_ge j i with h | h
      · exact hi.2 j hj h
      · obtain rfl : j = i := by omega
        exact h1⟩ (by omega)
    have hb : f[i] ∉ s → subL f s = false := fun h1 => by
      rw [Bool.eq_false_iff]
      intro h2
      have := List.all_eq_true.1 h2 _ (List.getElem_mem hlt)
      exact h1 (by simpa using this)
    clear ih
    refine Run2.of I 1000 ?_
    simp -implicitDefEqProofs [hlt, hl]
    refine ⟨fun h => (hb h), fun h => ⟨by omega, by simpa using go h⟩⟩
  · obtain rfl : i = f.length := by omega
    have : subL f s = true := List.all_eq_true.2 fun a ha => by
      obtain ⟨j, hj, rfl⟩ := List.mem_iff_getElem.1 ha
      simpa using hi.2 j hj hj
    refine Run2.of I 1000 ?_
    simp -implicitDefEqProofs [this]
noncomputable def o_l05Part : List AV → Option (Prop × AV) := tab (fun (x : List Int × List Int) => match x with | (f, s) => [.snap 1 (f.map iv), .snap 1 (s.map iv)]) (fun x => match x with | (f, s) => (f.length ≤ 1048576 ∧ s.length ≤ 1048576)) (fun x => match x with | (f, s) => .bool (subL f s))
@[simp] theorem o_l05Part_e (f : List Int) (s : List Int) : o_l05Part [.snap 1 (f.map iv), .snap 1 (s.map iv)] = some ((f.length ≤ 1048576 ∧ s.length ≤ 1048576), .bool (subL f s)) := tab_at (enc := fun (x : List Int × List Int) => match x with | (f, s) => [.snap 1 (f.map iv), .snap 1 (s.map iv)]) (fun x y h => by
  obtain ⟨f1, s1⟩ := x; obtain ⟨f2, s2⟩ := y; simp at h; simp [h] <;> omega) _ _ (f, s)
theorem o_l05Part_k : Knows Tryz.prog 59 o_l05Part := tab_knows fun x hx h => by
  obtain ⟨f, s⟩ := x; exact l05Part_s f s h hx.1 hx.2
noncomputable def orcR4 : List (Nat × (List AV → Option (Prop × AV))) := (59, o_l05Part) :: []
theorem orcR4_p : Pure Tryz.prog (lk orcR4) := (lk_pure o_l05Part_k lk_pure0)
@[simp] theorem orcR4_l (b : Bool) (g : FuncId) (l : List AV) : lk orcR4 b g l = if g = 59 then o_l05Part l else none := nr rfl
abbrev k29_o0 : List AJ := [.o ⟨(some 4), none, false, .mv (.c .nilsl), (some [0, 1])⟩]
abbrev k29_o1 : List AJ := [.e 7 1 none, .o ⟨(some 5), none, false, .mv (.t 7), (some [0, 1, 5])⟩]
abbrev k29_o2 : List AJ := [.o ⟨(some 6), none, false, .mv (.c (.int .i64 0)), (some [0, 1, 5, 6])⟩]
abbrev k29_o3 : List AJ := [.o ⟨(some 8), none, false, .mv (.t 6), none⟩, .o ⟨(some 9), none, false, .mv (.t 0), none⟩, .o ⟨(some 10), none, false, .nilchk (.t 9), none⟩, .o ⟨(some 11), none, false, .fieldA 0 (.t 10), none⟩, .o ⟨(some 12), none, false, .load 1 false (.t 11), none⟩, .o ⟨(some 13), none, false, .len (.t 12), none⟩, .o ⟨(some 14), none, false, .bin .lss (.t 8) (.t 13), (some [0, 1, 5, 6, 14])⟩]
def k29_4 : ACode := .cond (.t 14) .skip (.exit 0)
def k29_5 : ACode := .seq (.region k29_o3) k29_4
abbrev k29_o4 : List AJ := [.o ⟨(some 17), none, false, .mv (.t 1), none⟩, .o ⟨(some 18), none, false, .mv (.t 0), none⟩, .o ⟨(some 19), none, false, .nilchk (.t 18), none⟩, .o ⟨(some 20), none, false, .fieldA 0 (.t 19), none⟩, .o ⟨(some 21), none, false, .load 1 false (.t 20), none⟩, .o ⟨(some 22), none, false, .mv (.t 6), none⟩, .o ⟨(some 23), none, false, .idxA 1 (.t 21) (.t 22), none⟩, .o ⟨(some 24), none, false, .load 1 false (.t 23), none⟩, .o ⟨(some 25), none, false, .call 59 [(.t 17), (.t 24)], (some [0, 1, 5, 6, 25])⟩]
abbrev k29_o5 : List AJ := [.o ⟨(some 26), none, false, .mv (.t 5), none⟩, .o ⟨(some 27), none, false, .mv (.t 6), none⟩, .o ⟨(some 28), none, false, .bsl false 1 [(.t 27)], none⟩, .o ⟨(some 29), none, false, .append 1 8 (.t 26) (.t 28), none⟩, .o ⟨(some 5), none, false, .mv (.t 29), (some [0, 1, 5, 6])⟩]
def k29_7 : ACode := .region k29_o5
def k29_8 : ACode := .cond (.t 25) k29_7 .skip
def k29_9 : ACode := .seq (.region k29_o4) k29_8
abbrev k29_o6 : List AJ := [.o ⟨(some 15), none, false, .mv (.t 6), none⟩, .o ⟨(some 16), none, true, .bin .add (.t 15) (.c (.int .i64 1)), none⟩, .o ⟨(some 6), none, false, .mv (.t 16), (some [0, 1, 5, 6])⟩]
def k29_11 : ACode := .region k29_o6
def k29_12 : ACode := .seq (.block 1 k29_9) k29_11
def k29_13 : ACode := .seq k29_5 k29_12
def k29_14 : ACode := .loop k29_13
def k29_15 : ACode := .block 0 k29_14
def k29_16 : ACode := .seq (.region k29_o2) k29_15
abbrev k29_o7 : List AJ := [.o ⟨(some 30), none, false, .mv (.t 5), none⟩, .o ⟨(some 4), none, false, .mv (.t 30), (some [4])⟩]
def k29_18 : ACode := .seq (.region k29_o7) .ret
def k29_19 : ACode := .seq k29_16 k29_18
def k29_20 : ACode := .seq (.region k29_o1) k29_19
def k29_21 : ACode := .seq (.region k29_o0) k29_20
@[simp, simp ↓] theorem k29_4r : rC k29_4 (.t 14) .skip (.exit 0) := zC rfl
@[simp, simp ↓] theorem k29_5r : sR k29_5 k29_o3 k29_4 := yR rfl
@[simp, simp ↓] theorem k29_7r : rR k29_7 k29_o5 := zR rfl
@[simp, simp ↓] theorem k29_8r : rC k29_8 (.t 25) k29_7 .skip := zC rfl
@[simp, simp ↓] theorem k29_9r : sR k29_9 k29_o4 k29_8 := yR rfl
@[simp, simp ↓] theorem k29_11r : rR k29_11 k29_o6 := zR rfl
@[simp, simp ↓] theorem k29_12r : sB k29_12 1 k29_9 k29_11 := yB rfl
@[simp, simp ↓] theorem k29_13r : rS k29_13 k29_5 k29_12 := zS rfl
@[simp, simp ↓] theorem k29_14r : rL k29_14 k29_13 := zL rfl
@[simp, simp ↓] theorem k29_15r : rB k29_15 0 k29_14 := zB rfl
@[simp, simp ↓] theorem k29_16r : sR k29_16 k29_o2 k29_15 := yR rfl
@[simp, simp ↓] theorem k29_18r : sR k29_18 k29_o7 .ret := yR rfl
@[simp, simp ↓] theorem k29_19r : rS k29_19 k29_16 k29_18 := zS rfl
@[simp, simp ↓] theorem k29_20r : sR k29_20 k29_o1 k29_19 := yR rfl
@[simp, simp ↓] theorem k29_21r : sR k29_21 k29_o0 k29_20 := yR rfl
noncomputable abbrev k29_C : Orc → Cx := mkC Tryz.prog [7] 29 31 [.tmp 4]
theorem k29_of : OfP Tryz.prog Tryz.f29 29 31 k29_C k29_21 := @ofP _ _ _ _ _ _ _ _ Tryz.func29 (by decide +kernel) rfl (by kernel_rfl) rfl (by kernel_rfl)
theorem l05Star_s (rs : List (List Int)) (e : List AV) (s : List Int) (h : Heap) (hl : ssTot rs ≤ 1048576) (hs0 : s.length ≤ 1048576) : ACalls Tryz.prog 29 [.ip (.snap 1 (rs.map il) :: e), .snap 1 (s.map iv)] h (fun v h' => v = .snap 1 ((starN rs s rs.length).map nv) ∧ h' = h) := by
  have hf := fit_of_tot hl
  have hn := hf.1
  refine k29_of rfl orcR4_p fun I => ?_
  refine Run2.of I 1000 ?_
  simp -implicitDefEqProofs
  refine Run2.loopE (α := Nat × AV × Heap) (fun p => [(0, .ip (.snap 1 (rs.map il) :: e)), (1, .snap 1 (s.map iv)), (5, p.2.1), (6, .int .i64 (p.1 : Nat))]) (fun p => p.2.2 ++ h) (fun p => rs.length - p.1) (fun p => p.1 ≤ rs.length ∧ Grow 1 p.2.1 ((starN rs s p.1).map nv) p.2.2) (0, .emp, []) (by simp) rfl ⟨Nat.zero_le _, by simpa [starN] using Grow.emp⟩ ?_
  rintro ⟨i, w, hp⟩ ⟨hi, hg⟩ ih
  simp only at hi hg
  have hcell := hg.cell
  by_cases hlt : i < rs.length
  · have hr := hf.2 _ (List.getElem_mem hlt)
    have hsl := starN_len rs s i
    by_cases hs : subL s rs[i] = true
    · have go := fun w' hp' (g : Grow 1 w' ((starN rs s i).map nv ++ [.int .i64 i]) hp') => ih (i + 1, w', hp') ⟨hlt, by
        simp only
        rw [starN_pos hlt hs, List.map_append]
        exact g⟩ (by simp; omega)
      clear ih
      refine Run2.of I 1000 ?_
      simp -implicitDefEqProofs [hlt, hr, hs0, hcell, hs]
      refine hg.app (by simp; omega) (by simp) fun w' hp' hg' => ?_
      have hcell' := hg'.cell
      have := go w' hp' hg'
      simp -implicitDefEqProofs [hcell']
      refine ⟨by omega, ?_⟩
      simpa using this
    · have go := ih (i + 1, w, hp) ⟨hlt, by simp only; rw [starN_neg hlt hs]; exact hg⟩ (by simp; omega)
      have hs' : subL s rs[i] = false := by simpa using hs
      clear ih
      refine Run2.of I 1000 ?_
      simp -implicitDefEqProofs [hlt, hr, hs0, hcell, hs']
      refine ⟨by omega, ?_⟩
      simpa using go
  · obtain rfl : i = rs.length := by omega
    refine Run2.of I 1000 ?_
    simp -implicitDefEqProofs [hlt, hcell]
    exact hg.froze (fun x => x) (fun _ _ _ => rfl) (fun _ _ h => h) (.base ⟨rfl, rfl⟩)
end Go.AG
