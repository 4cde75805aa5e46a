/- The text of a filtration: the program and the reference. No statement is made here. -/
import Derived.Test.YtnbllllkaohfoaaDoorStB
import Derived.Test.YtnbllllkaohfoaaDoorFxR
import Derived.Test.YtnbllllkaohfoaaDoorFilL
namespace Go.AG
open Go.Proofs Go.Proofs.YtnbllllkaohfoaaDoor
set_option linter.unusedSimpArgs false
set_option linter.unusedVariables false
set_option maxRecDepth 4000
noncomputable def o_starOf : List AV → Option (Prop × AV) := tab (fun (x : LS × Nat) => match x with | (rs, k) => [.agg [.snap 1 (rs.map il)], .int .i64 k]) (fun x => match x with | (rs, k) => (ssTot rs ≤ 1048576 ∧ k < rs.length)) (fun x => match x with | (rs, k) => .snap 1 ((starN rs (rs.getD k []) rs.length).map nv))
@[simp] theorem o_starOf_e (rs : LS) (k : Nat) : o_starOf [.agg [.snap 1 (rs.map il)], .int .i64 k] = some ((ssTot rs ≤ 1048576 ∧ k < rs.length), .snap 1 ((starN rs (rs.getD k []) rs.length).map nv)) := tab_at (enc := fun (x : LS × Nat) => match x with | (rs, k) => [.agg [.snap 1 (rs.map il)], .int .i64 k]) (fun x y h => by
  obtain ⟨rs1, k1⟩ := x; obtain ⟨rs2, k2⟩ := y; simp at h; simp [h] <;> omega) _ _ (rs, k)
theorem o_starOf_k : Knows Tryd.prog 110 o_starOf := tab_knows fun x hx h => by
  obtain ⟨rs, k⟩ := x; exact (by have := starOf_s rs k h hx.1 hx.2; rwa [show rs[k]'hx.2 = rs.getD k [] by simp [hx.2]] at this)
noncomputable def o_l05Star : List AV → Option (Prop × AV) := tab (fun (x : LS × List AV × List Int) => match x with | (rs, e, s) => [.ip (.snap 1 (rs.map il) :: e), .snap 1 (s.map iv)]) (fun x => match x with | (rs, e, s) => (ssTot rs ≤ 1048576 ∧ s.length ≤ 1048576)) (fun x => match x with | (rs, e, s) => .snap 1 ((starN rs s rs.length).map nv))
@[simp] theorem o_l05Star_e (rs : LS) (e : List AV) (s : List Int) : o_l05Star [.ip (.snap 1 (rs.map il) :: e), .snap 1 (s.map iv)] = some ((ssTot rs ≤ 1048576 ∧ s.length ≤ 1048576), .snap 1 ((starN rs s rs.length).map nv)) := tab_at (enc := fun (x : LS × List AV × List Int) => match x with | (rs, e, s) => [.ip (.snap 1 (rs.map il) :: e), .snap 1 (s.map iv)]) (fun x y h => by
  obtain ⟨rs1, e1, s1⟩ := x; obtain ⟨rs2, e2, s2⟩ := y; simp at h; simp [h] <;> omega) _ _ (rs, e, s)
theorem o_l05Star_k : Knows Tryd.prog 119 o_l05Star := tab_knows fun x hx h => by
  obtain ⟨rs, e, s⟩ := x; exact l05Star_s rs e s h hx.1 hx.2
/-- The places of simplices that are faces of no others. -/
def isFc (rs : List (List Int)) (k : Nat) : Bool := decide ((starN rs (rs.getD k []) rs.length).length = 1)
def fcN (rs : List (List Int)) (i : Nat) : List Nat := (List.range i).filter (isFc rs)
theorem fcN_pos {rs : List (List Int)} {i : Nat} (h : isFc rs i = true) : fcN rs (i + 1) = fcN rs i ++ [i] := by
  unfold fcN; rw [List.range_succ, List.filter_append]; simp [h]
theorem fcN_neg {rs : List (List Int)} {i : Nat} (h : isFc rs i = false) : fcN rs (i + 1) = fcN rs i := by
  unfold fcN; rw [List.range_succ, List.filter_append]; simp [h]
theorem fcN_len (rs : List (List Int)) (i : Nat) : (fcN rs i).length ≤ i := by
  unfold fcN; exact Nat.le_trans (List.length_filter_le ..) (by simp)
theorem fcN_lt {rs : List (List Int)} {i k : Nat} (h : k ∈ fcN rs i) : k < i := List.mem_range.1 (List.mem_filter.1 h).1
noncomputable def orcW1 : List (Nat × (List AV → Option (Prop × AV))) := (108, o_sizeSS) :: (110, o_starOf) :: []
theorem orcW1_p : Pure Tryd.prog (lk orcW1) := (lk_pure o_sizeSS_k (lk_pure o_starOf_k lk_pure0))
@[simp] theorem orcW1_l (b : Bool) (g : FuncId) (l : List AV) : lk orcW1 b g l = if g = 108 then o_sizeSS l else if g = 110 then o_starOf l else none := nr rfl
abbrev k89_o0 : List AJ := [.o ⟨(some 1), none, false, .box false 1 (.t 0), none⟩, .o ⟨(some 2), none, false, .mv (.c .nilsl), (some [1])⟩]
abbrev k89_o1 : List AJ := [.o ⟨(some 3), none, false, .mv (.c .nilsl), (some [1, 3])⟩]
abbrev k89_o2 : List AJ := [.o ⟨(some 5), none, false, .fieldA 0 (.t 1), none⟩, .o ⟨(some 6), none, false, .load 1 false (.t 5), none⟩, .o ⟨(some 7), none, false, .call 108 [(.t 6)], none⟩, .o ⟨(some 8), none, false, .mv (.c (.int .i64 0)), (some [1, 3, 7, 8])⟩]
abbrev k89_o3 : List AJ := [.o ⟨(some 9), none, false, .bin .lss (.t 8) (.t 7), (some [1, 3, 7, 8, 9])⟩]
abbrev k89_o4 : List AJ := [.o ⟨(some 10), none, false, .mv (.t 8), none⟩, .o ⟨(some 4), none, false, .mv (.t 10), (some [1, 3, 4, 7, 8])⟩]
abbrev k89_o5 : List AJ := [.o ⟨(some 11), none, false, .load 1 true (.t 1), none⟩, .o ⟨(some 12), none, false, .mv (.t 4), none⟩, .o ⟨(some 13), none, false, .call 110 [(.t 11), (.t 12)], none⟩, .o ⟨(some 14), none, false, .len (.t 13), none⟩, .o ⟨(some 15), none, false, .bin .eql (.t 14) (.c (.int .i64 1)), (some [1, 3, 4, 7, 8, 15])⟩]
abbrev k89_o6 : List AJ := [.o ⟨(some 16), none, false, .mv (.t 3), none⟩, .o ⟨(some 17), none, false, .mv (.t 4), none⟩, .o ⟨(some 18), none, false, .bsl false 1 [(.t 17)], none⟩, .o ⟨(some 19), none, false, .append 1 8 (.t 16) (.t 18), none⟩, .o ⟨(some 3), none, false, .mv (.t 19), (some [1, 3, 7, 8])⟩]
def k89_7 : ACode := .region k89_o6
def k89_8 : ACode := .cond (.t 15) k89_7 .skip
def k89_9 : ACode := .seq (.region k89_o5) k89_8
def k89_10 : ACode := .seq (.region k89_o4) k89_9
abbrev k89_o7 : List AJ := [.o ⟨(some 20), none, true, .bin .add (.t 8) (.c (.int .i64 1)), none⟩, .o ⟨(some 8), none, false, .mv (.t 20), (some [1, 3, 7, 8])⟩]
def k89_12 : ACode := .region k89_o7
def k89_13 : ACode := .seq (.block 1 k89_10) k89_12
def k89_14 : ACode := .seq (.cond (.t 9) .skip (.exit 0)) k89_13
def k89_15 : ACode := .seq (.region k89_o3) k89_14
def k89_16 : ACode := .loop k89_15
def k89_17 : ACode := .block 0 k89_16
def k89_18 : ACode := .seq (.region k89_o2) k89_17
abbrev k89_o8 : List AJ := [.o ⟨(some 21), none, false, .mv (.t 3), none⟩, .o ⟨(some 2), none, false, .mv (.t 21), (some [2])⟩]
def k89_20 : ACode := .seq (.region k89_o8) .ret
def k89_21 : ACode := .seq k89_18 k89_20
def k89_22 : ACode := .seq (.region k89_o1) k89_21
def k89_23 : ACode := .seq (.region k89_o0) k89_22
@[simp, simp ↓] theorem k89_7r : rR k89_7 k89_o6 := zR rfl
@[simp, simp ↓] theorem k89_8r : rC k89_8 (.t 15) k89_7 .skip := zC rfl
@[simp, simp ↓] theorem k89_9r : sR k89_9 k89_o5 k89_8 := yR rfl
@[simp, simp ↓] theorem k89_10r : sR k89_10 k89_o4 k89_9 := yR rfl
@[simp, simp ↓] theorem k89_12r : rR k89_12 k89_o7 := zR rfl
@[simp, simp ↓] theorem k89_13r : sB k89_13 1 k89_10 k89_12 := yB rfl
@[simp, simp ↓] theorem k89_14r : sC k89_14 (.t 9) .skip (.exit 0) k89_13 := yC rfl
@[simp, simp ↓] theorem k89_15r : sR k89_15 k89_o3 k89_14 := yR rfl
@[simp, simp ↓] theorem k89_16r : rL k89_16 k89_15 := zL rfl
@[simp, simp ↓] theorem k89_17r : rB k89_17 0 k89_16 := zB rfl
@[simp, simp ↓] theorem k89_18r : sR k89_18 k89_o2 k89_17 := yR rfl
@[simp, simp ↓] theorem k89_20r : sR k89_20 k89_o8 .ret := yR rfl
@[simp, simp ↓] theorem k89_21r : rS k89_21 k89_18 k89_20 := zS rfl
@[simp, simp ↓] theorem k89_22r : sR k89_22 k89_o1 k89_21 := yR rfl
@[simp, simp ↓] theorem k89_23r : sR k89_23 k89_o0 k89_22 := yR rfl
noncomputable abbrev k89_C : Orc → Cx := mkC Tryd.prog [] 89 22 [.tmp 2]
theorem k89_of : OfP Tryd.prog Tryd.f89 89 22 k89_C k89_23 := @ofP _ _ _ _ _ _ _ _ Tryd.func89 (by decide +kernel) rfl (by kernel_rfl) rfl (by kernel_rfl)
theorem facets_s (rs : List (List Int)) (h : Heap) (hl : ssTot rs ≤ 1048576) : ACalls Tryd.prog 89 [cx rs] h (fun v h' => v = .snap 1 ((fcN rs rs.length).map nv) ∧ h' = h) := by
  have hf := fit_of_tot hl
  have hn := hf.1
  refine k89_of rfl orcW1_p fun I => ?_
  refine Run2.of I 1000 ?_
  simp -implicitDefEqProofs
  refine Run2.loopE (α := Nat × AV × Heap) (fun p => [(1, .ip [.snap 1 (rs.map il)]), (3, p.2.1), (7, .int .i64 rs.length), (8, .int .i64 (p.1 : Nat))]) (fun p => p.2.2 ++ h) (fun p => rs.length - p.1) (fun p => p.1 ≤ rs.length ∧ Grow 1 p.2.1 ((fcN rs p.1).map nv) p.2.2) (0, .nilsl, []) (by simp) rfl ⟨Nat.zero_le _, by simpa [fcN] using Grow.nil⟩ ?_
  rintro ⟨i, w, hp⟩ ⟨hi, hg⟩ ih
  simp only at hi hg
  have hcell := hg.cell
  by_cases hlt : i < rs.length
  · have hil := fcN_len rs i
    cases hfc : isFc rs i with
    | true =>
      have go := fun w' hp' (g : Grow 1 w' ((fcN rs i).map nv ++ [.int .i64 i]) hp') => ih (i + 1, w', hp') ⟨hlt, by
        simp only [fcN_pos hfc, List.map_append]
        exact g⟩ (by omega)
      have h1 : (starN rs rs[i] rs.length).length = 1 := by simpa [isFc, hlt] using hfc
      have h1I : ((starN rs rs[i] rs.length).length : Int) = 1 := by omega
      clear ih
      refine Run2.of I 1000 ?_
      simp -implicitDefEqProofs [hlt, hcell, hl, h1I]
      refine hg.app (by simp; omega) (by simp) fun w2 hp2 hg2 => ?_
      have hcell2 := hg2.cell
      have := go w2 hp2 hg2
      simp -implicitDefEqProofs [hcell2]
      exact ⟨by omega, by simpa using this⟩
    | false =>
      have go := ih (i + 1, w, hp) ⟨hlt, by simp only [fcN_neg hfc]; exact hg⟩ (by omega)
      have h1 : ¬ (starN rs rs[i] rs.length).length = 1 := by simpa [isFc, hlt] using hfc
      have h1I : ¬ ((starN rs rs[i] rs.length).length : Int) = 1 := by omega
      clear ih
      refine Run2.of I 1000 ?_
      simp -implicitDefEqProofs [hlt, hcell, hl, h1I]
      exact ⟨by omega, by simpa using go⟩
  · obtain rfl : i = rs.length := by omega
    refine Run2.of I 1000 ?_
    simp -implicitDefEqProofs [hlt, hcell]
    exact hg.froze (fun x => x) (fun _ _ _ => rfl) (fun _ _ h => h) (.base ⟨rfl, rfl⟩)
noncomputable def orcW2 : List (Nat × (List AV → Option (Prop × AV))) := (119, o_l05Star) :: []
theorem orcW2_p : Pure Tryd.prog (lk orcW2) := (lk_pure o_l05Star_k lk_pure0)
@[simp] theorem orcW2_l (b : Bool) (g : FuncId) (l : List AV) : lk orcW2 b g l = if g = 119 then o_l05Star l else none := nr rfl
abbrev k100_o0 : List AJ := [.o ⟨(some 2), none, false, .mv (.c .nilsl), (some [0])⟩]
abbrev k100_o1 : List AJ := [.e 5 1 none, .o ⟨(some 3), none, false, .mv (.t 5), (some [0, 3])⟩]
abbrev k100_o2 : List AJ := [.o ⟨(some 4), none, false, .mv (.c (.int .i64 0)), (some [0, 3, 4])⟩]
abbrev k100_o3 : List AJ := [.o ⟨(some 6), none, false, .mv (.t 4), none⟩, .o ⟨(some 7), none, false, .mv (.t 0), none⟩, .o ⟨(some 8), none, false, .nilchk (.t 7), none⟩, .o ⟨(some 9), none, false, .fieldA 0 (.t 8), none⟩, .o ⟨(some 10), none, false, .load 1 false (.t 9), none⟩, .o ⟨(some 11), none, false, .len (.t 10), none⟩, .o ⟨(some 12), none, false, .bin .lss (.t 6) (.t 11), (some [0, 3, 4, 12])⟩]
def k100_4 : ACode := .cond (.t 12) .skip (.exit 0)
def k100_5 : ACode := .seq (.region k100_o3) k100_4
abbrev k100_o4 : List AJ := [.o ⟨(some 15), none, false, .mv (.t 0), none⟩, .o ⟨(some 16), none, false, .mv (.t 0), none⟩, .o ⟨(some 17), none, false, .nilchk (.t 16), none⟩, .o ⟨(some 18), none, false, .fieldA 0 (.t 17), none⟩, .o ⟨(some 19), none, false, .load 1 false (.t 18), none⟩, .o ⟨(some 20), none, false, .mv (.t 4), none⟩, .o ⟨(some 21), none, false, .idxA 1 (.t 19) (.t 20), none⟩, .o ⟨(some 22), none, false, .load 1 false (.t 21), none⟩, .o ⟨(some 23), none, false, .call 119 [(.t 15), (.t 22)], none⟩, .o ⟨(some 24), none, false, .len (.t 23), none⟩, .o ⟨(some 25), none, false, .bin .eql (.t 24) (.c (.int .i64 1)), (some [0, 3, 4, 25])⟩]
abbrev k100_o5 : List AJ := [.o ⟨(some 26), none, false, .mv (.t 3), none⟩, .o ⟨(some 27), none, false, .mv (.t 4), none⟩, .o ⟨(some 28), none, false, .bsl false 1 [(.t 27)], none⟩, .o ⟨(some 29), none, false, .append 1 8 (.t 26) (.t 28), none⟩, .o ⟨(some 3), none, false, .mv (.t 29), (some [0, 3, 4])⟩]
def k100_7 : ACode := .region k100_o5
def k100_8 : ACode := .cond (.t 25) k100_7 .skip
def k100_9 : ACode := .seq (.region k100_o4) k100_8
abbrev k100_o6 : List AJ := [.o ⟨(some 13), none, false, .mv (.t 4), none⟩, .o ⟨(some 14), none, true, .bin .add (.t 13) (.c (.int .i64 1)), none⟩, .o ⟨(some 4), none, false, .mv (.t 14), (some [0, 3, 4])⟩]
def k100_11 : ACode := .region k100_o6
def k100_12 : ACode := .seq (.block 1 k100_9) k100_11
def k100_13 : ACode := .seq k100_5 k100_12
def k100_14 : ACode := .loop k100_13
def k100_15 : ACode := .block 0 k100_14
def k100_16 : ACode := .seq (.region k100_o2) k100_15
abbrev k100_o7 : List AJ := [.o ⟨(some 30), none, false, .mv (.t 3), none⟩, .o ⟨(some 2), none, false, .mv (.t 30), (some [2])⟩]
def k100_18 : ACode := .seq (.region k100_o7) .ret
def k100_19 : ACode := .seq k100_16 k100_18
def k100_20 : ACode := .seq (.region k100_o1) k100_19
def k100_21 : ACode := .seq (.region k100_o0) k100_20
@[simp, simp ↓] theorem k100_4r : rC k100_4 (.t 12) .skip (.exit 0) := zC rfl
@[simp, simp ↓] theorem k100_5r : sR k100_5 k100_o3 k100_4 := yR rfl
@[simp, simp ↓] theorem k100_7r : rR k100_7 k100_o5 := zR rfl
@[simp, simp ↓] theorem k100_8r : rC k100_8 (.t 25) k100_7 .skip := zC rfl
@[simp, simp ↓] theorem k100_9r : sR k100_9 k100_o4 k100_8 := yR rfl
@[simp, simp ↓] theorem k100_11r : rR k100_11 k100_o6 := zR rfl
@[simp, simp ↓] theorem k100_12r : sB k100_12 1 k100_9 k100_11 := yB rfl
@[simp, simp ↓] theorem k100_13r : rS k100_13 k100_5 k100_12 := zS rfl
@[simp, simp ↓] theorem k100_14r : rL k100_14 k100_13 := zL rfl
@[simp, simp ↓] theorem k100_15r : rB k100_15 0 k100_14 := zB rfl
@[simp, simp ↓] theorem k100_16r : sR k100_16 k100_o2 k100_15 := yR rfl
@[simp, simp ↓] theorem k100_18r : sR k100_18 k100_o7 .ret := yR rfl
@[simp, simp ↓] theorem k100_19r : rS k100_19 k100_16 k100_18 := zS rfl
@[simp, simp ↓] theorem k100_20r : sR k100_20 k100_o1 k100_19 := yR rfl
@[simp, simp ↓] theorem k100_21r : sR k100_21 k100_o0 k100_20 := yR rfl
noncomputable abbrev k100_C : Orc → Cx := mkC Tryd.prog [5] 100 31 [.tmp 2]
theorem k100_of : OfP Tryd.prog Tryd.f100 100 31 k100_C k100_21 := @ofP _ _ _ _ _ _ _ _ Tryd.func100 (by decide +kernel) rfl (by kernel_rfl) rfl (by kernel_rfl)
theorem l05Facets_s (rs : List (List Int)) (e : List AV) (h : Heap) (hl : ssTot rs ≤ 1048576) : ACalls Tryd.prog 100 [.ip (.snap 1 (rs.map il) :: e)] h (fun v h' => v = .snap 1 ((fcN rs rs.length).map nv) ∧ h' = h) := by
  have hf := fit_of_tot hl
  have hn := hf.1
  refine k100_of rfl orcW2_p fun I => ?_
  refine Run2.of I 1000 ?_
  simp -implicitDefEqProofs
  refine Run2.loopE (α := Nat × AV × Heap) (fun p => [(0, .ip (.snap 1 (rs.map il) :: e)), (3, p.2.1), (4, .int .i64 (p.1 : Nat))]) (fun p => p.2.2 ++ h) (fun p => rs.length - p.1) (fun p => p.1 ≤ rs.length ∧ Grow 1 p.2.1 ((fcN rs p.1).map nv) p.2.2) (0, .emp, []) (by simp) rfl ⟨Nat.zero_le _, by simpa [fcN] using Grow.emp⟩ ?_
  rintro ⟨i, w, hp⟩ ⟨hi, hg⟩ ih
  simp only at hi hg
  have hcell := hg.cell
  by_cases hlt : i < rs.length
  · have hil := fcN_len rs i
    have hrl := hf.2 _ (List.getElem_mem hlt)
    cases hfc : isFc rs i with
    | true =>
      have go := fun w' hp' (g : Grow 1 w' ((fcN rs i).map nv ++ [.int .i64 i]) hp') => ih (i + 1, w', hp') ⟨hlt, by
        simp only [fcN_pos hfc, List.map_append]
        exact g⟩ (by omega)
      have h1 : (starN rs rs[i] rs.length).length = 1 := by simpa [isFc, hlt] using hfc
      have h1I : ((starN rs rs[i] rs.length).length : Int) = 1 := by omega
      clear ih
      refine Run2.of I 1000 ?_
      simp -implicitDefEqProofs [hlt, hcell, hl, hrl, h1I]
      refine hg.app (by simp; omega) (by simp) fun w2 hp2 hg2 => ?_
      have hcell2 := hg2.cell
      have := go w2 hp2 hg2
      simp -implicitDefEqProofs [hcell2]
      exact ⟨by omega, by simpa using this⟩
    | false =>
      have go := ih (i + 1, w, hp) ⟨hlt, by simp only [fcN_neg hfc]; exact hg⟩ (by omega)
      have h1 : ¬ (starN rs rs[i] rs.length).length = 1 := by simpa [isFc, hlt] using hfc
      have h1I : ¬ ((starN rs rs[i] rs.length).length : Int) = 1 := by omega
      clear ih
      refine Run2.of I 1000 ?_
      simp -implicitDefEqProofs [hlt, hcell, hl, hrl, h1I]
      exact ⟨by omega, by simpa using go⟩
  · obtain rfl : i = rs.length := by omega
    refine Run2.of I 1000 ?_
    simp -implicitDefEqProofs [hlt, hcell]
    exact hg.froze (fun x => x) (fun _ _ _ => rfl) (fun _ _ h => h) (.base ⟨rfl, rfl⟩)
/-! ## A complex as text -/
def fcT (rs : List (List Int)) (k : Nat) : List UInt8 := lstT (rs.getD k [])
def fcs (rs : List (List Int)) : List Nat := fcN rs rs.length
def cxT (rs : List (List Int)) : List UInt8 := if fcs rs = [] then [45] else Lib.join ((fcs rs).map (fcT rs)) [47]
theorem dd_ne (u : Nat) : Lib.decDigits u ≠ [] := by rw [Lib.decDigits]; split <;> simp
theorem itoa_ne (n : Int) : Lib.itoa n ≠ [] := by
  unfold Lib.itoa
  split
  · simp
  · exact dd_ne _
theorem join_ne : ∀ (xs : List (List UInt8)) (s : List UInt8), xs ≠ [] → (∀ x ∈ xs, x ≠ []) → Lib.join xs s ≠ []
  | [], _, h, _ => absurd rfl h
  | [a], s, _, h => by rw [join_one']; exact h a (by simp)
  | a :: b :: r, s, _, h => by
    rw [join_cc]
    have := h a (by simp)
    simp [this]
theorem lstT_ne (l : List Int) : lstT l ≠ [] := by
  unfold lstT
  split
  · simp
  · rename_i h
    exact join_ne _ _ (by simpa using h) fun x hx => by
      obtain ⟨n, _, rfl⟩ := List.mem_map.1 hx
      exact itoa_ne n
theorem fcs_at {rs : List (List Int)} (hc : cxOk rs) {k : Nat} (h : k ∈ fcs rs) : ∃ hk : k < rs.length, fcT rs k = lstT rs[k] ∧ rs[k].length ≤ 4 ∧ ∀ n ∈ rs[k], valI n := by
  have hk : k < rs.length := fcN_lt h
  have hs := (hc.mem (List.getElem_mem hk)).1
  exact ⟨hk, by simp [fcT, hk], hs.1.2, fun n hn => by have := hs.2.2 n hn; unfold valI; omega⟩
theorem fcT_len {rs : List (List Int)} (hc : cxOk rs) {k : Nat} (h : k ∈ fcs rs) : (fcT rs k).length ≤ 100 := by
  obtain ⟨hk, e, h4, hv⟩ := fcs_at hc h
  have := lstT_len (l := rs[k]) fun n hn => valI_in (hv n hn)
  rw [e]
  omega
theorem fcs_len (rs : List (List Int)) : (fcs rs).length ≤ rs.length := fcN_len rs rs.length
theorem cx_takeL {rs : List (List Int)} (hc : cxOk rs) (i : Nat) (hi : i ≤ (fcs rs).length) : (Lib.join (((fcs rs).take i).map (fcT rs)) [47]).length ≤ 6000 := by
  have h1 := join_takeL (fcT rs) [47] (fcs rs) i 100 fun k hk => fcT_len hc hk
  have h2 := fcs_len rs
  have h48 := hc.2
  simp only [List.length_singleton] at h1
  omega
theorem cxT_len {rs : List (List Int)} (hc : cxOk rs) : (cxT rs).length ≤ 6000 := by
  unfold cxT
  split
  · simp
  · have := cx_takeL hc (fcs rs).length (Nat.le_refl _)
    rwa [List.take_length] at this
noncomputable def o_facets : List AV → Option (Prop × AV) := tab (fun (x : LS) => match x with | rs => [.agg [.snap 1 (rs.map il)]]) (fun x => match x with | rs => ssTot rs ≤ 1048576) (fun x => match x with | rs => .snap 1 ((fcs rs).map nv))
@[simp] theorem o_facets_e (rs : LS) : o_facets [.agg [.snap 1 (rs.map il)]] = some (ssTot rs ≤ 1048576, .snap 1 ((fcs rs).map nv)) := tab_at (enc := fun (x : LS) => match x with | rs => [.agg [.snap 1 (rs.map il)]]) (fun x y h => by
  simp at h; simp [h] <;> omega) _ _ rs
theorem o_facets_k : Knows Tryd.prog 89 o_facets := tab_knows fun x hx h => by
  exact facets_s x h hx
noncomputable def o_l05Facets : List AV → Option (Prop × AV) := tab (fun (x : LS × List AV) => match x with | (rs, e) => [.ip (.snap 1 (rs.map il) :: e)]) (fun x => match x with | (rs, e) => ssTot rs ≤ 1048576) (fun x => match x with | (rs, e) => .snap 1 ((fcs rs).map nv))
@[simp] theorem o_l05Facets_e (rs : LS) (e : List AV) : o_l05Facets [.ip (.snap 1 (rs.map il) :: e)] = some (ssTot rs ≤ 1048576, .snap 1 ((fcs rs).map nv)) := tab_at (enc := fun (x : LS × List AV) => match x with | (rs, e) => [.ip (.snap 1 (rs.map il) :: e)]) (fun x y h => by
  obtain ⟨rs1, e1⟩ := x; obtain ⟨rs2, e2⟩ := y; simp at h; simp [h] <;> omega) _ _ (rs, e)
theorem o_l05Facets_k : Knows Tryd.prog 100 o_l05Facets := tab_knows fun x hx h => by
  obtain ⟨rs, e⟩ := x; exact l05Facets_s rs e h hx
noncomputable def orcW3 : List (Nat × (List AV → Option (Prop × AV))) := (84, o_validCx) :: (89, o_facets) :: (33, o_ListText) :: []
theorem orcW3_p : Pure Tryd.prog (lk orcW3) := (lk_pure o_validCx_k (lk_pure o_facets_k (lk_pure o_ListText_k lk_pure0)))
@[simp] theorem orcW3_l (b : Bool) (g : FuncId) (l : List AV) : lk orcW3 b g l = if g = 84 then o_validCx l else if g = 89 then o_facets l else if g = 33 then o_ListText l else none := nr rfl
abbrev k54_o0 : List AJ := [.o ⟨(some 1), none, false, .box false 1 (.t 0), none⟩, .o ⟨(some 2), none, false, .mv (.c (.str [])), (some [1])⟩]
abbrev k54_o1 : List AJ := [.o ⟨(some 6), none, false, .load 1 true (.t 1), none⟩, .o ⟨(some 7), none, false, .call 84 [(.t 6)], none⟩, .o ⟨(some 8), none, false, .un .not (.t 7), (some [1, 8])⟩]
abbrev k54_o2 : List AJ := [.o ⟨(some 2), none, false, .mv (.c (.str [])), (some [2])⟩]
def k54_3 : ACode := .seq (.region k54_o2) .ret
def k54_4 : ACode := .cond (.t 8) k54_3 .skip
def k54_5 : ACode := .seq (.region k54_o1) k54_4
abbrev k54_o3 : List AJ := [.o ⟨(some 3), none, false, .mv (.c .nilsl), (some [1, 3])⟩]
abbrev k54_o4 : List AJ := [.o ⟨(some 9), none, false, .load 1 true (.t 1), none⟩, .o ⟨(some 10), none, false, .call 89 [(.t 9)], none⟩, .o ⟨(some 11), none, false, .len (.t 10), none⟩, .o ⟨(some 12), none, false, .mv (.c (.int .i64 0)), (some [1, 3, 10, 11, 12])⟩]
abbrev k54_o5 : List AJ := [.o ⟨(some 13), none, false, .bin .lss (.t 12) (.t 11), (some [1, 3, 10, 11, 12, 13])⟩]
abbrev k54_o6 : List AJ := [.o ⟨(some 14), none, false, .idxA 1 (.t 10) (.t 12), none⟩, .o ⟨(some 15), none, false, .load 1 false (.t 14), none⟩, .o ⟨(some 5), none, false, .mv (.t 15), (some [1, 3, 5, 10, 11, 12])⟩]
abbrev k54_o7 : List AJ := [.o ⟨(some 16), none, false, .mv (.t 3), none⟩, .o ⟨(some 17), none, false, .fieldA 0 (.t 1), none⟩, .o ⟨(some 18), none, false, .load 1 false (.t 17), none⟩, .o ⟨(some 19), none, false, .mv (.t 5), none⟩, .o ⟨(some 20), none, false, .idxA 1 (.t 18) (.t 19), none⟩, .o ⟨(some 21), none, false, .load 1 false (.t 20), none⟩, .o ⟨(some 22), none, false, .call 33 [(.t 21)], none⟩, .o ⟨(some 23), none, false, .bsl false 1 [(.t 22)], none⟩, .o ⟨(some 24), none, false, .append 1 16 (.t 16) (.t 23), none⟩, .o ⟨(some 3), none, false, .mv (.t 24), (some [1, 3, 10, 11, 12])⟩]
def k54_11 : ACode := .region k54_o7
def k54_12 : ACode := .seq (.region k54_o6) k54_11
abbrev k54_o8 : List AJ := [.o ⟨(some 25), none, true, .bin .add (.t 12) (.c (.int .i64 1)), none⟩, .o ⟨(some 12), none, false, .mv (.t 25), (some [1, 3, 10, 11, 12])⟩]
def k54_14 : ACode := .region k54_o8
def k54_15 : ACode := .seq (.block 1 k54_12) k54_14
def k54_16 : ACode := .seq (.cond (.t 13) .skip (.exit 0)) k54_15
def k54_17 : ACode := .seq (.region k54_o5) k54_16
def k54_18 : ACode := .loop k54_17
def k54_19 : ACode := .block 0 k54_18
def k54_20 : ACode := .seq (.region k54_o4) k54_19
abbrev k54_o9 : List AJ := [.o ⟨(some 26), none, false, .mv (.t 3), none⟩, .o ⟨(some 27), none, false, .len (.t 26), none⟩, .o ⟨(some 28), none, false, .bin .eql (.t 27) (.c (.int .i64 0)), (some [3, 28])⟩]
abbrev k54_o10 : List AJ := [.o ⟨(some 2), none, false, .mv (.c (.str [45])), (some [2])⟩]
def k54_23 : ACode := .seq (.region k54_o10) .ret
def k54_24 : ACode := .cond (.t 28) k54_23 .skip
def k54_25 : ACode := .seq (.region k54_o9) k54_24
abbrev k54_o11 : List AJ := [.o ⟨(some 29), none, false, .mv (.t 3), none⟩, .o ⟨(some 30), none, false, .call 34 [(.t 29), (.c (.str [47]))], none⟩, .o ⟨(some 2), none, false, .mv (.t 30), (some [2])⟩]
def k54_27 : ACode := .seq (.region k54_o11) .ret
def k54_28 : ACode := .seq k54_25 k54_27
def k54_29 : ACode := .seq k54_20 k54_28
def k54_30 : ACode := .seq (.region k54_o3) k54_29
def k54_31 : ACode := .seq k54_5 k54_30
def k54_32 : ACode := .seq (.region k54_o0) k54_31
@[simp, simp ↓] theorem k54_3r : sR k54_3 k54_o2 .ret := yR rfl
@[simp, simp ↓] theorem k54_4r : rC k54_4 (.t 8) k54_3 .skip := zC rfl
@[simp, simp ↓] theorem k54_5r : sR k54_5 k54_o1 k54_4 := yR rfl
@[simp, simp ↓] theorem k54_11r : rR k54_11 k54_o7 := zR rfl
@[simp, simp ↓] theorem k54_12r : sR k54_12 k54_o6 k54_11 := yR rfl
@[simp, simp ↓] theorem k54_14r : rR k54_14 k54_o8 := zR rfl
@[simp, simp ↓] theorem k54_15r : sB k54_15 1 k54_12 k54_14 := yB rfl
@[simp, simp ↓] theorem k54_16r : sC k54_16 (.t 13) .skip (.exit 0) k54_15 := yC rfl
@[simp, simp ↓] theorem k54_17r : sR k54_17 k54_o5 k54_16 := yR rfl
@[simp, simp ↓] theorem k54_18r : rL k54_18 k54_17 := zL rfl
@[simp, simp ↓] theorem k54_19r : rB k54_19 0 k54_18 := zB rfl
@[simp, simp ↓] theorem k54_20r : sR k54_20 k54_o4 k54_19 := yR rfl
@[simp, simp ↓] theorem k54_23r : sR k54_23 k54_o10 .ret := yR rfl
@[simp, simp ↓] theorem k54_24r : rC k54_24 (.t 28) k54_23 .skip := zC rfl
@[simp, simp ↓] theorem k54_25r : sR k54_25 k54_o9 k54_24 := yR rfl
@[simp, simp ↓] theorem k54_27r : sR k54_27 k54_o11 .ret := yR rfl
@[simp, simp ↓] theorem k54_28r : rS k54_28 k54_25 k54_27 := zS rfl
@[simp, simp ↓] theorem k54_29r : rS k54_29 k54_20 k54_28 := zS rfl
@[simp, simp ↓] theorem k54_30r : sR k54_30 k54_o3 k54_29 := yR rfl
@[simp, simp ↓] theorem k54_31r : rS k54_31 k54_5 k54_30 := zS rfl
@[simp, simp ↓] theorem k54_32r : sR k54_32 k54_o0 k54_31 := yR rfl
noncomputable abbrev k54_C : Orc → Cx := mkC Tryd.prog [] 54 31 [.tmp 2]
theorem k54_of : OfP Tryd.prog Tryd.f54 54 31 k54_C k54_32 := @ofP _ _ _ _ _ _ _ _ Tryd.func54 (by decide +kernel) rfl (by kernel_rfl) rfl (by kernel_rfl)
theorem implCT_c (rs : List (List Int)) (h : Heap) (hl : ssTot rs ≤ 1048576) (hc : cxOk rs) : ACalls Tryd.prog 54 [cx rs] h (fun v h' => v = .str (cxT rs) ∧ h' = h) := by
  have hf := fit_of_tot hl
  have hn := hf.1
  have h48 := hc.2
  refine k54_of rfl orcW3_p fun I => ?_
  have hfl := fcs_len rs
  have hat := fun k (hk : k ∈ fcs rs) => fcs_at hc hk
  have hfull := cx_takeL hc (fcs rs).length (Nat.le_refl _)
  rw [List.take_length] at hfull
  unfold cxT
  refine Run2.of I 1000 ?_
  simp -implicitDefEqProofs [hl, hc]
  generalize fcs rs = F at *
  refine Run2.loopE (α := Nat × AV × Heap) (fun p => [(1, .ip [.snap 1 (rs.map il)]), (3, p.2.1), (10, .snap 1 (F.map nv)), (11, .int .i64 F.length), (12, .int .i64 (p.1 : Nat))]) (fun p => p.2.2 ++ h) (fun p => F.length - p.1) (fun p => p.1 ≤ F.length ∧ Grow 1 p.2.1 (((F.take p.1).map (fcT rs)).map sv) p.2.2) (0, .nilsl, []) (by simp) rfl ⟨Nat.zero_le _, by simpa using Grow.nil⟩ ?_
  rintro ⟨i, w, hp⟩ ⟨hi, hg⟩ ih
  simp only at hi hg
  have hcell := hg.cell
  by_cases hlt : i < F.length
  · have go := fun w' hp' (g : Grow 1 w' (((F.take i).map (fcT rs)).map sv ++ [.str (fcT rs F[i])]) hp') => ih (i + 1, w', hp') ⟨hlt, by
      show Grow 1 w' (((F.take (i + 1)).map (fcT rs)).map sv) hp'
      rw [List.take_succ_eq_append_getElem hlt]
      simpa only [List.map_append, List.map_cons, List.map_nil, sv_eq] using g⟩ (by omega)
    obtain ⟨hk, hfe, h4, hv⟩ := hat _ (List.getElem_mem hlt)
    have h64 : rs[F[i]].length ≤ 64 := by omega
    clear ih hat
    generalize hke : F[i] = k at *
    have hnv : ∀ n, nv n = .int .i64 n := fun _ => rfl
    rw [hfe] at go
    generalize hre : rs[k] = r at *
    refine Run2.of I 1000 ?_
    simp -implicitDefEqProofs [hlt, hcell, hke, hnv, hk, hre, h64]
    refine ⟨hv, ?_⟩
    refine hg.app (by simp; omega) (by simp) fun w2 hp2 hg2 => ?_
    have hcell2 := hg2.cell
    have := go w2 hp2 hg2
    simp -implicitDefEqProofs [hcell2]
    exact ⟨by omega, by simpa using this⟩
  · obtain rfl : i = F.length := by omega
    rw [List.take_length] at hg
    clear ih
    by_cases h0 : F = []
    · rw [if_pos h0]
      subst h0
      have hlw : lenR w = .val (.int .i64 0) := by simpa using (hg.own).len
      refine Run2.of I 1000 ?_
      simp -implicitDefEqProofs [hcell, hlw]
      exact Post.dropAll rfl (.base ⟨rfl, rfl⟩)
    · rw [if_neg h0]
      have hlw : lenR w = .val (.int .i64 F.length) := by simpa using (hg.own).len
      have hF0 : ¬ (F.length : Int) = 0 := by
        have : F.length ≠ 0 := fun e => h0 (List.length_eq_zero_iff.1 e)
        omega
      refine Run2.of I 1000 ?_
      simp -implicitDefEqProofs [hcell, hlw, hlt, hF0, h0]
      refine (join_g hg [47] h (by simp; omega) (by omega)).mono ?_
      rintro v2 h2 ⟨e1, e2⟩
      rw [e1, e2]
      refine gK.go ?_
      simp -implicitDefEqProofs
      exact Post.dropAll rfl (.base ⟨rfl, rfl⟩)
noncomputable def orcW4 : List (Nat × (List AV → Option (Prop × AV))) := (100, o_l05Facets) :: (57, o_l01List) :: []
theorem orcW4_p : Pure Tryd.prog (lk orcW4) := (lk_pure o_l05Facets_k (lk_pure o_l01List_k lk_pure0))
@[simp] theorem orcW4_l (b : Bool) (g : FuncId) (l : List AV) : lk orcW4 b g l = if g = 100 then o_l05Facets l else if g = 57 then o_l01List l else none := nr rfl
abbrev k83_o0 : List AJ := [.o ⟨(some 2), none, false, .mv (.c (.str [])), (some [0])⟩]
abbrev k83_o1 : List AJ := [.o ⟨(some 6), none, false, .mv (.t 0), none⟩, .o ⟨(some 7), none, false, .call 100 [(.t 6)], none⟩, .o ⟨(some 3), none, false, .mv (.t 7), (some [0, 3])⟩]
abbrev k83_o2 : List AJ := [.o ⟨(some 4), none, false, .mv (.c (.str [])), (some [0, 3, 4])⟩]
abbrev k83_o3 : List AJ := [.o ⟨(some 5), none, false, .mv (.c (.int .i64 0)), (some [0, 3, 4, 5])⟩]
abbrev k83_o4 : List AJ := [.o ⟨(some 8), none, false, .mv (.t 5), none⟩, .o ⟨(some 9), none, false, .mv (.t 3), none⟩, .o ⟨(some 10), none, false, .len (.t 9), none⟩, .o ⟨(some 11), none, false, .bin .lss (.t 8) (.t 10), (some [0, 3, 4, 5, 11])⟩]
def k83_5 : ACode := .cond (.t 11) .skip (.exit 0)
def k83_6 : ACode := .seq (.region k83_o4) k83_5
abbrev k83_o5 : List AJ := [.o ⟨(some 14), none, false, .mv (.t 5), none⟩, .o ⟨(some 15), none, false, .bin .gtr (.t 14) (.c (.int .i64 0)), (some [0, 3, 4, 5, 15])⟩]
abbrev k83_o6 : List AJ := [.o ⟨(some 16), none, false, .mv (.t 4), none⟩, .o ⟨(some 17), none, true, .bin .add (.t 16) (.c (.str [47])), none⟩, .o ⟨(some 4), none, false, .mv (.t 17), (some [0, 3, 4, 5])⟩]
def k83_8 : ACode := .region k83_o6
def k83_9 : ACode := .cond (.t 15) k83_8 .skip
def k83_10 : ACode := .seq (.region k83_o5) k83_9
abbrev k83_o7 : List AI := [⟨(some 18), none, false, .mv (.t 4), none⟩, ⟨(some 19), none, false, .mv (.t 0), none⟩, ⟨(some 20), none, false, .nilchk (.t 19), none⟩, ⟨(some 21), none, false, .fieldA 0 (.t 20), none⟩, ⟨(some 22), none, false, .load 1 false (.t 21), none⟩, ⟨(some 23), none, false, .mv (.t 3), none⟩, ⟨(some 24), none, false, .mv (.t 5), none⟩, ⟨(some 25), none, false, .idxA 1 (.t 23) (.t 24), none⟩, ⟨(some 26), none, false, .load 1 false (.t 25), none⟩, ⟨(some 27), none, false, .idxA 1 (.t 22) (.t 26), none⟩, ⟨(some 28), none, false, .load 1 false (.t 27), none⟩, ⟨(some 29), none, false, .call 57 [(.t 28)], none⟩, ⟨(some 30), none, true, .bin .add (.t 18) (.t 29), none⟩, ⟨(some 4), none, false, .mv (.t 30), (some [0, 3, 4, 5])⟩]
def k83_11 : ACode := .draw k83_o7 [] rfl
def k83_12 : ACode := .seq k83_10 k83_11
abbrev k83_o8 : List AJ := [.o ⟨(some 12), none, false, .mv (.t 5), none⟩, .o ⟨(some 13), none, true, .bin .add (.t 12) (.c (.int .i64 1)), none⟩, .o ⟨(some 5), none, false, .mv (.t 13), (some [0, 3, 4, 5])⟩]
def k83_14 : ACode := .region k83_o8
def k83_15 : ACode := .seq (.block 1 k83_12) k83_14
def k83_16 : ACode := .seq k83_6 k83_15
def k83_17 : ACode := .loop k83_16
def k83_18 : ACode := .block 0 k83_17
def k83_19 : ACode := .seq (.region k83_o3) k83_18
abbrev k83_o9 : List AJ := [.o ⟨(some 31), none, false, .mv (.t 4), none⟩, .o ⟨(some 32), none, false, .bin .eql (.t 31) (.c (.str [])), (some [4, 32])⟩]
abbrev k83_o10 : List AJ := [.o ⟨(some 2), none, false, .mv (.c (.str [45])), (some [2])⟩]
def k83_22 : ACode := .seq (.region k83_o10) .ret
def k83_23 : ACode := .cond (.t 32) k83_22 .skip
def k83_24 : ACode := .seq (.region k83_o9) k83_23
abbrev k83_o11 : List AJ := [.o ⟨(some 33), none, false, .mv (.t 4), none⟩, .o ⟨(some 2), none, false, .mv (.t 33), (some [2])⟩]
def k83_26 : ACode := .seq (.region k83_o11) .ret
def k83_27 : ACode := .seq k83_24 k83_26
def k83_28 : ACode := .seq k83_19 k83_27
def k83_29 : ACode := .seq (.region k83_o2) k83_28
def k83_30 : ACode := .seq (.region k83_o1) k83_29
def k83_31 : ACode := .seq (.region k83_o0) k83_30
@[simp, simp ↓] theorem k83_5r : rC k83_5 (.t 11) .skip (.exit 0) := zC rfl
@[simp, simp ↓] theorem k83_6r : sR k83_6 k83_o4 k83_5 := yR rfl
@[simp, simp ↓] theorem k83_8r : rR k83_8 k83_o6 := zR rfl
@[simp, simp ↓] theorem k83_9r : rC k83_9 (.t 15) k83_8 .skip := zC rfl
@[simp, simp ↓] theorem k83_10r : sR k83_10 k83_o5 k83_9 := yR rfl
@[simp, simp ↓] theorem k83_11r : rD k83_11 k83_o7 [] := zD rfl
@[simp, simp ↓] theorem k83_12r : rS k83_12 k83_10 k83_11 := zS rfl
@[simp, simp ↓] theorem k83_14r : rR k83_14 k83_o8 := zR rfl
@[simp, simp ↓] theorem k83_15r : sB k83_15 1 k83_12 k83_14 := yB rfl
@[simp, simp ↓] theorem k83_16r : rS k83_16 k83_6 k83_15 := zS rfl
@[simp, simp ↓] theorem k83_17r : rL k83_17 k83_16 := zL rfl
@[simp, simp ↓] theorem k83_18r : rB k83_18 0 k83_17 := zB rfl
@[simp, simp ↓] theorem k83_19r : sR k83_19 k83_o3 k83_18 := yR rfl
@[simp, simp ↓] theorem k83_22r : sR k83_22 k83_o10 .ret := yR rfl
@[simp, simp ↓] theorem k83_23r : rC k83_23 (.t 32) k83_22 .skip := zC rfl
@[simp, simp ↓] theorem k83_24r : sR k83_24 k83_o9 k83_23 := yR rfl
@[simp, simp ↓] theorem k83_26r : sR k83_26 k83_o11 .ret := yR rfl
@[simp, simp ↓] theorem k83_27r : rS k83_27 k83_24 k83_26 := zS rfl
@[simp, simp ↓] theorem k83_28r : rS k83_28 k83_19 k83_27 := zS rfl
@[simp, simp ↓] theorem k83_29r : sR k83_29 k83_o2 k83_28 := yR rfl
@[simp, simp ↓] theorem k83_30r : sR k83_30 k83_o1 k83_29 := yR rfl
@[simp, simp ↓] theorem k83_31r : sR k83_31 k83_o0 k83_30 := yR rfl
noncomputable abbrev k83_C : Orc → Cx := mkC Tryd.prog [] 83 34 [.tmp 2]
theorem k83_of0 : OfP0 Tryd.prog Tryd.f83 83 34 k83_C k83_31 := @ofP0 _ _ _ _ _ _ _ _ Tryd.func83 (by decide +kernel) rfl (by kernel_rfl) rfl (by kernel_rfl)
theorem l05Text_c (rs : List (List Int)) (e : List AV) (h : Heap) (hl : ssTot rs ≤ 1048576) (hc : cxOk rs) : ACalls Tryd.prog 83 [.ip (.snap 1 (rs.map il) :: e)] h (fun v h' => v = .str (cxT rs) ∧ h' = h) := by
  have hf := fit_of_tot hl
  have hn := hf.1
  have h48 := hc.2
  refine k83_of0 rfl orcW4_p fun I => ?_
  have hfl := fcs_len rs
  have hat := fun k (hk : k ∈ fcs rs) => fcs_at hc hk
  have htk := fun i hi => cx_takeL hc i hi
  have hfn : fcs rs ≠ [] → Lib.join ((fcs rs).map (fcT rs)) [47] ≠ [] := fun h => join_ne _ _ (by simpa using h) fun x hx => by
    obtain ⟨k, _, rfl⟩ := List.mem_map.1 hx
    exact lstT_ne _
  unfold cxT
  refine Run2.of I 1000 ?_
  simp -implicitDefEqProofs [hl]
  generalize fcs rs = F at *
  refine Run2.loopE (fun (i : Nat) => [(0, .ip (.snap 1 (rs.map il) :: e)), (3, .snap 1 (F.map nv)), (4, .str (Lib.join ((F.take i).map (fcT rs)) [47])), (5, .int .i64 i)]) (fun _ => h) (fun i => F.length - i) (fun i => i ≤ F.length) 0 (by simp [join_none']) rfl (Nat.zero_le _) fun i hi ih => ?_
  by_cases hlt : i < F.length
  · have go := ih (i + 1) hlt (by omega)
    rw [join_take _ _ hlt] at go
    obtain ⟨hk, hfe, h4, hv⟩ := hat _ (List.getElem_mem hlt)
    have hlen := htk i hi
    have hlr : rs[F[i]].length ≤ 1048576 := by omega
    have hvi : ∀ n ∈ rs[F[i]], in64 n := fun n hn => valI_in (hv n hn)
    have htl := lstT_len hvi
    clear ih hat htk hfn
    rw [hfe] at go
    generalize hke : F[i] = k at *
    have hnv : ∀ n, nv n = .int .i64 n := fun _ => rfl
    by_cases hi0 : i = 0
    · subst hi0
      rw [if_pos rfl] at go
      generalize hre : rs[k] = r at *
      refine Run2.of I 1000 ?_
      simp -implicitDefEqProofs [hlt, hke, hnv, hk, hre, hlr, join_none']
      repeat (first | refine ⟨by omega, ?_⟩ | refine ⟨hvi, ?_⟩)
      simpa using go
    · rw [if_neg hi0] at go
      generalize Lib.join ((F.take i).map (fcT rs)) [47] = S at *
      have hip : 0 < i := by omega
      generalize hre : rs[k] = r at *
      refine Run2.of I 1000 ?_
      simp -implicitDefEqProofs [hlt, hke, hnv, hk, hre, hlr, hip]
      repeat (first | refine ⟨by omega, ?_⟩ | refine ⟨hvi, ?_⟩)
      simpa using go
  · obtain rfl : i = F.length := by omega
    rw [List.take_length]
    clear ih hat htk
    by_cases h0 : F = []
    · rw [if_pos h0]
      subst h0
      refine Run2.of I 1000 ?_
      simp -implicitDefEqProofs [join_none']
    · rw [if_neg h0]
      have := hfn h0
      generalize Lib.join (F.map (fcT rs)) [47] = S at *
      refine Run2.of I 1000 ?_
      simp -implicitDefEqProofs [hlt, this]
/-! ## Filtrations -/
noncomputable def Fil.txt (x : Fil) : List UInt8 := if x.valid then cxT x.rs ++ (59 :: lstT x.ts) else []
noncomputable def o_ComplexText : List AV → Option (Prop × AV) := tab (fun (x : LS) => match x with | rs => [.agg [.snap 1 (rs.map il)]]) (fun x => match x with | rs => (ssTot rs ≤ 1048576 ∧ cxOk rs)) (fun x => match x with | rs => .str (cxT rs))
@[simp] theorem o_ComplexText_e (rs : LS) : o_ComplexText [.agg [.snap 1 (rs.map il)]] = some ((ssTot rs ≤ 1048576 ∧ cxOk rs), .str (cxT rs)) := tab_at (enc := fun (x : LS) => match x with | rs => [.agg [.snap 1 (rs.map il)]]) (fun x y h => by
  simp at h; simp [h] <;> omega) _ _ rs
theorem o_ComplexText_k : Knows Tryd.prog 54 o_ComplexText := tab_knows fun x hx h => by
  exact implCT_c x h hx.1 hx.2
noncomputable def o_l05Text : List AV → Option (Prop × AV) := tab (fun (x : LS × List AV) => match x with | (rs, e) => [.ip (.snap 1 (rs.map il) :: e)]) (fun x => match x with | (rs, e) => (ssTot rs ≤ 1048576 ∧ cxOk rs)) (fun x => match x with | (rs, e) => .str (cxT rs))
@[simp] theorem o_l05Text_e (rs : LS) (e : List AV) : o_l05Text [.ip (.snap 1 (rs.map il) :: e)] = some ((ssTot rs ≤ 1048576 ∧ cxOk rs), .str (cxT rs)) := tab_at (enc := fun (x : LS × List AV) => match x with | (rs, e) => [.ip (.snap 1 (rs.map il) :: e)]) (fun x y h => by
  obtain ⟨rs1, e1⟩ := x; obtain ⟨rs2, e2⟩ := y; simp at h; simp [h] <;> omega) _ _ (rs, e)
theorem o_l05Text_k : Knows Tryd.prog 83 o_l05Text := tab_knows fun x hx h => by
  obtain ⟨rs, e⟩ := x; exact l05Text_c rs e h hx.1 hx.2
theorem Fil.ts_val {x : Fil} (h : x.valid) : x.ts.length ≤ 48 ∧ ∀ n ∈ x.ts, valI n := ⟨by rw [h.2.1.1]; exact h.1.2, fun n hn => by have := h.2.1.2 n hn; unfold valI; omega⟩
noncomputable def orcW5 : List (Nat × (List AV → Option (Prop × AV))) := (53, o_validFil) :: (54, o_ComplexText) :: (33, o_ListText) :: []
theorem orcW5_p : Pure Tryd.prog (lk orcW5) := (lk_pure o_validFil_k (lk_pure o_ComplexText_k (lk_pure o_ListText_k lk_pure0)))
@[simp] theorem orcW5_l (b : Bool) (g : FuncId) (l : List AV) : lk orcW5 b g l = if g = 53 then o_validFil l else if g = 54 then o_ComplexText l else if g = 33 then o_ListText l else none := nr rfl
abbrev k25_o0 : List AJ := [.o ⟨(some 1), none, false, .box false 2 (.t 0), none⟩, .o ⟨(some 2), none, false, .mv (.c (.str [])), (some [1])⟩]
abbrev k25_o1 : List AJ := [.o ⟨(some 3), none, false, .load 2 true (.t 1), none⟩, .o ⟨(some 4), none, false, .call 53 [(.t 3)], none⟩, .o ⟨(some 5), none, false, .un .not (.t 4), (some [1, 5])⟩]
abbrev k25_o2 : List AJ := [.o ⟨(some 2), none, false, .mv (.c (.str [])), (some [2])⟩]
def k25_3 : ACode := .seq (.region k25_o2) .ret
def k25_4 : ACode := .cond (.t 5) k25_3 .skip
def k25_5 : ACode := .seq (.region k25_o1) k25_4
abbrev k25_o3 : List AI := [⟨(some 6), none, false, .fieldA 0 (.t 1), none⟩, ⟨(some 7), none, false, .load 1 true (.t 6), none⟩, ⟨(some 8), none, false, .call 54 [(.t 7)], none⟩, ⟨(some 9), none, true, .bin .add (.t 8) (.c (.str [59])), none⟩, ⟨(some 10), none, false, .fieldA 1 (.t 1), none⟩, ⟨(some 11), none, false, .load 1 false (.t 10), none⟩, ⟨(some 12), none, false, .call 33 [(.t 11)], none⟩, ⟨(some 13), none, true, .bin .add (.t 9) (.t 12), none⟩, ⟨(some 2), none, false, .mv (.t 13), (some [2])⟩]
def k25_7 : ACode := .seq (.draw k25_o3 [] rfl) .ret
def k25_8 : ACode := .seq k25_5 k25_7
def k25_9 : ACode := .seq (.region k25_o0) k25_8
@[simp, simp ↓] theorem k25_3r : sR k25_3 k25_o2 .ret := yR rfl
@[simp, simp ↓] theorem k25_4r : rC k25_4 (.t 5) k25_3 .skip := zC rfl
@[simp, simp ↓] theorem k25_5r : sR k25_5 k25_o1 k25_4 := yR rfl
@[simp, simp ↓] theorem k25_7r : sD k25_7 k25_o3 [] .ret := yD rfl
@[simp, simp ↓] theorem k25_8r : rS k25_8 k25_5 k25_7 := zS rfl
@[simp, simp ↓] theorem k25_9r : sR k25_9 k25_o0 k25_8 := yR rfl
noncomputable abbrev k25_C : Orc → Cx := mkC Tryd.prog [] 25 14 [.tmp 2]
theorem k25_of0 : OfP0 Tryd.prog Tryd.f25 25 14 k25_C k25_9 := @ofP0 _ _ _ _ _ _ _ _ Tryd.func25 (by decide +kernel) rfl (by kernel_rfl) rfl (by kernel_rfl)
theorem implFT_c (x : Fil) (h : Heap) (hl : x.tot ≤ 1048576) : ACalls Tryd.prog 25 [x.av] h (fun v h' => v = .str x.txt ∧ h' = h) := by
  obtain ⟨hl1, hl2⟩ := x.lens hl
  refine k25_of0 rfl orcW5_p fun I => ?_
  unfold Fil.txt
  by_cases hv : x.valid
  · rw [if_pos hv]
    have hc := hv.1
    obtain ⟨h48, hvs⟩ := Fil.ts_val hv
    have h64 : x.ts.length ≤ 64 := by omega
    have e1 := cxT_len hc
    have e2 := lstT_len fun n hn => valI_in (hvs n hn)
    refine Run2.of I 1000 ?_
    simp -implicitDefEqProofs [hl, hl1, hv, hc, h64]
    exact ⟨by omega, hvs, by omega⟩
  · rw [if_neg hv]
    refine Run2.of I 1000 ?_
    simp -implicitDefEqProofs [hl, hv]
noncomputable def orcW6 : List (Nat × (List AV → Option (Prop × AV))) := (83, o_l05Text) :: (57, o_l01List) :: []
theorem orcW6_p : Pure Tryd.prog (lk orcW6) := (lk_pure o_l05Text_k (lk_pure o_l01List_k lk_pure0))
@[simp] theorem orcW6_l (b : Bool) (g : FuncId) (l : List AV) : lk orcW6 b g l = if g = 83 then o_l05Text l else if g = 57 then o_l01List l else none := nr rfl
abbrev k51_o0 : List AJ := [.o ⟨(some 2), none, false, .mv (.c (.str [])), (some [0])⟩]
abbrev k51_o1 : List AI := [⟨(some 3), none, false, .mv (.t 0), none⟩, ⟨(some 4), none, false, .nilchk (.t 3), none⟩, ⟨(some 5), none, false, .fieldA 0 (.t 4), none⟩, ⟨(some 6), none, false, .call 83 [(.t 5)], none⟩, ⟨(some 7), none, true, .bin .add (.t 6) (.c (.str [59])), none⟩, ⟨(some 8), none, false, .mv (.t 0), none⟩, ⟨(some 9), none, false, .nilchk (.t 8), none⟩, ⟨(some 10), none, false, .fieldA 1 (.t 9), none⟩, ⟨(some 11), none, false, .load 1 false (.t 10), none⟩, ⟨(some 12), none, false, .call 57 [(.t 11)], none⟩, ⟨(some 13), none, true, .bin .add (.t 7) (.t 12), none⟩, ⟨(some 2), none, false, .mv (.t 13), (some [2])⟩]
def k51_2 : ACode := .seq (.draw k51_o1 [] rfl) .ret
def k51_3 : ACode := .seq (.region k51_o0) k51_2
@[simp, simp ↓] theorem k51_2r : sD k51_2 k51_o1 [] .ret := yD rfl
@[simp, simp ↓] theorem k51_3r : sR k51_3 k51_o0 k51_2 := yR rfl
noncomputable abbrev k51_C : Orc → Cx := mkC Tryd.prog [] 51 14 [.tmp 2]
theorem k51_of0 : OfP0 Tryd.prog Tryd.f51 51 14 k51_C k51_3 := @ofP0 _ _ _ _ _ _ _ _ Tryd.func51 (by decide +kernel) rfl (by kernel_rfl) rfl (by kernel_rfl)
theorem l22Text_c (x : Fil) (h : Heap) (hl : x.tot ≤ 1048576) (hv : x.valid) : ACalls Tryd.prog 51 [.ip [.snap 1 (x.rs.map il), .snap 1 (x.ts.map iv)]] h (fun v h' => v = .str (cxT x.rs ++ (59 :: lstT x.ts)) ∧ h' = h) := by
  obtain ⟨hl1, hl2⟩ := x.lens hl
  have hc := hv.1
  obtain ⟨h48, hvs⟩ := Fil.ts_val hv
  have hvi : ∀ n ∈ x.ts, in64 n := fun n hn => valI_in (hvs n hn)
  have e1 := cxT_len hc
  have e2 := lstT_len hvi
  refine k51_of0 rfl orcW6_p fun I => ?_
  refine Run2.of I 1000 ?_
  simp -implicitDefEqProofs [hl1, hl2, hc]
  exact ⟨by omega, hvi, by omega⟩
noncomputable def o_l22Text : List AV → Option (Prop × AV) := tab (fun (x : LS × List Int) => match x with | (rs, ts) => [.ip [.snap 1 (rs.map il), .snap 1 (ts.map iv)]]) (fun x => match x with | (rs, ts) => ((⟨rs, ts⟩ : Fil).tot ≤ 1048576 ∧ (⟨rs, ts⟩ : Fil).valid)) (fun x => match x with | (rs, ts) => .str (cxT rs ++ (59 :: lstT ts)))
@[simp] theorem o_l22Text_e (rs : LS) (ts : List Int) : o_l22Text [.ip [.snap 1 (rs.map il), .snap 1 (ts.map iv)]] = some (((⟨rs, ts⟩ : Fil).tot ≤ 1048576 ∧ (⟨rs, ts⟩ : Fil).valid), .str (cxT rs ++ (59 :: lstT ts))) := tab_at (enc := fun (x : LS × List Int) => match x with | (rs, ts) => [.ip [.snap 1 (rs.map il), .snap 1 (ts.map iv)]]) (fun x y h => by
  obtain ⟨rs1, ts1⟩ := x; obtain ⟨rs2, ts2⟩ := y; simp at h; simp [h] <;> omega) _ _ (rs, ts)
theorem o_l22Text_k : Knows Tryd.prog 51 o_l22Text := tab_knows fun x hx h => by
  obtain ⟨rs, ts⟩ := x; exact l22Text_c ⟨rs, ts⟩ h hx.1 hx.2
noncomputable def orcW7 : List (Nat × (List AV → Option (Prop × AV))) := (50, o_l21Ok) :: (51, o_l22Text) :: []
theorem orcW7_p : Pure Tryd.prog (lk orcW7) := (lk_pure o_l21Ok_k (lk_pure o_l22Text_k lk_pure0))
@[simp] theorem orcW7_l (b : Bool) (g : FuncId) (l : List AV) : lk orcW7 b g l = if g = 50 then o_l21Ok l else if g = 51 then o_l22Text l else none := nr rfl
abbrev k23_o0 : List AJ := [.o ⟨(some 1), none, false, .box false 2 (.t 0), none⟩, .o ⟨(some 2), none, false, .mv (.c (.str [])), (some [1])⟩]
abbrev k23_o1 : List AJ := [.o ⟨(some 3), none, false, .call 50 [(.t 1)], none⟩, .o ⟨(some 4), none, false, .un .not (.t 3), (some [1, 4])⟩]
abbrev k23_o2 : List AJ := [.o ⟨(some 2), none, false, .mv (.c (.str [])), (some [2])⟩]
def k23_3 : ACode := .seq (.region k23_o2) .ret
def k23_4 : ACode := .cond (.t 4) k23_3 .skip
def k23_5 : ACode := .seq (.region k23_o1) k23_4
abbrev k23_o3 : List AJ := [.o ⟨(some 5), none, false, .call 51 [(.t 1)], none⟩, .o ⟨(some 2), none, false, .mv (.t 5), (some [2])⟩]
def k23_7 : ACode := .seq (.region k23_o3) .ret
def k23_8 : ACode := .seq k23_5 k23_7
def k23_9 : ACode := .seq (.region k23_o0) k23_8
@[simp, simp ↓] theorem k23_3r : sR k23_3 k23_o2 .ret := yR rfl
@[simp, simp ↓] theorem k23_4r : rC k23_4 (.t 4) k23_3 .skip := zC rfl
@[simp, simp ↓] theorem k23_5r : sR k23_5 k23_o1 k23_4 := yR rfl
@[simp, simp ↓] theorem k23_7r : sR k23_7 k23_o3 .ret := yR rfl
@[simp, simp ↓] theorem k23_8r : rS k23_8 k23_5 k23_7 := zS rfl
@[simp, simp ↓] theorem k23_9r : sR k23_9 k23_o0 k23_8 := yR rfl
noncomputable abbrev k23_C : Orc → Cx := mkC Tryd.prog [] 23 6 [.tmp 2]
theorem k23_of0 : OfP0 Tryd.prog Tryd.f23 23 6 k23_C k23_9 := @ofP0 _ _ _ _ _ _ _ _ Tryd.func23 (by decide +kernel) rfl (by kernel_rfl) rfl (by kernel_rfl)
theorem specFT_c (x : Fil) (h : Heap) (hl : x.tot ≤ 1048576) : ACalls Tryd.prog 23 [x.av] h (fun v h' => v = .str x.txt ∧ h' = h) := by
  refine k23_of0 rfl orcW7_p fun I => ?_
  unfold Fil.txt
  by_cases hv : x.valid
  · rw [if_pos hv]
    refine Run2.of I 1000 ?_
    simp -implicitDefEqProofs [hl, hv]
  · rw [if_neg hv]
    refine Run2.of I 1000 ?_
    simp -implicitDefEqProofs [hl, hv]
end Go.AG
