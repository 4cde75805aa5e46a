/- Stars, and a filtration with one time raised. No statement is made here. -/
import Derived.Test.YtamjnegnoijjlaaFxK
namespace Go.AG
open Go.Proofs Go.Proofs.Ytamjnegnoijjlaa
set_option linter.unusedSimpArgs false
set_option linter.unusedVariables false
set_option maxRecDepth 4000
abbrev k82_o0 : List AJ := [.o ⟨(some 4), none, false, .mv (.c (.int .i64 0)), (some [0, 1])⟩]
abbrev k82_o1 : List AJ := [.o ⟨(some 6), none, false, .mv (.t 0), none⟩, .o ⟨(some 7), none, false, .len (.t 6), none⟩, .o ⟨(some 8), none, false, .mv (.c (.int .i64 0)), (some [0, 1, 7, 8])⟩]
abbrev k82_o2 : List AJ := [.o ⟨(some 9), none, false, .bin .lss (.t 8) (.t 7), (some [0, 1, 7, 8, 9])⟩]
abbrev k82_o3 : List AJ := [.o ⟨(some 10), none, false, .mv (.t 8), none⟩, .o ⟨(some 5), none, false, .mv (.t 10), (some [0, 1, 5, 7, 8])⟩]
abbrev k82_o4 : List AJ := [.o ⟨(some 11), none, false, .mv (.t 1), none⟩, .o ⟨(some 12), none, false, .mv (.t 0), none⟩, .o ⟨(some 13), none, false, .mv (.t 5), none⟩, .o ⟨(some 14), none, false, .idxA 1 (.t 12) (.t 13), none⟩, .o ⟨(some 15), none, false, .load 1 false (.t 14), none⟩, .o ⟨(some 16), none, false, .bin .eql (.t 11) (.t 15), (some [0, 1, 5, 7, 8, 16])⟩]
abbrev k82_o5 : List AJ := [.o ⟨(some 17), none, false, .mv (.t 5), none⟩, .o ⟨(some 4), none, false, .mv (.t 17), (some [4])⟩]
def k82_7 : ACode := .seq (.region k82_o5) .ret
def k82_8 : ACode := .cond (.t 16) k82_7 .skip
def k82_9 : ACode := .seq (.region k82_o4) k82_8
def k82_10 : ACode := .seq (.region k82_o3) k82_9
abbrev k82_o6 : List AJ := [.o ⟨(some 18), none, true, .bin .add (.t 8) (.c (.int .i64 1)), none⟩, .o ⟨(some 8), none, false, .mv (.t 18), (some [0, 1, 7, 8])⟩]
def k82_12 : ACode := .region k82_o6
def k82_13 : ACode := .seq (.block 1 k82_10) k82_12
def k82_14 : ACode := .seq (.cond (.t 9) .skip (.exit 0)) k82_13
def k82_15 : ACode := .seq (.region k82_o2) k82_14
def k82_16 : ACode := .loop k82_15
def k82_17 : ACode := .block 0 k82_16
def k82_18 : ACode := .seq (.region k82_o1) k82_17
abbrev k82_o7 : List AJ := [.o ⟨(some 4), none, false, .mv (.c (.int .i64 (-1))), (some [4])⟩]
def k82_20 : ACode := .seq (.region k82_o7) .ret
def k82_21 : ACode := .seq k82_18 k82_20
def k82_22 : ACode := .seq (.region k82_o0) k82_21
@[simp, simp ↓] theorem k82_7r : sR k82_7 k82_o5 .ret := yR rfl
@[simp, simp ↓] theorem k82_8r : rC k82_8 (.t 16) k82_7 .skip := zC rfl
@[simp, simp ↓] theorem k82_9r : sR k82_9 k82_o4 k82_8 := yR rfl
@[simp, simp ↓] theorem k82_10r : sR k82_10 k82_o3 k82_9 := yR rfl
@[simp, simp ↓] theorem k82_12r : rR k82_12 k82_o6 := zR rfl
@[simp, simp ↓] theorem k82_13r : sB k82_13 1 k82_10 k82_12 := yB rfl
@[simp, simp ↓] theorem k82_14r : sC k82_14 (.t 9) .skip (.exit 0) k82_13 := yC rfl
@[simp, simp ↓] theorem k82_15r : sR k82_15 k82_o2 k82_14 := yR rfl
@[simp, simp ↓] theorem k82_16r : rL k82_16 k82_15 := zL rfl
@[simp, simp ↓] theorem k82_17r : rB k82_17 0 k82_16 := zB rfl
@[simp, simp ↓] theorem k82_18r : sR k82_18 k82_o1 k82_17 := yR rfl
@[simp, simp ↓] theorem k82_20r : sR k82_20 k82_o7 .ret := yR rfl
@[simp, simp ↓] theorem k82_21r : rS k82_21 k82_18 k82_20 := zS rfl
@[simp, simp ↓] theorem k82_22r : sR k82_22 k82_o0 k82_21 := yR rfl
noncomputable abbrev k82_C : Orc → Cx := mkC Try.prog [] 82 19 [.tmp 4]
theorem k82_of0 : OfP0 Try.prog Try.f82 82 19 k82_C k82_22 := @ofP0 _ _ _ _ _ _ _ _ Try.func82 (by decide +kernel) rfl (by kernel_rfl) rfl (by kernel_rfl)
/-- The first place of a number, or -1. -/
def ixI (l : List Int) (n : Int) : Int := idxf (fun a => decide (n = a)) l
theorem Index_s (l : List Int) (n : Int) (h : Heap) (hl : l.length ≤ 1048576) : ACalls Try.prog 82 [.snap 1 (l.map iv), .int .i64 n] h (fun v h' => v = .int .i64 (ixI l n) ∧ h' = h) := by
  unfold ixI
  refine k82_of0 rfl noPure fun I => ?_
  refine Run2.of I 1000 ?_
  simp -implicitDefEqProofs
  refine Run2.loopE (fun i => [(0, .snap 1 (l.map iv)), (1, .int .i64 n), (7, .int .i64 l.length), (8, .int .i64 (i : Nat))]) (fun i => h) (fun i => l.length - i) (fun i => i ≤ l.length ∧ ∀ j (hj : j < l.length), j < i → decide (n = l[j]) = false) 0 (by simp) rfl ⟨Nat.zero_le _, fun _ _ h => absurd h (Nat.not_lt_zero _)⟩ fun i hi ih => ?_
  by_cases hlt : i < l.length
  · have go := fun (h1 : ¬ n = l[i]) => ih (i + 1) ⟨by omega, fun j hj hji => by
      rcases Nat.lt_or_ge j i with h | h
      · exact hi.2 j hj h
      · obtain rfl : j = i := by omega
        simpa using h1⟩ (by omega)
    have hat := fun h1 : n = l[i] => idxf_at (q := fun a => decide (n = a)) hlt hi.2 (by simpa using h1)
    clear ih
    refine Run2.of I 1000 ?_
    simp -implicitDefEqProofs [hlt]
    refine ⟨fun h => (hat h).symm, fun h => ⟨by omega, ?_⟩⟩
    simpa using go h
  · obtain rfl : i = l.length := by omega
    have := idxf_none (q := fun a => decide (n = a)) (l := l) fun j hj => hi.2 j hj hj
    refine Run2.of I 1000 ?_
    simp -implicitDefEqProofs
    exact this.symm
theorem ixI_ge (l : List Int) (n : Int) : 0 ≤ ixI l n ↔ n ∈ l := by
  unfold ixI
  rw [idxf_ge]
  simp
noncomputable def o_indexI : List AV → Option (Prop × AV) := tab (fun (x : List Int × Int) => match x with | (l, n) => [.snap 1 (l.map iv), .int .i64 n]) (fun x => match x with | (l, n) => l.length ≤ 1048576) (fun x => match x with | (l, n) => .int .i64 (ixI l n))
@[simp] theorem o_indexI_e (l : List Int) (n : Int) : o_indexI [.snap 1 (l.map iv), .int .i64 n] = some (l.length ≤ 1048576, .int .i64 (ixI l n)) := tab_at (enc := fun (x : List Int × Int) => match x with | (l, n) => [.snap 1 (l.map iv), .int .i64 n]) (fun x y h => by
  obtain ⟨l1, n1⟩ := x; obtain ⟨l2, n2⟩ := y; simp at h; simp [h] <;> omega) _ _ (l, n)
theorem o_indexI_k : Knows Try.prog 82 o_indexI := tab_knows fun x hx h => by
  obtain ⟨l, n⟩ := x; exact Index_s l n h hx
noncomputable def orcR1 : List (Nat × (List AV → Option (Prop × AV))) := (82, o_indexI) :: []
theorem orcR1_p : Pure Try.prog (lk orcR1) := (lk_pure o_indexI_k lk_pure0)
@[simp] theorem orcR1_l (b : Bool) (g : FuncId) (l : List AV) : lk orcR1 b g l = if g = 82 then o_indexI l else none := nr rfl
end Go.AG
