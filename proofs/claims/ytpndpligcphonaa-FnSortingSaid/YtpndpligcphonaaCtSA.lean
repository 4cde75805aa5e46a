/- Do rounds sort all values: what the program's and the reference's functions give. No statement is made here. -/
import Derived.Test.YtpndpligcphonaaCtEx
namespace Go.AG
open Go.Proofs Go.Proofs.Ytpndpligcphonaa
set_option linter.unusedSimpArgs false
set_option linter.unusedVariables false
set_option maxRecDepth 4000
def sortedP (l : List Int) : Prop := ∀ j (h : j + 1 < l.length), l[j] ≤ l[j + 1]
noncomputable instance (l : List Int) : Decidable (sortedP l) := Classical.propDecidable _
abbrev k36_o0 : List AJ := [.o ⟨(some 4), none, false, .mv (.c (.bool false)), (some [0, 1])⟩]
abbrev k36_o1 : List AJ := [.o ⟨(some 5), none, false, .mv (.t 0), none⟩, .o ⟨(some 6), none, false, .call 51 [(.t 5)], none⟩, .o ⟨(some 7), none, false, .mv (.t 6), none⟩, .o ⟨(some 8), (some (7, true)), false, .mv (.t 1), none⟩, .o ⟨(some 9), (some (7, true)), false, .call 51 [(.t 8)], none⟩, .o ⟨(some 10), (some (7, true)), false, .un .not (.t 9), none⟩, .o ⟨(some 11), none, false, .pick (.t 7) (.t 10) (.c (.bool false)), none⟩, .o ⟨(some 12), none, false, .mv (.t 11), none⟩, .o ⟨(some 13), (some (12, false)), false, .mv (.t 0), none⟩, .o ⟨(some 14), (some (12, false)), false, .mv (.t 1), (some [12, 13, 14])⟩, .o ⟨(some 15), (some (12, false)), false, .bin .lss (.t 13) (.t 14), none⟩, .o ⟨(some 16), none, false, .pick (.t 12) (.c (.bool true)) (.t 15), none⟩, .o ⟨(some 4), none, false, .mv (.t 16), (some [4])⟩]
def k36_2 : ACode := .seq (.region k36_o1) .ret
def k36_3 : ACode := .seq (.region k36_o0) k36_2
@[simp, simp ↓] theorem k36_2r : sR k36_2 k36_o1 .ret := yR rfl
@[simp, simp ↓] theorem k36_3r : sR k36_3 k36_o0 k36_2 := yR rfl
noncomputable abbrev k36_C : Orc → Cx := mkC Try.prog [] 36 17 [.tmp 4]
theorem k36_of0 : OfP0 Try.prog Try.f36 36 17 k36_C k36_3 := @ofP0 _ _ _ _ _ _ _ _ Try.func36 (by decide +kernel) rfl (by kernel_rfl) rfl (by kernel_rfl)
theorem Less_c (a b : Int) (h : Heap) : ACalls Try.prog 36 [.int .i64 a, .int .i64 b] h (fun v h' => v = .bool (decide (a < b)) ∧ h' = h) := by
  refine k36_of0 rfl orc1_p fun I => ?_
  refine Run2.of I 1000 ?_
  simp -implicitDefEqProofs
noncomputable def o_less : List AV → Option (Prop × AV) := tab (fun (x : Int × Int) => match x with | (a, b) => [.int .i64 a, .int .i64 b]) (fun x => match x with | (a, b) => True) (fun x => match x with | (a, b) => .bool (decide (a < b)))
@[simp] theorem o_less_e (a : Int) (b : Int) : o_less [.int .i64 a, .int .i64 b] = some (True, .bool (decide (a < b))) := tab_at (enc := fun (x : Int × Int) => match x with | (a, b) => [.int .i64 a, .int .i64 b]) (fun x y h => by
  obtain ⟨a1, b1⟩ := x; obtain ⟨a2, b2⟩ := y; simp at h; simp [h] <;> omega) _ _ (a, b)
theorem o_less_k : Knows Try.prog 36 o_less := tab_knows fun x hx h => by
  obtain ⟨a, b⟩ := x; exact Less_c a b h
abbrev k21_o0 : List AJ := [.o ⟨(some 2), none, false, .mv (.c (.bool false)), (some [0])⟩]
abbrev k21_o1 : List AJ := [.o ⟨(some 4), none, false, .mv (.t 0), none⟩, .o ⟨(some 5), none, false, .len (.t 4), none⟩, .o ⟨(some 6), none, true, .bin .sub (.t 5) (.c (.int .i64 1)), none⟩, .o ⟨(some 3), none, false, .mv (.t 6), (some [0, 3])⟩]
abbrev k21_o2 : List AJ := [.o ⟨(some 7), none, false, .mv (.t 3), none⟩, .o ⟨(some 8), none, false, .bin .gtr (.t 7) (.c (.int .i64 0)), (some [0, 3, 8])⟩]
def k21_3 : ACode := .cond (.t 8) .skip (.exit 0)
def k21_4 : ACode := .seq (.region k21_o2) k21_3
abbrev k21_o3 : List AI := [⟨(some 11), none, false, .mv (.t 0), none⟩, ⟨(some 12), none, false, .mv (.t 3), none⟩, ⟨(some 13), none, false, .idxA 1 (.t 11) (.t 12), none⟩, ⟨(some 14), none, false, .load 1 false (.t 13), none⟩, ⟨(some 15), none, false, .mv (.t 0), none⟩, ⟨(some 16), none, false, .mv (.t 3), none⟩, ⟨(some 17), none, true, .bin .sub (.t 16) (.c (.int .i64 1)), none⟩, ⟨(some 18), none, false, .idxA 1 (.t 15) (.t 17), none⟩, ⟨(some 19), none, false, .load 1 false (.t 18), none⟩, ⟨(some 20), none, false, .call 36 [(.t 14), (.t 19)], (some [0, 3, 20])⟩]
abbrev k21_o4 : List AJ := [.o ⟨(some 2), none, false, .mv (.c (.bool false)), (some [2])⟩]
def k21_7 : ACode := .seq (.region k21_o4) .ret
def k21_8 : ACode := .cond (.t 20) k21_7 .skip
def k21_9 : ACode := .seq (.draw k21_o3 [] rfl) k21_8
abbrev k21_o5 : List AJ := [.o ⟨(some 9), none, false, .mv (.t 3), none⟩, .o ⟨(some 10), none, true, .bin .sub (.t 9) (.c (.int .i64 1)), none⟩, .o ⟨(some 3), none, false, .mv (.t 10), (some [0, 3])⟩]
def k21_11 : ACode := .region k21_o5
def k21_12 : ACode := .seq (.block 1 k21_9) k21_11
def k21_13 : ACode := .seq k21_4 k21_12
def k21_14 : ACode := .loop k21_13
def k21_15 : ACode := .block 0 k21_14
def k21_16 : ACode := .seq (.region k21_o1) k21_15
abbrev k21_o6 : List AJ := [.o ⟨(some 2), none, false, .mv (.c (.bool true)), (some [2])⟩]
def k21_18 : ACode := .seq (.region k21_o6) .ret
def k21_19 : ACode := .seq k21_16 k21_18
def k21_20 : ACode := .seq (.region k21_o0) k21_19
@[simp, simp ↓] theorem k21_3r : rC k21_3 (.t 8) .skip (.exit 0) := zC rfl
@[simp, simp ↓] theorem k21_4r : sR k21_4 k21_o2 k21_3 := yR rfl
@[simp, simp ↓] theorem k21_7r : sR k21_7 k21_o4 .ret := yR rfl
@[simp, simp ↓] theorem k21_8r : rC k21_8 (.t 20) k21_7 .skip := zC rfl
@[simp, simp ↓] theorem k21_9r : sD k21_9 k21_o3 [] k21_8 := yD rfl
@[simp, simp ↓] theorem k21_11r : rR k21_11 k21_o5 := zR rfl
@[simp, simp ↓] theorem k21_12r : sB k21_12 1 k21_9 k21_11 := yB rfl
@[simp, simp ↓] theorem k21_13r : rS k21_13 k21_4 k21_12 := zS rfl
@[simp, simp ↓] theorem k21_14r : rL k21_14 k21_13 := zL rfl
@[simp, simp ↓] theorem k21_15r : rB k21_15 0 k21_14 := zB rfl
@[simp, simp ↓] theorem k21_16r : sR k21_16 k21_o1 k21_15 := yR rfl
@[simp, simp ↓] theorem k21_18r : sR k21_18 k21_o6 .ret := yR rfl
@[simp, simp ↓] theorem k21_19r : rS k21_19 k21_16 k21_18 := zS rfl
@[simp, simp ↓] theorem k21_20r : sR k21_20 k21_o0 k21_19 := yR rfl
noncomputable abbrev k21_C : Orc → Cx := mkC Try.prog [] 21 21 [.tmp 2]
theorem k21_of0 : OfP0 Try.prog Try.f21 21 21 k21_C k21_20 := @ofP0 _ _ _ _ _ _ _ _ Try.func21 (by decide +kernel) rfl (by kernel_rfl) rfl (by kernel_rfl)
theorem IsSorted_s (l : List Int) (h : Heap) (hl : l.length ≤ 1048576) : ACalls Try.prog 21 [.snap 1 (l.map iv)] h (fun v h' => v = .bool (decide (sortedP l)) ∧ h' = h) := by
  refine k21_of0 rfl (lk_pure o_less_k lk_pure0) fun I => ?_
  refine Run2.of I 1000 ?_
  simp -implicitDefEqProofs
  refine ⟨by omega, ?_⟩
  by_cases h0 : l = []
  · subst h0
    refine Run2.loopE (α := Unit) (fun _ => [(0, .snap 1 []), (3, .int .i64 (-1))]) (fun _ => h) (fun _ => 0) (fun _ => True) () (by simp) rfl trivial fun _ _ _ => ?_
    refine Run2.of I 1000 ?_
    simp -implicitDefEqProofs
    intro j hj
    simp at hj
  · have hpos : 0 < l.length := List.length_pos_iff.2 h0
    refine Run2.loopE (fun (i : Nat) => [(0, .snap 1 (l.map iv)), (3, .int .i64 i)]) (fun i => h) (fun i => i) (fun i => i < l.length ∧ ∀ j (hj : j + 1 < l.length), i ≤ j → l[j] ≤ l[j + 1]) (l.length - 1) (by
      have : ((l.length - 1 : Nat) : Int) = l.length - 1 := by omega
      simp [this]) rfl ⟨by omega, fun j hj hij => by omega⟩ fun i hi ih => ?_
    cases i with
    | zero =>
      have hs : sortedP l := fun j hj => hi.2 j hj (Nat.zero_le _)
      refine Run2.of I 1000 ?_
      simp -implicitDefEqProofs
      exact hs
    | succ i =>
      have hlt : i + 1 < l.length := hi.1
      have hlt' : i < l.length := by omega
      have hc : ((i : Int) + 1 - 1).toNat = i := by omega
      have hc2 : (i : Int) + 1 - 1 = i := by omega
      have hbad : l[i + 1] < l[i] → ¬ sortedP l := fun h1 h2 => by have := h2 i hlt; omega
      have go := fun (h1 : ¬ l[i + 1] < l[i]) => ih i ⟨hlt', fun j hj hij => by
        rcases Nat.lt_or_ge i j with h | h
        · exact hi.2 j hj h
        · obtain rfl : j = i := by omega
          omega⟩ (by omega)
      clear ih
      refine Run2.of I 1000 ?_
      simp -implicitDefEqProofs [hlt, hlt', hc, hc2]
      simp at go
      repeat' (first | refine And.intro ?_ ?_ | intro _)
      all_goals first | omega | (unfold in64; omega) | exact absurd ‹sortedP l› (hbad (by omega)) | exact go (by omega)
/-- The values whose bits are those of a number. -/
def bitV (s : Int) (i : Nat) : Int := bits .and .i64 (s.fdiv (2 ^ (min i IntKind.i64.bits))) 1
def vals (n : Nat) (s : Int) : List Int := (List.range n).map (bitV s)
@[simp] theorem vals_length (n : Nat) (s : Int) : (vals n s).length = n := by simp [vals]
theorem vals_succ (n : Nat) (s : Int) : vals (n + 1) s = vals n s ++ [bitV s n] := by simp [vals, List.range_succ]
def saTo (x : Gr) (rs : List (List Int)) (times : Int) (k : Nat) : Prop := ∀ s : Nat, s < k → sortedP (runT x exch rs (vals x.n.toNat s) times.toNat)
def Gr.saOk (x : Gr) (rs : List (List Int)) (times : Int) : Prop := ((x.valid ∧ x.rsOk rs) ∧ 0 ≤ times ∧ times ≤ 100) ∧ saTo x rs times (2 ^ x.n.toNat)
noncomputable instance (x : Gr) (rs : List (List Int)) (times : Int) : Decidable (x.saOk rs times) := Classical.propDecidable _
theorem saTo_succ {x : Gr} {rs : List (List Int)} {times : Int} {k : Nat} (h : saTo x rs times k) (h1 : sortedP (runT x exch rs (vals x.n.toNat k) times.toNat)) : saTo x rs times (k + 1) := fun s hs => by
  rcases Nat.lt_or_ge s k with h2 | h2
  · exact h s h2
  · obtain rfl : s = k := by omega
    exact h1
abbrev k10_o0 : List AJ := [.o ⟨(some 3), none, false, .box false 2 (.t 0), none⟩, .o ⟨(some 6), none, false, .mv (.c (.bool false)), (some [1, 2, 3])⟩]
abbrev k10_o1 : List AJ := [.o ⟨(some 10), none, false, .load 2 true (.t 3), none⟩, .o ⟨(some 11), none, false, .mv (.t 1), none⟩, .o ⟨(some 12), none, false, .call 16 [(.t 10), (.t 11)], none⟩, .o ⟨(some 13), none, false, .bin .neq (.t 12) (.c (.int .i64 0)), none⟩, .o ⟨(some 14), none, false, .mv (.t 13), none⟩, .o ⟨(some 15), (some (14, false)), false, .mv (.t 2), none⟩, .o ⟨(some 16), (some (14, false)), false, .call 18 [(.t 15)], none⟩, .o ⟨(some 17), (some (14, false)), false, .un .not (.t 16), none⟩, .o ⟨(some 18), none, false, .pick (.t 14) (.c (.bool true)) (.t 17), (some [1, 2, 3, 18])⟩]
abbrev k10_o2 : List AJ := [.o ⟨(some 6), none, false, .mv (.c (.bool false)), (some [6])⟩]
def k10_3 : ACode := .seq (.region k10_o2) .ret
def k10_4 : ACode := .cond (.t 18) k10_3 .skip
def k10_5 : ACode := .seq (.region k10_o1) k10_4
abbrev k10_o3 : List AJ := [.o ⟨(some 19), none, false, .fieldA 0 (.t 3), none⟩, .o ⟨(some 20), none, false, .load 1 false (.t 19), none⟩, .o ⟨(some 21), none, false, .bin .shl (.c (.int .i64 1)) (.t 20), none⟩, .o ⟨(some 22), none, false, .mv (.c (.int .i64 0)), (some [1, 2, 3, 21, 22])⟩]
abbrev k10_o4 : List AJ := [.o ⟨(some 23), none, false, .bin .lss (.t 22) (.t 21), (some [1, 2, 3, 21, 22, 23])⟩]
abbrev k10_o5 : List AJ := [.o ⟨(some 24), none, false, .mv (.t 22), none⟩, .o ⟨(some 7), none, false, .mv (.t 24), (some [1, 2, 3, 7, 21, 22])⟩]
abbrev k10_o6 : List AJ := [.o ⟨(some 25), none, false, .fieldA 0 (.t 3), none⟩, .o ⟨(some 26), none, false, .load 1 false (.t 25), none⟩, .o ⟨(some 27), none, false, .mksl 1 8 (.int .i64 0) (.t 26) (.t 26), none⟩, .o ⟨(some 8), none, false, .mv (.t 27), (some [1, 2, 3, 7, 8, 21, 22])⟩]
abbrev k10_o7 : List AJ := [.o ⟨(some 28), none, false, .mv (.t 8), none⟩, .o ⟨(some 29), none, false, .len (.t 28), none⟩, .o ⟨(some 30), none, false, .mv (.c (.int .i64 0)), (some [1, 2, 3, 7, 8, 21, 22, 29, 30])⟩]
abbrev k10_o8 : List AJ := [.o ⟨(some 31), none, false, .bin .lss (.t 30) (.t 29), (some [1, 2, 3, 7, 8, 21, 22, 29, 30, 31])⟩]
abbrev k10_o9 : List AJ := [.o ⟨(some 32), none, false, .mv (.t 30), none⟩, .o ⟨(some 9), none, false, .mv (.t 32), (some [1, 2, 3, 7, 8, 9, 21, 22, 29, 30])⟩]
abbrev k10_o10 : List AJ := [.o ⟨(some 33), none, false, .mv (.t 8), none⟩, .o ⟨(some 34), none, false, .mv (.t 9), none⟩, .o ⟨(some 35), none, false, .mv (.t 7), none⟩, .o ⟨(some 36), none, false, .mv (.t 9), none⟩, .o ⟨(some 37), none, false, .bin .shr (.t 35) (.t 36), none⟩, .o ⟨(some 38), none, false, .bin .and (.t 37) (.c (.int .i64 1)), none⟩, .o ⟨(some 39), none, false, .idxA 1 (.t 33) (.t 34), none⟩, .o ⟨none, none, false, .store 1 (.t 39) (.t 38), (some [1, 2, 3, 7, 8, 21, 22, 29, 30])⟩]
def k10_15 : ACode := .region k10_o10
def k10_16 : ACode := .seq (.region k10_o9) k10_15
abbrev k10_o11 : List AJ := [.o ⟨(some 40), none, true, .bin .add (.t 30) (.c (.int .i64 1)), none⟩, .o ⟨(some 30), none, false, .mv (.t 40), (some [1, 2, 3, 7, 8, 21, 22, 29, 30])⟩]
def k10_18 : ACode := .region k10_o11
def k10_19 : ACode := .seq (.block 3 k10_16) k10_18
def k10_20 : ACode := .seq (.cond (.t 31) .skip (.exit 2)) k10_19
def k10_21 : ACode := .seq (.region k10_o8) k10_20
def k10_22 : ACode := .loop k10_21
def k10_23 : ACode := .block 2 k10_22
def k10_24 : ACode := .seq (.region k10_o7) k10_23
abbrev k10_o12 : List AJ := [.o ⟨(some 41), none, false, .load 2 true (.t 3), none⟩, .o ⟨(some 42), none, false, .mv (.t 1), none⟩, .o ⟨(some 43), none, false, .mv (.t 8), none⟩, .o ⟨(some 44), none, false, .mv (.t 2), none⟩, .o ⟨(some 45), none, false, .call 19 [(.t 41), (.t 42), (.t 43), (.t 44)], none⟩, .o ⟨(some 46), none, false, .call 21 [(.t 45)], none⟩, .o ⟨(some 47), none, false, .un .not (.t 46), (some [1, 2, 3, 21, 22, 47])⟩]
abbrev k10_o13 : List AJ := [.o ⟨(some 6), none, false, .mv (.c (.bool false)), (some [6])⟩]
def k10_27 : ACode := .seq (.region k10_o13) .ret
def k10_28 : ACode := .cond (.t 47) k10_27 .skip
def k10_29 : ACode := .seq (.region k10_o12) k10_28
def k10_30 : ACode := .seq k10_24 k10_29
def k10_31 : ACode := .seq (.region k10_o6) k10_30
def k10_32 : ACode := .seq (.region k10_o5) k10_31
abbrev k10_o14 : List AJ := [.o ⟨(some 48), none, true, .bin .add (.t 22) (.c (.int .i64 1)), none⟩, .o ⟨(some 22), none, false, .mv (.t 48), (some [1, 2, 3, 21, 22])⟩]
def k10_34 : ACode := .region k10_o14
def k10_35 : ACode := .seq (.block 1 k10_32) k10_34
def k10_36 : ACode := .seq (.cond (.t 23) .skip (.exit 0)) k10_35
def k10_37 : ACode := .seq (.region k10_o4) k10_36
def k10_38 : ACode := .loop k10_37
def k10_39 : ACode := .block 0 k10_38
def k10_40 : ACode := .seq (.region k10_o3) k10_39
abbrev k10_o15 : List AJ := [.o ⟨(some 6), none, false, .mv (.c (.bool true)), (some [6])⟩]
def k10_42 : ACode := .seq (.region k10_o15) .ret
def k10_43 : ACode := .seq k10_40 k10_42
def k10_44 : ACode := .seq k10_5 k10_43
def k10_45 : ACode := .seq (.region k10_o0) k10_44
@[simp, simp ↓] theorem k10_3r : sR k10_3 k10_o2 .ret := yR rfl
@[simp, simp ↓] theorem k10_4r : rC k10_4 (.t 18) k10_3 .skip := zC rfl
@[simp, simp ↓] theorem k10_5r : sR k10_5 k10_o1 k10_4 := yR rfl
@[simp, simp ↓] theorem k10_15r : rR k10_15 k10_o10 := zR rfl
@[simp, simp ↓] theorem k10_16r : sR k10_16 k10_o9 k10_15 := yR rfl
@[simp, simp ↓] theorem k10_18r : rR k10_18 k10_o11 := zR rfl
@[simp, simp ↓] theorem k10_19r : sB k10_19 3 k10_16 k10_18 := yB rfl
@[simp, simp ↓] theorem k10_20r : sC k10_20 (.t 31) .skip (.exit 2) k10_19 := yC rfl
@[simp, simp ↓] theorem k10_21r : sR k10_21 k10_o8 k10_20 := yR rfl
@[simp, simp ↓] theorem k10_22r : rL k10_22 k10_21 := zL rfl
@[simp, simp ↓] theorem k10_23r : rB k10_23 2 k10_22 := zB rfl
@[simp, simp ↓] theorem k10_24r : sR k10_24 k10_o7 k10_23 := yR rfl
@[simp, simp ↓] theorem k10_27r : sR k10_27 k10_o13 .ret := yR rfl
@[simp, simp ↓] theorem k10_28r : rC k10_28 (.t 47) k10_27 .skip := zC rfl
@[simp, simp ↓] theorem k10_29r : sR k10_29 k10_o12 k10_28 := yR rfl
@[simp, simp ↓] theorem k10_30r : rS k10_30 k10_24 k10_29 := zS rfl
@[simp, simp ↓] theorem k10_31r : sR k10_31 k10_o6 k10_30 := yR rfl
@[simp, simp ↓] theorem k10_32r : sR k10_32 k10_o5 k10_31 := yR rfl
@[simp, simp ↓] theorem k10_34r : rR k10_34 k10_o14 := zR rfl
@[simp, simp ↓] theorem k10_35r : sB k10_35 1 k10_32 k10_34 := yB rfl
@[simp, simp ↓] theorem k10_36r : sC k10_36 (.t 23) .skip (.exit 0) k10_35 := yC rfl
@[simp, simp ↓] theorem k10_37r : sR k10_37 k10_o4 k10_36 := yR rfl
@[simp, simp ↓] theorem k10_38r : rL k10_38 k10_37 := zL rfl
@[simp, simp ↓] theorem k10_39r : rB k10_39 0 k10_38 := zB rfl
@[simp, simp ↓] theorem k10_40r : sR k10_40 k10_o3 k10_39 := yR rfl
@[simp, simp ↓] theorem k10_42r : sR k10_42 k10_o15 .ret := yR rfl
@[simp, simp ↓] theorem k10_43r : rS k10_43 k10_40 k10_42 := zS rfl
@[simp, simp ↓] theorem k10_44r : rS k10_44 k10_5 k10_43 := zS rfl
@[simp, simp ↓] theorem k10_45r : sR k10_45 k10_o0 k10_44 := yR rfl
noncomputable abbrev k10_C : Orc → Cx := mkC Try.prog [] 10 49 [.tmp 6]
theorem k10_of : OfP Try.prog Try.f10 10 49 k10_C k10_45 := @ofP _ _ _ _ _ _ _ _ Try.func10 (by decide +kernel) rfl (by kernel_rfl) rfl (by kernel_rfl)
theorem implSA_o (x : Gr) (rs : List (List Int)) (times : Int) (hl : x.ts.length ≤ 1048576) (ok : x.ok) (hr : ssTot rs ≤ 1048576) : ACalls Try.prog 10 [x.av, .snap 1 (rs.map il), .int .i64 times] [] (fun v h' => v = .bool (decide (x.saOk rs times)) ∧ h' = []) := by
  refine k10_of rfl orcK_p fun I => ?_
  by_cases hs : x.sCode rs = 0
  · by_cases hk : 0 ≤ times ∧ times ≤ 100
    · obtain ⟨hv, hok⟩ := Gr.sCode_ok hs
      have hn1 := hv.1
      have hn2 := hv.2.1
      have hnn : ((x.n.toNat : Nat) : Int) = x.n := Int.toNat_of_nonneg (by omega)
      have hp : 2 ^ x.n.toNat ≤ 4096 := by
        have : 2 ^ x.n.toNat ≤ 2 ^ 12 := Nat.pow_le_pow_right (by omega) (by omega)
        omega
      obtain ⟨K, hK⟩ : ∃ K, 2 ^ x.n.toNat = K := ⟨_, rfl⟩
      rw [hK] at hp
      have hsh : IntKind.i64.wrap ((2 : Int) ^ (min x.n.toNat IntKind.i64.bits)) = (K : Int) := by
        rw [show IntKind.i64.bits = 64 from rfl, Nat.min_eq_left (by omega), show (2 : Int) ^ x.n.toNat = (K : Int) by rw [← hK]; simp, w64 (by omega)]
      refine Run2.of I 1000 ?_
      simp -implicitDefEqProofs [hl, ok, hr, hs, hk.1, hk.2, hsh]
      refine ⟨by omega, ?_⟩
      refine Run2.loopE (fun (i : Nat) => [(1, .snap 1 (rs.map il)), (2, .int .i64 times), (3, .ip [.int .i64 x.n, .snap 3 (x.ts.map T.av)]), (21, .int .i64 K), (22, .int .i64 i)]) (fun i => []) (fun i => K - i) (fun i => i ≤ K ∧ saTo x rs times i) 0 (by simp) rfl ⟨Nat.zero_le _, fun _ h => by omega⟩ fun i hi ih => ?_
      by_cases hlt : i < K
      · have hbad : ¬ sortedP (runT x exch rs (vals x.n.toNat i) times.toNat) → ¬ x.saOk rs times := fun h1 h2 => h1 (h2.2 i (by rw [hK]; exact hlt))
        have go := fun h1 => ih (i + 1) ⟨hlt, saTo_succ hi.2 h1⟩ (by omega)
        clear ih
        refine Run2.of I 1000 ?_
        simp -implicitDefEqProofs [hlt]
        refine ⟨by omega, by omega, fun id => ?_⟩
        refine Run2.loopE (fun (j : Nat) => [(1, .snap 1 (rs.map il)), (2, .int .i64 times), (3, .ip [.int .i64 x.n, .snap 3 (x.ts.map T.av)]), (7, .int .i64 i), (8, .sl id 1 0 x.n.toNat (some x.n.toNat)), (21, .int .i64 K), (22, .int .i64 i), (29, .int .i64 x.n.toNat), (30, .int .i64 j)]) (fun j => [(id, ⟨1, (vals j i).map iv ++ List.replicate (x.n.toNat - j) (.int .i64 0)⟩)]) (fun j => x.n.toNat - j) (fun j => j ≤ x.n.toNat) 0 (by simp) (by simp [vals]) (Nat.zero_le _) fun j hj ihj => ?_
        by_cases hlt2 : j < x.n.toNat
        · have goj := ihj (j + 1) (by omega) (by omega)
          have hset : ((vals j i).map iv ++ List.replicate (x.n.toNat - j) (AV.int .i64 0)).set j (.int .i64 (bitV i j)) = (vals (j + 1) i).map iv ++ List.replicate (x.n.toNat - (j + 1)) (.int .i64 0) := by
            rw [List.set_append_right _ _ (by simp), show x.n.toNat - j = (x.n.toNat - (j + 1)) + 1 by omega, List.replicate_succ, vals_succ, List.map_append, List.append_assoc]
            simp
          have hlen : ((vals j i).map iv ++ List.replicate (x.n.toNat - j) (AV.int .i64 0)).length = x.n.toNat := by simp; omega
          unfold bitV at hset
          clear ihj
          generalize ((vals j i).map iv ++ List.replicate (x.n.toNat - j) (AV.int .i64 0)) = L at *
          refine Run2.of I 1000 ?_
          simp -implicitDefEqProofs [hlt2, hset, hlen]
          refine ⟨fun h => ⟨by omega, ?_⟩, fun h => by exfalso; omega⟩
          simpa using goj
        · obtain rfl : j = x.n.toNat := by omega
          have o : OwnL iv 1 (.sl id 1 0 x.n.toNat (some x.n.toNat)) (vals x.n.toNat i) [(id, ⟨1, (vals x.n.toNat i).map iv⟩)] := by
            have := OwnL.sl (enc := iv) (sz := 1) (l := vals x.n.toNat i) id (some x.n.toNat) [] rfl
            simpa using this
          refine Run2.of I 1000 ?_
          simp -implicitDefEqProofs
          refine (ACalls.gives [(id, ⟨1, (vals x.n.toNat i).map iv⟩)] (fun p hp => hp) (S := fun w h' => OwnL iv 1 w (runT x exch rs (vals x.n.toNat i) times.toNat) h') ?_ (fun v h' o => o.own own_iv1)).mono ?_
          · rw [lend_cons, lend_cons, lend_cons, lend_cons, lend_nil', lend1_cold _ (x := .agg [.int .i64 x.n, .snap 3 (x.ts.map T.av)]) x.is.cold, lend1_cold _ (x := .snap 1 (rs.map il)) (by simp [cold]), lend1_cold _ (x := .int .i64 times) rfl]
            exact ACalls.wk (.cons (.refl _) (.cons (.refl _) (.cons o.lent.wk (.refl _)))) (exchanged_n x rs (vals x.n.toNat i) times hr hv hok (by simp; omega) hk)
          rintro w h'' ⟨g', o', hd, rfl⟩
          have hcell := o'.cell
          have hl' := runT_inv x exch (Inv := fun l => l.length = x.n.toNat) (fun a e _ ha => by rw [exch_length]; exact ha) (fun r hr k hk => (hok.1 r hr).2.2.1 k hk) (rs := rs) (a := vals x.n.toNat i) (by simp) times.toNat
          refine gK.go ?_
          simp -implicitDefEqProofs [hcell]
          refine (ACalls.reads g' (fun p hp => List.mem_append_left _ hp) (v0 := .bool (decide (sortedP (runT x exch rs (vals x.n.toNat i) times.toNat)))) ?_ rfl).mono ?_
          · rw [lend_cons, lend_nil']
            exact ACalls.wk (.cons o'.lent.wk .nil) (IsSorted_s _ [] (by have : (runT x exch rs (vals x.n.toNat i) times.toNat).length = x.n.toNat := hl'; omega))
          rintro v h' ⟨rfl, rfl⟩
          refine gK.go ?_
          by_cases hS : sortedP (runT x exch rs (vals x.n.toNat i) times.toNat)
          · simp -implicitDefEqProofs [hS]
            refine ⟨by omega, Run2.sub (h' := []) (by simp) (by simp [dom]) ?_⟩
            simpa using go hS
          · have hb := hbad hS
            simp -implicitDefEqProofs [hS, hb]
            exact Post.none ⟨rfl, rfl⟩
      · have hie : i = K := by omega
        subst hie
        have hall : x.saOk rs times := ⟨⟨⟨hv, hok⟩, hk⟩, by rw [hK]; exact hi.2⟩
        refine Run2.of I 1000 ?_
        simp -implicitDefEqProofs [hall]
        exact .base ⟨rfl, rfl⟩
    · have hb : ¬ x.saOk rs times := fun h => hk h.1.2
      refine Run2.of I 1000 ?_
      simp -implicitDefEqProofs [hl, ok, hr, hs, hb]
      refine ⟨fun _ => .base ⟨rfl, rfl⟩, fun h1 h2 => absurd ⟨h1, h2⟩ hk⟩
  · have hb : ¬ x.saOk rs times := fun h => hs (by
      unfold Gr.sCode
      rw [if_pos h.1.1.1, if_pos h.1.1.2])
    refine Run2.of I 1000 ?_
    simp -implicitDefEqProofs [hl, ok, hr, hs, hb]
    exact .base ⟨rfl, rfl⟩
noncomputable def orcY : List (Nat × (List AV → Option (Prop × AV))) := (39, o_l00In) :: orcS
theorem orcY_p : Pure Try.prog (lk orcY) := (lk_pure o_l00In_k orcS_p)
@[simp] theorem orcY_l (b : Bool) (g : FuncId) (l : List AV) : lk orcY b g l = if g = 39 then o_l00In l else lk orcS b g l := nr rfl
end Go.AG
