/- Matchings of bars: the reference's search for mates. No statement is made here. -/
import Derived.Test.YtebkdegjiollbaaDsD
namespace Go.AG
open Go.Proofs Go.Proofs.Ytebkdegjiollbaa
set_option linter.unusedSimpArgs false
set_option linter.unusedVariables false
set_option maxRecDepth 4000
abbrev k67_o0 : List AJ := [.o ⟨(some 4), none, false, .mv (.c (.int .i64 0)), (some [0, 1])⟩]
abbrev k67_o1 : List AJ := [.o ⟨(some 5), none, false, .mv (.t 0), none⟩, .o ⟨(some 6), none, false, .mv (.t 1), none⟩, .o ⟨(some 7), none, false, .bin .gtr (.t 5) (.t 6), (some [0, 1, 7])⟩]
abbrev k67_o2 : List AJ := [.o ⟨(some 8), none, false, .mv (.t 0), none⟩, .o ⟨(some 4), none, false, .mv (.t 8), (some [4])⟩]
def k67_3 : ACode := .seq (.region k67_o2) .ret
def k67_4 : ACode := .cond (.t 7) k67_3 .skip
def k67_5 : ACode := .seq (.region k67_o1) k67_4
abbrev k67_o3 : List AJ := [.o ⟨(some 9), none, false, .mv (.t 1), none⟩, .o ⟨(some 4), none, false, .mv (.t 9), (some [4])⟩]
def k67_7 : ACode := .seq (.region k67_o3) .ret
def k67_8 : ACode := .seq k67_5 k67_7
def k67_9 : ACode := .seq (.region k67_o0) k67_8
@[simp, simp ↓] theorem k67_3r : sR k67_3 k67_o2 .ret := yR rfl
@[simp, simp ↓] theorem k67_4r : rC k67_4 (.t 7) k67_3 .skip := zC rfl
@[simp, simp ↓] theorem k67_5r : sR k67_5 k67_o1 k67_4 := yR rfl
@[simp, simp ↓] theorem k67_7r : sR k67_7 k67_o3 .ret := yR rfl
@[simp, simp ↓] theorem k67_8r : rS k67_8 k67_5 k67_7 := zS rfl
@[simp, simp ↓] theorem k67_9r : sR k67_9 k67_o0 k67_8 := yR rfl
noncomputable abbrev k67_C : Orc → Cx := mkC Try.prog [] 67 10 [.tmp 4]
theorem k67_of0 : OfP0 Try.prog Try.f67 67 10 k67_C k67_9 := @ofP0 _ _ _ _ _ _ _ _ Try.func67 (by decide +kernel) rfl (by kernel_rfl) rfl (by kernel_rfl)
theorem l00Max_d (a b : Int) (h : Heap) : ACalls Try.prog 67 [.int .i64 a, .int .i64 b] h (fun v h' => v = .int .i64 (max a b) ∧ h' = h) := by
  refine k67_of0 rfl noPure fun I => ?_
  refine Run2.of I 1000 ?_
  simp -implicitDefEqProofs
  omega
noncomputable def o_l00Max : List AV → Option (Prop × AV) := tab (fun (x : Int × Int) => match x with | (a, b) => [.int .i64 a, .int .i64 b]) (fun x => match x with | (a, b) => True) (fun x => match x with | (a, b) => .int .i64 (max a b))
@[simp] theorem o_l00Max_e (a : Int) (b : Int) : o_l00Max [.int .i64 a, .int .i64 b] = some (True, .int .i64 (max a b)) := tab_at (enc := fun (x : Int × Int) => match x with | (a, b) => [.int .i64 a, .int .i64 b]) (fun x y h => by
  obtain ⟨a1, b1⟩ := x; obtain ⟨a2, b2⟩ := y; simp at h; simp [h] <;> omega) _ _ (a, b)
theorem o_l00Max_k : Knows Try.prog 67 o_l00Max := tab_knows fun x hx h => by
  obtain ⟨a, b⟩ := x; exact l00Max_d a b h
noncomputable def orcDs3 : List (Nat × (List AV → Option (Prop × AV))) := (67, o_l00Max) :: []
theorem orcDs3_p : Pure Try.prog (lk orcDs3) := (lk_pure o_l00Max_k lk_pure0)
@[simp] theorem orcDs3_l (b : Bool) (g : FuncId) (l : List AV) : lk orcDs3 b g l = if g = 67 then o_l00Max l else none := nr rfl
abbrev k68_o0 : List AJ := [.o ⟨(some 2), none, false, .mv (.c (.int .i64 0)), (some [0])⟩]
abbrev k68_o1 : List AJ := [.o ⟨(some 3), none, false, .mv (.t 0), none⟩, .o ⟨(some 4), none, false, .mv (.t 0), none⟩, .o ⟨(some 5), none, false, .un .neg (.t 4), none⟩, .o ⟨(some 6), none, false, .call 67 [(.t 3), (.t 5)], none⟩, .o ⟨(some 2), none, false, .mv (.t 6), (some [2])⟩]
def k68_2 : ACode := .seq (.region k68_o1) .ret
def k68_3 : ACode := .seq (.region k68_o0) k68_2
@[simp, simp ↓] theorem k68_2r : sR k68_2 k68_o1 .ret := yR rfl
@[simp, simp ↓] theorem k68_3r : sR k68_3 k68_o0 k68_2 := yR rfl
noncomputable abbrev k68_C : Orc → Cx := mkC Try.prog [] 68 7 [.tmp 2]
theorem k68_of0 : OfP0 Try.prog Try.f68 68 7 k68_C k68_3 := @ofP0 _ _ _ _ _ _ _ _ Try.func68 (by decide +kernel) rfl (by kernel_rfl) rfl (by kernel_rfl)
theorem l21Abs_c (n : Int) (h : Heap) (hn : -1000000 ≤ n ∧ n ≤ 1000000) : ACalls Try.prog 68 [.int .i64 n] h (fun v h' => v = .int .i64 (absI n) ∧ h' = h) := by
  refine k68_of0 rfl orcDs3_p fun I => ?_
  refine Run2.of I 1000 ?_
  simp -implicitDefEqProofs
  rw [w64 (by omega)]
  unfold absI
  split <;> omega
noncomputable def o_l21Abs : List AV → Option (Prop × AV) := tab (fun (x : Int) => match x with | n => [.int .i64 n]) (fun x => match x with | n => (-1000000 ≤ n ∧ n ≤ 1000000)) (fun x => match x with | n => .int .i64 (absI n))
@[simp] theorem o_l21Abs_e (n : Int) : o_l21Abs [.int .i64 n] = some ((-1000000 ≤ n ∧ n ≤ 1000000), .int .i64 (absI n)) := tab_at (enc := fun (x : Int) => match x with | n => [.int .i64 n]) (fun x y h => by
  simp at h; simp [h] <;> omega) _ _ n
theorem o_l21Abs_k : Knows Try.prog 68 o_l21Abs := tab_knows fun x hx h => by
  exact l21Abs_c x h hx
noncomputable def orcDs4 : List (Nat × (List AV → Option (Prop × AV))) := (67, o_l00Max) :: (68, o_l21Abs) :: []
theorem orcDs4_p : Pure Try.prog (lk orcDs4) := (lk_pure o_l00Max_k (lk_pure o_l21Abs_k lk_pure0))
@[simp] theorem orcDs4_l (b : Bool) (g : FuncId) (l : List AV) : lk orcDs4 b g l = if g = 67 then o_l00Max l else if g = 68 then o_l21Abs l else none := nr rfl
/-- Bars, or bars and none, that may be matched. -/
def augB (a b : List T) (m : Int) : Nat → Nat → Bool := aug a.length b.length (cl a b m) (lg a m) (lg b m)
abbrev k155_o0 : List AJ := [.o ⟨(some 6), none, false, .mv (.c (.bool false)), (some [0, 1, 2])⟩]
abbrev k155_o1 : List AJ := [.o ⟨(some 7), none, false, .mv (.t 1), none⟩, .o ⟨(some 8), none, false, .mv (.t 0), none⟩, .o ⟨(some 9), none, false, .nilchk (.t 8), none⟩, .o ⟨(some 10), none, false, .fieldA 0 (.t 9), none⟩, .o ⟨(some 11), none, false, .load 1 false (.t 10), none⟩, .o ⟨(some 12), none, false, .len (.t 11), none⟩, .o ⟨(some 13), none, false, .bin .lss (.t 7) (.t 12), none⟩, .o ⟨(some 14), none, false, .mv (.t 13), none⟩, .o ⟨(some 15), (some (14, true)), false, .mv (.t 2), none⟩, .o ⟨(some 16), (some (14, true)), false, .mv (.t 0), none⟩, .o ⟨(some 17), (some (14, true)), false, .nilchk (.t 16), (some [0, 1, 2, 14, 15, 17])⟩, .o ⟨(some 18), (some (14, true)), false, .fieldA 1 (.t 17), none⟩, .o ⟨(some 19), (some (14, true)), false, .load 1 false (.t 18), none⟩, .o ⟨(some 20), (some (14, true)), false, .len (.t 19), none⟩, .o ⟨(some 21), (some (14, true)), false, .bin .lss (.t 15) (.t 20), none⟩, .o ⟨(some 22), none, false, .pick (.t 14) (.t 21) (.c (.bool false)), (some [0, 1, 2, 22])⟩]
abbrev k155_o2 : List AI := [⟨(some 23), none, false, .mv (.t 0), none⟩, ⟨(some 24), none, false, .nilchk (.t 23), none⟩, ⟨(some 25), none, false, .fieldA 0 (.t 24), none⟩, ⟨(some 26), none, false, .load 1 false (.t 25), none⟩, ⟨(some 27), none, false, .mv (.t 1), none⟩, ⟨(some 28), none, false, .idxA 3 (.t 26) (.t 27), none⟩, ⟨(some 29), none, false, .fieldA 1 (.t 28), none⟩, ⟨(some 30), none, false, .load 1 false (.t 29), none⟩, ⟨(some 31), none, false, .mv (.t 0), none⟩, ⟨(some 32), none, false, .nilchk (.t 31), none⟩, ⟨(some 33), none, false, .fieldA 1 (.t 32), none⟩, ⟨(some 34), none, false, .load 1 false (.t 33), none⟩, ⟨(some 35), none, false, .mv (.t 2), none⟩, ⟨(some 36), none, false, .idxA 3 (.t 34) (.t 35), (some [0, 1, 2, 30, 36])⟩, ⟨(some 37), none, false, .fieldA 1 (.t 36), none⟩, ⟨(some 38), none, false, .load 1 false (.t 37), none⟩, ⟨(some 39), none, true, .bin .sub (.t 30) (.t 38), none⟩, ⟨(some 40), none, false, .call 68 [(.t 39)], none⟩, ⟨(some 41), none, false, .mv (.t 0), none⟩, ⟨(some 42), none, false, .nilchk (.t 41), none⟩, ⟨(some 43), none, false, .fieldA 0 (.t 42), none⟩, ⟨(some 44), none, false, .load 1 false (.t 43), none⟩, ⟨(some 45), none, false, .mv (.t 1), none⟩, ⟨(some 46), none, false, .idxA 3 (.t 44) (.t 45), none⟩, ⟨(some 47), none, false, .fieldA 2 (.t 46), none⟩, ⟨(some 48), none, false, .load 1 false (.t 47), none⟩, ⟨(some 49), none, false, .mv (.t 0), none⟩, ⟨(some 50), none, false, .nilchk (.t 49), (some [0, 2, 40, 48, 50])⟩, ⟨(some 51), none, false, .fieldA 1 (.t 50), none⟩, ⟨(some 52), none, false, .load 1 false (.t 51), none⟩, ⟨(some 53), none, false, .mv (.t 2), none⟩, ⟨(some 54), none, false, .idxA 3 (.t 52) (.t 53), none⟩, ⟨(some 55), none, false, .fieldA 2 (.t 54), none⟩, ⟨(some 56), none, false, .load 1 false (.t 55), none⟩, ⟨(some 57), none, true, .bin .sub (.t 48) (.t 56), none⟩, ⟨(some 58), none, false, .call 68 [(.t 57)], none⟩, ⟨(some 59), none, false, .call 67 [(.t 40), (.t 58)], none⟩, ⟨(some 60), none, true, .bin .mul (.c (.int .i64 2)) (.t 59), none⟩, ⟨(some 61), none, false, .mv (.t 0), none⟩, ⟨(some 62), none, false, .nilchk (.t 61), none⟩, ⟨(some 63), none, false, .fieldA 2 (.t 62), none⟩, ⟨(some 64), none, false, .load 1 false (.t 63), (some [60, 64])⟩, ⟨(some 65), none, false, .bin .leq (.t 60) (.t 64), none⟩, ⟨(some 6), none, false, .mv (.t 65), (some [6])⟩]
def k155_3 : ACode := .seq (.draw k155_o2 [] rfl) .ret
def k155_4 : ACode := .cond (.t 22) k155_3 .skip
def k155_5 : ACode := .seq (.region k155_o1) k155_4
abbrev k155_o3 : List AJ := [.o ⟨(some 66), none, false, .mv (.t 1), none⟩, .o ⟨(some 67), none, false, .mv (.t 0), none⟩, .o ⟨(some 68), none, false, .nilchk (.t 67), none⟩, .o ⟨(some 69), none, false, .fieldA 0 (.t 68), none⟩, .o ⟨(some 70), none, false, .load 1 false (.t 69), none⟩, .o ⟨(some 71), none, false, .len (.t 70), none⟩, .o ⟨(some 72), none, false, .bin .lss (.t 66) (.t 71), (some [0, 1, 2, 72])⟩]
abbrev k155_o4 : List AI := [⟨(some 73), none, false, .mv (.t 0), none⟩, ⟨(some 74), none, false, .nilchk (.t 73), none⟩, ⟨(some 75), none, false, .fieldA 0 (.t 74), none⟩, ⟨(some 76), none, false, .load 1 false (.t 75), none⟩, ⟨(some 77), none, false, .mv (.t 1), none⟩, ⟨(some 78), none, false, .idxA 3 (.t 76) (.t 77), none⟩, ⟨(some 79), none, false, .fieldA 2 (.t 78), none⟩, ⟨(some 80), none, false, .load 1 false (.t 79), none⟩, ⟨(some 81), none, false, .mv (.t 0), none⟩, ⟨(some 82), none, false, .nilchk (.t 81), none⟩, ⟨(some 83), none, false, .fieldA 0 (.t 82), none⟩, ⟨(some 84), none, false, .load 1 false (.t 83), none⟩, ⟨(some 85), none, false, .mv (.t 1), none⟩, ⟨(some 86), none, false, .idxA 3 (.t 84) (.t 85), (some [0, 80, 86])⟩, ⟨(some 87), none, false, .fieldA 1 (.t 86), none⟩, ⟨(some 88), none, false, .load 1 false (.t 87), none⟩, ⟨(some 89), none, true, .bin .sub (.t 80) (.t 88), none⟩, ⟨(some 90), none, false, .mv (.t 0), none⟩, ⟨(some 91), none, false, .nilchk (.t 90), none⟩, ⟨(some 92), none, false, .fieldA 2 (.t 91), none⟩, ⟨(some 93), none, false, .load 1 false (.t 92), none⟩, ⟨(some 94), none, false, .bin .leq (.t 89) (.t 93), none⟩, ⟨(some 6), none, false, .mv (.t 94), (some [6])⟩]
def k155_8 : ACode := .seq (.draw k155_o4 [] rfl) .ret
def k155_9 : ACode := .cond (.t 72) k155_8 .skip
def k155_10 : ACode := .seq (.region k155_o3) k155_9
abbrev k155_o5 : List AJ := [.o ⟨(some 95), none, false, .mv (.t 2), none⟩, .o ⟨(some 96), none, false, .mv (.t 0), none⟩, .o ⟨(some 97), none, false, .nilchk (.t 96), none⟩, .o ⟨(some 98), none, false, .fieldA 1 (.t 97), none⟩, .o ⟨(some 99), none, false, .load 1 false (.t 98), none⟩, .o ⟨(some 100), none, false, .len (.t 99), none⟩, .o ⟨(some 101), none, false, .bin .lss (.t 95) (.t 100), (some [0, 2, 101])⟩]
abbrev k155_o6 : List AI := [⟨(some 102), none, false, .mv (.t 0), none⟩, ⟨(some 103), none, false, .nilchk (.t 102), none⟩, ⟨(some 104), none, false, .fieldA 1 (.t 103), none⟩, ⟨(some 105), none, false, .load 1 false (.t 104), none⟩, ⟨(some 106), none, false, .mv (.t 2), none⟩, ⟨(some 107), none, false, .idxA 3 (.t 105) (.t 106), none⟩, ⟨(some 108), none, false, .fieldA 2 (.t 107), none⟩, ⟨(some 109), none, false, .load 1 false (.t 108), none⟩, ⟨(some 110), none, false, .mv (.t 0), none⟩, ⟨(some 111), none, false, .nilchk (.t 110), none⟩, ⟨(some 112), none, false, .fieldA 1 (.t 111), none⟩, ⟨(some 113), none, false, .load 1 false (.t 112), none⟩, ⟨(some 114), none, false, .mv (.t 2), none⟩, ⟨(some 115), none, false, .idxA 3 (.t 113) (.t 114), (some [0, 109, 115])⟩, ⟨(some 116), none, false, .fieldA 1 (.t 115), none⟩, ⟨(some 117), none, false, .load 1 false (.t 116), none⟩, ⟨(some 118), none, true, .bin .sub (.t 109) (.t 117), none⟩, ⟨(some 119), none, false, .mv (.t 0), none⟩, ⟨(some 120), none, false, .nilchk (.t 119), none⟩, ⟨(some 121), none, false, .fieldA 2 (.t 120), none⟩, ⟨(some 122), none, false, .load 1 false (.t 121), none⟩, ⟨(some 123), none, false, .bin .leq (.t 118) (.t 122), none⟩, ⟨(some 6), none, false, .mv (.t 123), (some [6])⟩]
def k155_13 : ACode := .seq (.draw k155_o6 [] rfl) .ret
def k155_14 : ACode := .cond (.t 101) k155_13 .skip
def k155_15 : ACode := .seq (.region k155_o5) k155_14
abbrev k155_o7 : List AJ := [.o ⟨(some 6), none, false, .mv (.c (.bool true)), (some [6])⟩]
def k155_17 : ACode := .seq (.region k155_o7) .ret
def k155_18 : ACode := .seq k155_15 k155_17
def k155_19 : ACode := .seq k155_10 k155_18
def k155_20 : ACode := .seq k155_5 k155_19
def k155_21 : ACode := .seq (.region k155_o0) k155_20
@[simp, simp ↓] theorem k155_3r : sD k155_3 k155_o2 [] .ret := yD rfl
@[simp, simp ↓] theorem k155_4r : rC k155_4 (.t 22) k155_3 .skip := zC rfl
@[simp, simp ↓] theorem k155_5r : sR k155_5 k155_o1 k155_4 := yR rfl
@[simp, simp ↓] theorem k155_8r : sD k155_8 k155_o4 [] .ret := yD rfl
@[simp, simp ↓] theorem k155_9r : rC k155_9 (.t 72) k155_8 .skip := zC rfl
@[simp, simp ↓] theorem k155_10r : sR k155_10 k155_o3 k155_9 := yR rfl
@[simp, simp ↓] theorem k155_13r : sD k155_13 k155_o6 [] .ret := yD rfl
@[simp, simp ↓] theorem k155_14r : rC k155_14 (.t 101) k155_13 .skip := zC rfl
@[simp, simp ↓] theorem k155_15r : sR k155_15 k155_o5 k155_14 := yR rfl
@[simp, simp ↓] theorem k155_17r : sR k155_17 k155_o7 .ret := yR rfl
@[simp, simp ↓] theorem k155_18r : rS k155_18 k155_15 k155_17 := zS rfl
@[simp, simp ↓] theorem k155_19r : rS k155_19 k155_10 k155_18 := zS rfl
@[simp, simp ↓] theorem k155_20r : rS k155_20 k155_5 k155_19 := zS rfl
@[simp, simp ↓] theorem k155_21r : sR k155_21 k155_o0 k155_20 := yR rfl
noncomputable abbrev k155_C : Orc → Cx := mkC Try.prog [] 155 124 [.tmp 6]
theorem k155_of0 : OfP0 Try.prog Try.f155 155 124 k155_C k155_21 := @ofP0 _ _ _ _ _ _ _ _ Try.func155 (by decide +kernel) rfl (by kernel_rfl) rfl (by kernel_rfl)
theorem fitsM_s (a b : List T) (ha : finU a) (hb : finU b) (m : Int) (e : List AV) (i k : Nat) (h : Heap) : ACalls Try.prog 155 [.ip (.snap 3 (a.map T.av) :: .snap 3 (b.map T.av) :: .int .i64 m :: e), .int .i64 i, .int .i64 k] h (fun v h' => v = .bool (augB a b m i k) ∧ h' = h) := by
  refine k155_of0 rfl orcDs4_p fun I => ?_
  unfold augB aug
  by_cases h1 : i < a.length
  · have hba := ha.2 _ (List.getElem_mem h1)
    by_cases h2 : k < b.length
    · have hbb := hb.2 _ (List.getElem_mem h2)
      have hb1 := absI_le (n := a[i].t - b[k].t) (a := 1000) (by omega) (by omega)
      have hb2 := absI_le (n := a[i].s - b[k].s) (a := 1000) (by omega) (by omega)
      have hcl : cl a b m i k = decide (2 * max (absI (a[i].t - b[k].t)) (absI (a[i].s - b[k].s)) ≤ m) := by
        unfold cl
        rw [show a.getD i T0 = a[i] by simp [h1], show b.getD k T0 = b[k] by simp [h2]]
      rw [if_pos h1, if_pos h2, hcl]
      refine Run2.of I 1000 ?_
      simp -implicitDefEqProofs [h1, h2]
      omega
    · have hlg : lg a m i = decide (m < a[i].s - a[i].t) := by
        unfold lg
        rw [show a.getD i T0 = a[i] by simp [h1]]
      rw [if_pos h1, if_neg h2, hlg]
      refine Run2.of I 1000 ?_
      simp -implicitDefEqProofs [h1, h2]
      exact ⟨by omega, by by_cases q : m < a[i].s - a[i].t <;> simp [q] <;> omega⟩
  · by_cases h2 : k < b.length
    · have hbb := hb.2 _ (List.getElem_mem h2)
      have hlg : lg b m k = decide (m < b[k].s - b[k].t) := by
        unfold lg
        rw [show b.getD k T0 = b[k] by simp [h2]]
      rw [if_neg h1, if_pos h2, hlg]
      refine Run2.of I 1000 ?_
      simp -implicitDefEqProofs [h1, h2]
      exact ⟨by omega, by by_cases q : m < b[k].s - b[k].t <;> simp [q] <;> omega⟩
    · rw [if_neg h1, if_neg h2]
      refine Run2.of I 1000 ?_
      simp -implicitDefEqProofs [h1, h2]
/-- The block of the reference's matching. -/
def mtB (a b : List T) (m : Int) (idm : Nat) (u : AV) : Blk := ⟨5, [.agg [.snap 3 (a.map T.av), .snap 3 (b.map T.av), .int .i64 m, .sl idm 1 0 (a.length + b.length) (some (a.length + b.length)), u]]⟩
theorem fitsM_p (a b : List T) (ha : finU a) (hb : finU b) (m : Int) (idm idx : Nat) (u : AV) (i k : Nat) (H : Heap) (h1 : (idx, mtB a b m idm u) ∈ H) : ACalls Try.prog 155 [.ptr idx 5 0 0, .int .i64 i, .int .i64 k] H (fun v h' => v = .bool (augB a b m i k) ∧ h' = H) := by
  refine ACalls.reads [(idx, mtB a b m idm u)] (fun p hp => by rw [List.mem_singleton.1 hp]; exact h1) ?_ rfl
  rw [lend_cons, lend_cons, lend_cons, lend_nil']
  have e : lend1 [(idx, mtB a b m idm u)] (.ptr idx 5 0 0) = .ip (.snap 3 (a.map T.av) :: .snap 3 (b.map T.av) :: .int .i64 m :: [.sl idm 1 0 (a.length + b.length) (some (a.length + b.length)), u]) := by
    simp only [lend1, fz, mtB, and_self, if_true, List.getElem?_cons_zero, cellsOf, List.drop_zero]
  rw [e, lend1_cold _ (x := .int .i64 i) rfl, lend1_cold _ (x := .int .i64 k) rfl]
  exact fitsM_s a b ha hb m _ i k []
abbrev k119_o0 : List AJ := [.o ⟨(some 4), none, false, .mv (.c (.bool false)), (some [0, 1])⟩]
abbrev k119_o1 : List AJ := [.o ⟨(some 5), none, false, .mv (.c (.int .i64 0)), (some [0, 1, 5])⟩]
abbrev k119_o2 : List AJ := [.o ⟨(some 6), none, false, .mv (.t 5), none⟩, .o ⟨(some 7), none, false, .mv (.t 0), none⟩, .o ⟨(some 8), none, false, .nilchk (.t 7), none⟩, .o ⟨(some 9), none, false, .fieldA 3 (.t 8), none⟩, .o ⟨(some 10), none, false, .load 1 false (.t 9), none⟩, .o ⟨(some 11), none, false, .len (.t 10), none⟩, .o ⟨(some 12), none, false, .bin .lss (.t 6) (.t 11), (some [0, 1, 5, 12])⟩]
def k119_3 : ACode := .cond (.t 12) .skip (.exit 0)
def k119_4 : ACode := .seq (.region k119_o2) k119_3
abbrev k119_o3 : List AJ := [.o ⟨(some 15), none, false, .mv (.t 0), none⟩, .o ⟨(some 16), none, false, .nilchk (.t 15), none⟩, .o ⟨(some 17), none, false, .fieldA 4 (.t 16), none⟩, .o ⟨(some 18), none, false, .load 1 false (.t 17), none⟩, .o ⟨(some 19), none, false, .mv (.t 5), none⟩, .o ⟨(some 20), none, false, .idxA 1 (.t 18) (.t 19), none⟩, .o ⟨(some 21), none, false, .load 1 false (.t 20), none⟩, .o ⟨(some 22), none, false, .mv (.t 21), none⟩, .o ⟨(some 23), (some (22, false)), false, .mv (.t 0), none⟩, .o ⟨(some 24), (some (22, false)), false, .mv (.t 1), none⟩, .o ⟨(some 25), (some (22, false)), false, .mv (.t 5), (some [0, 1, 5, 22, 23, 24, 25])⟩, .o ⟨(some 26), (some (22, false)), false, .call 155 [(.t 23), (.t 24), (.t 25)], none⟩, .o ⟨(some 27), (some (22, false)), false, .un .not (.t 26), none⟩, .o ⟨(some 28), none, false, .pick (.t 22) (.c (.bool true)) (.t 27), (some [0, 1, 5, 28])⟩]
def k119_6 : ACode := .cond (.t 28) (.exit 1) .skip
def k119_7 : ACode := .seq (.region k119_o3) k119_6
abbrev k119_o4 : List AJ := [.o ⟨(some 29), none, false, .mv (.t 0), none⟩, .o ⟨(some 30), none, false, .nilchk (.t 29), none⟩, .o ⟨(some 31), none, false, .fieldA 4 (.t 30), none⟩, .o ⟨(some 32), none, false, .load 1 false (.t 31), none⟩, .o ⟨(some 33), none, false, .mv (.t 5), none⟩, .o ⟨(some 34), none, false, .idxA 1 (.t 32) (.t 33), none⟩, .o ⟨none, none, false, .store 1 (.t 34) (.c (.bool true)), (some [0, 1, 5])⟩]
abbrev k119_o5 : List AJ := [.o ⟨(some 35), none, false, .mv (.t 0), none⟩, .o ⟨(some 36), none, false, .nilchk (.t 35), none⟩, .o ⟨(some 37), none, false, .fieldA 3 (.t 36), none⟩, .o ⟨(some 38), none, false, .load 1 false (.t 37), none⟩, .o ⟨(some 39), none, false, .mv (.t 5), none⟩, .o ⟨(some 40), none, false, .idxA 1 (.t 38) (.t 39), none⟩, .o ⟨(some 41), none, false, .load 1 false (.t 40), none⟩, .o ⟨(some 42), none, false, .bin .lss (.t 41) (.c (.int .i64 0)), none⟩, .o ⟨(some 43), none, false, .mv (.t 42), none⟩, .o ⟨(some 44), (some (43, false)), false, .mv (.t 0), none⟩, .o ⟨(some 45), (some (43, false)), false, .mv (.t 0), none⟩, .o ⟨(some 46), (some (43, false)), false, .nilchk (.t 45), (some [0, 1, 5, 43, 44, 46])⟩, .o ⟨(some 47), (some (43, false)), false, .fieldA 3 (.t 46), none⟩, .o ⟨(some 48), (some (43, false)), false, .load 1 false (.t 47), none⟩, .o ⟨(some 49), (some (43, false)), false, .mv (.t 5), none⟩, .o ⟨(some 50), (some (43, false)), false, .idxA 1 (.t 48) (.t 49), none⟩, .o ⟨(some 51), (some (43, false)), false, .load 1 false (.t 50), none⟩, .o ⟨(some 52), (some (43, false)), false, .call 119 [(.t 44), (.t 51)], none⟩, .o ⟨(some 53), none, false, .pick (.t 43) (.c (.bool true)) (.t 52), (some [0, 1, 5, 53])⟩]
abbrev k119_o6 : List AJ := [.o ⟨(some 54), none, false, .mv (.t 0), none⟩, .o ⟨(some 55), none, false, .nilchk (.t 54), none⟩, .o ⟨(some 56), none, false, .fieldA 3 (.t 55), none⟩, .o ⟨(some 57), none, false, .load 1 false (.t 56), none⟩, .o ⟨(some 58), none, false, .mv (.t 5), none⟩, .o ⟨(some 59), none, false, .mv (.t 1), none⟩, .o ⟨(some 60), none, false, .idxA 1 (.t 57) (.t 58), none⟩, .o ⟨none, none, false, .store 1 (.t 60) (.t 59), (some [])⟩]
abbrev k119_o7 : List AJ := [.o ⟨(some 4), none, false, .mv (.c (.bool true)), (some [4])⟩]
def k119_12 : ACode := .seq (.region k119_o7) .ret
def k119_13 : ACode := .seq (.region k119_o6) k119_12
def k119_14 : ACode := .cond (.t 53) k119_13 .skip
def k119_15 : ACode := .seq (.region k119_o5) k119_14
def k119_16 : ACode := .seq (.region k119_o4) k119_15
def k119_17 : ACode := .seq k119_7 k119_16
abbrev k119_o8 : List AJ := [.o ⟨(some 13), none, false, .mv (.t 5), none⟩, .o ⟨(some 14), none, true, .bin .add (.t 13) (.c (.int .i64 1)), none⟩, .o ⟨(some 5), none, false, .mv (.t 14), (some [0, 1, 5])⟩]
def k119_19 : ACode := .region k119_o8
def k119_20 : ACode := .seq (.block 1 k119_17) k119_19
def k119_21 : ACode := .seq k119_4 k119_20
def k119_22 : ACode := .loop k119_21
def k119_23 : ACode := .block 0 k119_22
def k119_24 : ACode := .seq (.region k119_o1) k119_23
abbrev k119_o9 : List AJ := [.o ⟨(some 4), none, false, .mv (.c (.bool false)), (some [4])⟩]
def k119_26 : ACode := .seq (.region k119_o9) .ret
def k119_27 : ACode := .seq k119_24 k119_26
def k119_28 : ACode := .seq (.region k119_o0) k119_27
@[simp, simp ↓] theorem k119_3r : rC k119_3 (.t 12) .skip (.exit 0) := zC rfl
@[simp, simp ↓] theorem k119_4r : sR k119_4 k119_o2 k119_3 := yR rfl
@[simp, simp ↓] theorem k119_6r : rC k119_6 (.t 28) (.exit 1) .skip := zC rfl
@[simp, simp ↓] theorem k119_7r : sR k119_7 k119_o3 k119_6 := yR rfl
@[simp, simp ↓] theorem k119_12r : sR k119_12 k119_o7 .ret := yR rfl
@[simp, simp ↓] theorem k119_13r : sR k119_13 k119_o6 k119_12 := yR rfl
@[simp, simp ↓] theorem k119_14r : rC k119_14 (.t 53) k119_13 .skip := zC rfl
@[simp, simp ↓] theorem k119_15r : sR k119_15 k119_o5 k119_14 := yR rfl
@[simp, simp ↓] theorem k119_16r : sR k119_16 k119_o4 k119_15 := yR rfl
@[simp, simp ↓] theorem k119_17r : rS k119_17 k119_7 k119_16 := zS rfl
@[simp, simp ↓] theorem k119_19r : rR k119_19 k119_o8 := zR rfl
@[simp, simp ↓] theorem k119_20r : sB k119_20 1 k119_17 k119_19 := yB rfl
@[simp, simp ↓] theorem k119_21r : rS k119_21 k119_4 k119_20 := zS rfl
@[simp, simp ↓] theorem k119_22r : rL k119_22 k119_21 := zL rfl
@[simp, simp ↓] theorem k119_23r : rB k119_23 0 k119_22 := zB rfl
@[simp, simp ↓] theorem k119_24r : sR k119_24 k119_o1 k119_23 := yR rfl
@[simp, simp ↓] theorem k119_26r : sR k119_26 k119_o9 .ret := yR rfl
@[simp, simp ↓] theorem k119_27r : rS k119_27 k119_24 k119_26 := zS rfl
@[simp, simp ↓] theorem k119_28r : sR k119_28 k119_o0 k119_27 := yR rfl
noncomputable abbrev k119_C : Orc → Cx := mkC Try.prog [] 119 61 [.tmp 4]
theorem k119_of0 : OfP0 Try.prog Try.f119 119 61 k119_C k119_28 := @ofP0 _ _ _ _ _ _ _ _ Try.func119 (by decide +kernel) rfl (by kernel_rfl) rfl (by kernel_rfl)
theorem find_w (a b : List T) (ha : finU a) (hb : finU b) (m : Int) (idm ids idx : Nat) (n1 : ¬ ids = idx) (n2 : ¬ ids = idm) (n3 : ¬ idx = idm) (h : Heap) : ∀ (n k : Nat) (o : List Int) (t : List Bool), k < 1000 → o.length = a.length + b.length → t.length = a.length + b.length → (∀ x ∈ o, x < 1000) → fls t < n →
    ACalls Try.prog 119 [.ptr idx 5 0 0, .int .i64 k] ((ids, ⟨1, t.map AV.bool⟩) :: (idx, mtB a b m idm (.sl ids 1 0 (a.length + b.length) (some (a.length + b.length)))) :: (idm, ⟨1, o.map iv⟩) :: h)
      (fun w h' => w = .bool (kt (augB a b m) (a.length + b.length) n k (o, t)).1 ∧ h' = (ids, ⟨1, (kt (augB a b m) (a.length + b.length) n k (o, t)).2.2.map AV.bool⟩) :: (idx, mtB a b m idm (.sl ids 1 0 (a.length + b.length) (some (a.length + b.length)))) :: (idm, ⟨1, (kt (augB a b m) (a.length + b.length) n k (o, t)).2.1.map iv⟩) :: h) := by
  have ha24 := ha.1
  have hb24 := hb.1
  have n1' : ¬ idx = ids := fun e => n1 e.symm
  have n2' : ¬ idm = ids := fun e => n2 e.symm
  have n3' : ¬ idm = idx := fun e => n3 e.symm
  obtain ⟨N, hN⟩ : ∃ N, N = a.length + b.length := ⟨_, rfl⟩
  intro n
  induction n with
  | zero => intro k o t _ _ _ _ hf; omega
  | succ n ihn =>
    intro k o t hk ho ht hox hf
    obtain ⟨F, hF⟩ : ∃ F, F = kLoop (augB a b m) (kt (augB a b m) (a.length + b.length) n) k (List.range (a.length + b.length)) (o, t) := ⟨_, rfl⟩
    have hkt : kt (augB a b m) (a.length + b.length) (n + 1) k (o, t) = F := by rw [hF]; rfl
    rw [hkt]
    obtain ⟨B, hB⟩ : ∃ B, B = mtB a b m idm (.sl ids 1 0 (a.length + b.length) (some (a.length + b.length))) := ⟨_, rfl⟩
    obtain ⟨R, hR⟩ : ∃ R, R = fun (w : AV) (h' : Heap) => w = .bool F.1 ∧ h' = (ids, ⟨1, F.2.2.map AV.bool⟩) :: (idx, mtB a b m idm (.sl ids 1 0 (a.length + b.length) (some (a.length + b.length)))) :: (idm, ⟨1, F.2.1.map iv⟩) :: h := ⟨_, rfl⟩
    rw [← hR]
    have fin : ∀ (c : Bool) (s : KS), F = (c, s) → R (.bool c) ((ids, ⟨1, s.2.map AV.bool⟩) :: (idx, mtB a b m idm (.sl ids 1 0 (a.length + b.length) (some (a.length + b.length)))) :: (idm, ⟨1, s.1.map iv⟩) :: h) := fun c s e => by rw [hR, e]; exact ⟨rfl, rfl⟩
    clear hR
    have hfits := fun (j : Nat) (H : Heap) (h1 : (idx, mtB a b m idm (.sl ids 1 0 (a.length + b.length) (some (a.length + b.length)))) ∈ H) => fitsM_p a b ha hb m idm idx _ k j H h1
    rw [← hN] at hF fin hfits ihn ho ht ⊢
    unfold mtB at *
    rw [← hN] at fin hfits ihn ⊢
    refine k119_of0 rfl noPure fun I => ?_
    refine Run2.of I 1000 ?_
    simp -implicitDefEqProofs
    refine Run2.loopE (α := Nat × List Bool) (fun s => [(0, .ptr idx 5 0 0), (1, .int .i64 k), (5, .int .i64 (s.1 : Nat))])
      (fun s => (ids, ⟨1, s.2.map AV.bool⟩) :: (idx, ⟨5, [.agg [.snap 3 (a.map T.av), .snap 3 (b.map T.av), .int .i64 m, .sl idm 1 0 N (some N), .sl ids 1 0 N (some N)]]⟩) :: (idm, ⟨1, o.map iv⟩) :: h) (fun s => N - s.1)
      (fun s => s.1 ≤ N ∧ s.2.length = N ∧ fls s.2 ≤ n ∧ F = kLoop (augB a b m) (kt (augB a b m) N n) k ((List.range N).drop s.1) (o, s.2))
      (0, t) (by simp) (by simp) ⟨Nat.zero_le _, ht, by simp only; omega, by simpa using hF⟩ ?_
    clear hF ht hf hkt
    rintro ⟨j, t⟩ ⟨hj, ht, hf, hF⟩ ih
    simp only at hj ht hf hF ih ⊢
    by_cases hlt : j < N
    · have hdrop : (List.range N).drop j = j :: (List.range N).drop (j + 1) := by
        rw [List.drop_eq_getElem_cons (by simpa using hlt)]; simp
      rw [hdrop] at hF
      have hjt : j < t.length := by omega
      have hjo : j < o.length := by omega
      have htg : t.getD j true = t[j] := by simp [hjt]
      have hog : o.getD j 0 = o[j] := by simp [hjo]
      have go := fun (t' : List Bool) (h1 : t'.length = N) (h2 : fls t' ≤ n) (h3 : F = kLoop (augB a b m) (kt (augB a b m) N n) k ((List.range N).drop (j + 1)) (o, t')) => ih (j + 1, t') ⟨hlt, h1, h2, h3⟩ (by simp; omega)
      clear ih
      simp only at go
      by_cases htj : t[j] = true
      · rw [kLoop_skip (.inl (by simp only; rw [htg]; exact htj))] at hF
        have go := go t ht hf hF
        refine Run2.of I 1000 ?_
        simp -implicitDefEqProofs [hlt, n1, n2, n3, n1', n2', n3', hjt, hjo, htj]
        exact ⟨by omega, by simpa using go⟩
      · have htf : t[j] = false := by simpa using htj
        refine Run2.of I 1000 ?_
        simp -implicitDefEqProofs [hlt, n1, n2, n3, n1', n2', n3', hjt, hjo, htf]
        refine (hfits j _ (by simp)).mono ?_
        rintro w h' ⟨rfl, rfl⟩
        by_cases hc : augB a b m k j = true
        · have hns : ¬ ((o, t).2.getD j true = true ∨ augB a b m k j = false) := by
            simp only
            rw [htg, htf, hc]; simp
          rw [hc]
          by_cases ho0 : o[j] < 0
          · rw [kLoop_free hns (by simp only; rw [hog]; exact ho0)] at hF
            have fin := fin _ _ hF
            clear go
            refine gK.go ?_
            simp -implicitDefEqProofs [hlt, n1, n2, n3, n1', n2', n3', hjt, hjo, ho0]
            simpa [List.map_set, iv] using fin
          · rw [kLoop_go hns (by simp only; rw [hog]; exact ho0)] at hF
            simp only at hF
            rw [hog] at hF
            have hfs := fls_set t j (by rw [htg.symm] at htf; exact htf)
            have hox' := hox _ (List.getElem_mem hjo)
            have hcall := ihn o[j].toNat o (t.set j true) (by omega) ho (by simpa using ht) hox (by omega)
            have hsp := kt_spec (augB a b m) N n o[j].toNat (o, t.set j true) ⟨ho, by simpa using ht⟩ (by simp only; omega)
            rw [show ((o[j].toNat : Nat) : Int) = o[j] by omega] at hcall
            generalize kt (augB a b m) N n o[j].toNat (o, t.set j true) = G at *
            obtain ⟨c, o2, t2⟩ := G
            simp only [List.map_set] at hcall hsp
            refine gK.go ?_
            simp -implicitDefEqProofs [hlt, n1, n2, n3, n1', n2', n3', hjt, hjo, ho0]
            refine hcall.mono ?_
            rintro w h' ⟨rfl, rfl⟩
            cases c with
            | true =>
              have hs := hsp.1 rfl
              have h2 := hs.ok.1
              have fin := fin _ _ hF
              clear go
              simp only at h2
              have hj2 : j < o2.length := by omega
              refine gK.go ?_
              simp -implicitDefEqProofs [n1, n2, n3, n1', n2', n3', hj2]
              exact ⟨hlt, by simpa [List.map_set, iv] using fin⟩
            | false =>
              obtain ⟨hs, _, hfl⟩ := hsp.2 rfl
              have h2 := hs.ok.2
              have h3 := hs.same
              simp only at h2 h3 hfl
              subst h3
              have go := go t2 h2 (by omega) hF
              refine gK.go ?_
              simp -implicitDefEqProofs
              exact ⟨by omega, by simpa using go⟩
        · have hc : augB a b m k j = false := by simpa using hc
          rw [kLoop_skip (.inr hc)] at hF
          have go := go t ht hf hF
          rw [hc]
          refine gK.go ?_
          simp -implicitDefEqProofs
          exact ⟨by omega, by simpa using go⟩
    · rw [List.drop_of_length_le (by simp; omega)] at hF
      have fin := fin _ _ hF
      refine Run2.of I 1000 ?_
      simp -implicitDefEqProofs [hlt, n1, n2, n3, n1', n2', n3']
      exact fin
/-- All bars get mates, or none. -/
def fitM (a b : List T) (m : Int) : Bool := kAll (augB a b m) (a.length + b.length) (List.range (a.length + b.length)) (List.replicate (a.length + b.length) (-1))
abbrev k69_o0 : List AJ := [.o ⟨(some 6), none, false, .mv (.c (.bool false)), (some [0, 1, 2])⟩]
abbrev k69_o1 : List AJ := [.o ⟨(some 11), none, false, .mv (.t 0), none⟩, .o ⟨(some 12), none, false, .len (.t 11), none⟩, .o ⟨(some 13), none, false, .mv (.t 1), none⟩, .o ⟨(some 14), none, false, .len (.t 13), none⟩, .o ⟨(some 15), none, true, .bin .add (.t 12) (.t 14), none⟩, .o ⟨(some 7), none, false, .mv (.t 15), (some [0, 1, 2, 7])⟩]
abbrev k69_o2 : List AJ := [.o ⟨(some 16), none, false, .mv (.t 0), none⟩, .o ⟨(some 17), none, false, .mv (.t 1), none⟩, .o ⟨(some 18), none, false, .mv (.t 2), none⟩, .o ⟨(some 19), none, false, .mv (.t 7), none⟩, .o ⟨(some 20), none, false, .mksl 1 8 (.int .i64 0) (.t 19) (.t 19), none⟩, .o ⟨(some 21), none, false, .build [.nilsl, .nilsl, (.int .i64 0), .nilsl, .nilsl] [(0, 1, (.t 16)), (1, 1, (.t 17)), (2, 1, (.t 18)), (3, 1, (.t 20))], none⟩, .o ⟨(some 22), none, false, .box true 5 (.t 21), none⟩, .o ⟨(some 8), none, false, .mv (.t 22), (some [7, 8])⟩]
abbrev k69_o3 : List AJ := [.o ⟨(some 9), none, false, .mv (.c (.int .i64 0)), (some [7, 8, 9])⟩]
abbrev k69_o4 : List AJ := [.o ⟨(some 23), none, false, .mv (.t 9), none⟩, .o ⟨(some 24), none, false, .mv (.t 7), none⟩, .o ⟨(some 25), none, false, .bin .lss (.t 23) (.t 24), (some [7, 8, 9, 25])⟩]
def k69_5 : ACode := .cond (.t 25) .skip (.exit 0)
def k69_6 : ACode := .seq (.region k69_o4) k69_5
abbrev k69_o5 : List AJ := [.o ⟨(some 28), none, false, .mv (.t 8), none⟩, .o ⟨(some 29), none, false, .nilchk (.t 28), none⟩, .o ⟨(some 30), none, false, .fieldA 3 (.t 29), none⟩, .o ⟨(some 31), none, false, .load 1 false (.t 30), none⟩, .o ⟨(some 32), none, false, .mv (.t 9), none⟩, .o ⟨(some 33), none, false, .idxA 1 (.t 31) (.t 32), none⟩, .o ⟨none, none, false, .store 1 (.t 33) (.c (.int .i64 (-1))), (some [7, 8, 9])⟩]
def k69_7 : ACode := .region k69_o5
abbrev k69_o6 : List AJ := [.o ⟨(some 26), none, false, .mv (.t 9), none⟩, .o ⟨(some 27), none, true, .bin .add (.t 26) (.c (.int .i64 1)), none⟩, .o ⟨(some 9), none, false, .mv (.t 27), (some [7, 8, 9])⟩]
def k69_9 : ACode := .region k69_o6
def k69_10 : ACode := .seq (.block 1 k69_7) k69_9
def k69_11 : ACode := .seq k69_6 k69_10
def k69_12 : ACode := .loop k69_11
def k69_13 : ACode := .block 0 k69_12
def k69_14 : ACode := .seq (.region k69_o3) k69_13
abbrev k69_o7 : List AJ := [.o ⟨(some 10), none, false, .mv (.c (.int .i64 0)), (some [7, 8, 10])⟩]
abbrev k69_o8 : List AJ := [.o ⟨(some 34), none, false, .mv (.t 10), none⟩, .o ⟨(some 35), none, false, .mv (.t 7), none⟩, .o ⟨(some 36), none, false, .bin .lss (.t 34) (.t 35), (some [7, 8, 10, 36])⟩]
def k69_17 : ACode := .cond (.t 36) .skip (.exit 2)
def k69_18 : ACode := .seq (.region k69_o8) k69_17
abbrev k69_o9 : List AJ := [.o ⟨(some 39), none, false, .mv (.t 8), none⟩, .o ⟨(some 40), none, false, .mv (.t 7), none⟩, .o ⟨(some 41), none, false, .mksl 1 1 (.bool false) (.t 40) (.t 40), none⟩, .o ⟨(some 42), none, false, .nilchk (.t 39), none⟩, .o ⟨(some 43), none, false, .fieldA 4 (.t 42), none⟩, .o ⟨none, none, false, .store 1 (.t 43) (.t 41), (some [7, 8, 10])⟩]
abbrev k69_o10 : List AJ := [.o ⟨(some 44), none, false, .mv (.t 8), none⟩, .o ⟨(some 45), none, false, .mv (.t 10), none⟩, .o ⟨(some 46), none, false, .call 119 [(.t 44), (.t 45)], none⟩, .o ⟨(some 47), none, false, .un .not (.t 46), (some [7, 8, 10, 47])⟩]
abbrev k69_o11 : List AJ := [.o ⟨(some 6), none, false, .mv (.c (.bool false)), (some [6])⟩]
def k69_22 : ACode := .seq (.region k69_o11) .ret
def k69_23 : ACode := .cond (.t 47) k69_22 .skip
def k69_24 : ACode := .seq (.region k69_o10) k69_23
def k69_25 : ACode := .seq (.region k69_o9) k69_24
abbrev k69_o12 : List AJ := [.o ⟨(some 37), none, false, .mv (.t 10), none⟩, .o ⟨(some 38), none, true, .bin .add (.t 37) (.c (.int .i64 1)), none⟩, .o ⟨(some 10), none, false, .mv (.t 38), (some [7, 8, 10])⟩]
def k69_27 : ACode := .region k69_o12
def k69_28 : ACode := .seq (.block 3 k69_25) k69_27
def k69_29 : ACode := .seq k69_18 k69_28
def k69_30 : ACode := .loop k69_29
def k69_31 : ACode := .block 2 k69_30
def k69_32 : ACode := .seq (.region k69_o7) k69_31
abbrev k69_o13 : List AJ := [.o ⟨(some 6), none, false, .mv (.c (.bool true)), (some [6])⟩]
def k69_34 : ACode := .seq (.region k69_o13) .ret
def k69_35 : ACode := .seq k69_32 k69_34
def k69_36 : ACode := .seq k69_14 k69_35
def k69_37 : ACode := .seq (.region k69_o2) k69_36
def k69_38 : ACode := .seq (.region k69_o1) k69_37
def k69_39 : ACode := .seq (.region k69_o0) k69_38
@[simp, simp ↓] theorem k69_5r : rC k69_5 (.t 25) .skip (.exit 0) := zC rfl
@[simp, simp ↓] theorem k69_6r : sR k69_6 k69_o4 k69_5 := yR rfl
@[simp, simp ↓] theorem k69_7r : rR k69_7 k69_o5 := zR rfl
@[simp, simp ↓] theorem k69_9r : rR k69_9 k69_o6 := zR rfl
@[simp, simp ↓] theorem k69_10r : sB k69_10 1 k69_7 k69_9 := yB rfl
@[simp, simp ↓] theorem k69_11r : rS k69_11 k69_6 k69_10 := zS rfl
@[simp, simp ↓] theorem k69_12r : rL k69_12 k69_11 := zL rfl
@[simp, simp ↓] theorem k69_13r : rB k69_13 0 k69_12 := zB rfl
@[simp, simp ↓] theorem k69_14r : sR k69_14 k69_o3 k69_13 := yR rfl
@[simp, simp ↓] theorem k69_17r : rC k69_17 (.t 36) .skip (.exit 2) := zC rfl
@[simp, simp ↓] theorem k69_18r : sR k69_18 k69_o8 k69_17 := yR rfl
@[simp, simp ↓] theorem k69_22r : sR k69_22 k69_o11 .ret := yR rfl
@[simp, simp ↓] theorem k69_23r : rC k69_23 (.t 47) k69_22 .skip := zC rfl
@[simp, simp ↓] theorem k69_24r : sR k69_24 k69_o10 k69_23 := yR rfl
@[simp, simp ↓] theorem k69_25r : sR k69_25 k69_o9 k69_24 := yR rfl
@[simp, simp ↓] theorem k69_27r : rR k69_27 k69_o12 := zR rfl
@[simp, simp ↓] theorem k69_28r : sB k69_28 3 k69_25 k69_27 := yB rfl
@[simp, simp ↓] theorem k69_29r : rS k69_29 k69_18 k69_28 := zS rfl
@[simp, simp ↓] theorem k69_30r : rL k69_30 k69_29 := zL rfl
@[simp, simp ↓] theorem k69_31r : rB k69_31 2 k69_30 := zB rfl
@[simp, simp ↓] theorem k69_32r : sR k69_32 k69_o7 k69_31 := yR rfl
@[simp, simp ↓] theorem k69_34r : sR k69_34 k69_o13 .ret := yR rfl
@[simp, simp ↓] theorem k69_35r : rS k69_35 k69_32 k69_34 := zS rfl
@[simp, simp ↓] theorem k69_36r : rS k69_36 k69_14 k69_35 := zS rfl
@[simp, simp ↓] theorem k69_37r : sR k69_37 k69_o2 k69_36 := yR rfl
@[simp, simp ↓] theorem k69_38r : sR k69_38 k69_o1 k69_37 := yR rfl
@[simp, simp ↓] theorem k69_39r : sR k69_39 k69_o0 k69_38 := yR rfl
noncomputable abbrev k69_C : Orc → Cx := mkC Try.prog [22] 69 48 [.tmp 6]
theorem k69_of : OfP Try.prog Try.f69 69 48 k69_C k69_39 := @ofP _ _ _ _ _ _ _ _ Try.func69 (by decide +kernel) rfl (by kernel_rfl) rfl (by kernel_rfl)
theorem fit_s (a b : List T) (ha : finU a) (hb : finU b) (m : Int) (h : Heap) : ACalls Try.prog 69 [.snap 3 (a.map T.av), .snap 3 (b.map T.av), .int .i64 m] h (fun w h' => w = .bool (fitM a b m) ∧ h' = h) := by
  have ha24 := ha.1
  have hb24 := hb.1
  obtain ⟨F, hF⟩ : ∃ F, F = fitM a b m := ⟨_, rfl⟩
  rw [← hF]
  have hfind := find_w a b ha hb m
  unfold fitM at hF
  unfold mtB at hfind
  obtain ⟨N, hN⟩ : ∃ N, N = a.length + b.length := ⟨_, rfl⟩
  have hNi : (a.length : Int) + b.length = N := by omega
  rw [← hN] at hF hfind
  refine k69_of rfl noPure fun I => ?_
  refine Run2.of I 1000 ?_
  simp -implicitDefEqProofs [hNi]
  refine ⟨by omega, by omega, fun idm hidm => ?_⟩
  intro idx n3 hidx
  have n3' : ¬ idm = idx := fun e => n3 e.symm
  refine gK.go ?_
  simp -implicitDefEqProofs
  obtain ⟨Bk, hBk⟩ : ∃ Bk : AV → Blk, Bk = fun u => ⟨5, [.agg [.snap 3 (a.map T.av), .snap 3 (b.map T.av), .int .i64 m, .sl idm 1 0 N (some N), u]]⟩ := ⟨_, rfl⟩
  refine Run2.loopE (fun (i : Nat) => [(7, .int .i64 N), (8, .ptr idx 5 0 0), (9, .int .i64 i)])
    (fun i => (idx, Bk .nilsl) :: (idm, ⟨1, (List.replicate i (-1 : Int) ++ List.replicate (N - i) 0).map iv⟩) :: h) (fun i => N - i) (fun i => i ≤ N) 0 (by simp) (by simp [iv, hBk]) (Nat.zero_le _) fun i hi ih => ?_
  by_cases hlt : i < N
  · have go := ih (i + 1) hlt (by omega)
    clear ih
    have hset : ((List.replicate i (-1 : Int) ++ List.replicate (N - i) 0).map iv).set i (.int .i64 (-1)) = (List.replicate (i + 1) (-1 : Int) ++ List.replicate (N - (i + 1)) 0).map iv := by
      have : (List.replicate i (-1 : Int) ++ List.replicate (N - i) 0).set i (-1) = List.replicate (i + 1) (-1 : Int) ++ List.replicate (N - (i + 1)) 0 := by
        obtain ⟨d, hd⟩ : ∃ d, N - i = d + 1 := ⟨N - i - 1, by omega⟩
        rw [hd, show N - (i + 1) = d by omega, List.set_append_right _ _ (by simp), List.length_replicate, Nat.sub_self, List.replicate_succ (n := d), List.set_cons_zero, List.replicate_succ' (n := i), List.append_assoc, List.singleton_append]
      rw [← this, List.map_set]; rfl
    have hlen : ((List.replicate i (-1 : Int) ++ List.replicate (N - i) 0).map iv).length = N := by simp; omega
    generalize (List.replicate i (-1 : Int) ++ List.replicate (N - i) 0).map iv = X at *
    subst hBk
    refine Run2.of I 1000 ?_
    simp -implicitDefEqProofs [hlt, hlen, hset, n3, n3']
    exact ⟨by omega, by simpa using go⟩
  · obtain rfl : i = N := by omega
    rw [Nat.sub_self, List.replicate_zero, List.append_nil]
    clear ih
    have hB0 : Bk .nilsl = ⟨5, [.agg [.snap 3 (a.map T.av), .snap 3 (b.map T.av), .int .i64 m, .sl idm 1 0 i (some i), .nilsl]]⟩ := by rw [hBk]
    refine Run2.of I 1000 ?_
    simp -implicitDefEqProofs [hB0]
    refine Run2.loopE (α := Nat × List Int × AV) (fun s => [(7, .int .i64 i), (8, .ptr idx 5 0 0), (10, .int .i64 (s.1 : Nat))])
      (fun s => (idx, Bk s.2.2) :: (idm, ⟨1, s.2.1.map iv⟩) :: h) (fun s => i - s.1) (fun s => s.1 ≤ i ∧ s.2.1.length = i ∧ (∀ x ∈ s.2.1, x < 1000) ∧ isCell s.2.2 = true ∧ F = kAll (augB a b m) i ((List.range i).drop s.1) s.2.1)
      (0, List.replicate i (-1), .nilsl) (by simp) (by simp [hB0]) ⟨Nat.zero_le _, by simp, fun x hx => by have := List.eq_of_mem_replicate hx; omega, rfl, by simpa using hF⟩ ?_
    clear hF hi
    rintro ⟨k, o, u⟩ ⟨hk, ho, hox, huc, hF⟩ ih
    replace hk : k ≤ i := hk
    simp only at ho hox huc hF ih ⊢
    subst hBk
    by_cases hlt : k < i
    · have hdrop : (List.range i).drop k = k :: (List.range i).drop (k + 1) := by
        rw [List.drop_eq_getElem_cons (by simpa using hlt)]; simp
      rw [hdrop, kAll] at hF
      have go := fun (o' : List Int) (u' : AV) (h1 : o'.length = i) (h2 : ∀ x ∈ o', x < 1000) (h4 : isCell u' = true) (h3 : F = kAll (augB a b m) i ((List.range i).drop (k + 1)) o') => ih (k + 1, o', u') ⟨hlt, h1, h2, h4, h3⟩ (by simp; omega)
      clear ih
      simp only at go
      refine Run2.of I 1000 ?_
      simp -implicitDefEqProofs [hlt, huc, n3, n3']
      refine ⟨by omega, fun ids q1 q2 q3 => ?_⟩
      have q1' : ¬ idx = ids := fun e => q1 e.symm
      have q2' : ¬ idm = ids := fun e => q2 e.symm
      have hcall := hfind idm ids idx q1 q2 n3 h (i + 1) k o (List.replicate i false) (by omega) ho (by simp) hox (by rw [fls_rep]; omega)
      have hsp := kt_spec (augB a b m) i (i + 1) k (o, List.replicate i false) ⟨ho, by simp⟩ (by simp only; rw [fls_rep]; omega)
      generalize kt (augB a b m) i (i + 1) k (o, List.replicate i false) = G at *
      obtain ⟨c, o2, t2⟩ := G
      simp only [List.map_replicate] at hcall hsp
      refine gK.go ?_
      simp -implicitDefEqProofs [huc, n3, n3', q1, q2, q1', q2']
      refine hcall.mono ?_
      rintro w h' ⟨rfl, rfl⟩
      cases c with
      | true =>
        have hs := hsp.1 rfl
        have hox2 : ∀ x ∈ o2, x < 1000 := by
          have := hs.lt (A := 1000) (by omega) (by simpa using hox)
          simpa using this
        have go := go o2 (.sl ids 1 0 i (some i)) hs.ok.1 hox2 rfl hF
        refine gK.go ?_
        simp -implicitDefEqProofs [huc, n3, n3', q1, q2, q1', q2']
        refine ⟨by omega, Run2.sub (h' := (idx, ⟨5, [.agg [.snap 3 (a.map T.av), .snap 3 (b.map T.av), .int .i64 m, .sl idm 1 0 i (some i), .sl ids 1 0 i (some i)]]⟩) :: (idm, ⟨1, o2.map iv⟩) :: h) (fun p hp => List.mem_cons_of_mem _ hp) (fun nd => ?_) (by simpa using go)⟩
        simp only [dom, List.map_cons, List.nodup_cons] at nd ⊢
        exact nd.2
      | false =>
        replace hF : F = false := hF
        refine gK.go ?_
        simp -implicitDefEqProofs
        refine .drop ids (.drop idx (.drop idm (.base ⟨by rw [hF], ?_⟩)))
        simp [hdel]
    · rw [List.drop_of_length_le (by simp; omega), kAll] at hF
      refine Run2.of I 1000 ?_
      simp -implicitDefEqProofs [hlt]
      refine .drop idx (.drop idm (.base ⟨by rw [hF], ?_⟩))
      simp [hdel]
end Go.AG
