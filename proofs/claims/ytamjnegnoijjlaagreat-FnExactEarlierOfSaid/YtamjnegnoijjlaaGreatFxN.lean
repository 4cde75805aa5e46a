/- Two filtrations of one complex: the program's and the reference's later and earlier one. No statement is made here. -/
import Derived.Test.YtamjnegnoijjlaaGreatFxK
namespace Go.AG
open Go.Proofs Go.Proofs.YtamjnegnoijjlaaGreat
set_option linter.unusedSimpArgs false
set_option linter.unusedVariables false
set_option maxRecDepth 4000
noncomputable def Fil.coCode (x y : Fil) : Int := if x.valid ∧ y.valid then if x.rs = y.rs then 0 else 6 else 1
def Fil.coT (c : Int → Int → Int) (x y : Fil) : Fil := ⟨x.rs, List.zipWith c x.ts y.ts⟩
noncomputable def Fil.coF (c : Int → Int → Int) (x y : Fil) : Fil := if x.coCode y = 0 then Fil.coT c x y else ⟨[], []⟩
theorem Fil.coF_tot (c : Int → Int → Int) (x y : Fil) : (Fil.coF c x y).tot ≤ x.tot := by
  unfold Fil.coF
  split
  · simp [Fil.tot, Fil.coT]; omega
  · simp [Fil.tot, ssTot, sumL]
theorem equal_any (l m : List Int) (h : Heap) (hl : l.length ≤ 1048576) : ACalls Tryz.prog 97 [.snap 1 (l.map iv), .snap 1 (m.map iv)] h (fun v h' => v = .bool (decide (l = m)) ∧ h' = h) := equal_s l m h hl
abbrev k116_o0 : List AJ := [.o ⟨(some 6), none, false, .mv (.c (.bool false)), (some [0, 1, 2])⟩]
abbrev k116_o1 : List AJ := [.o ⟨(some 10), none, false, .mv (.t 0), none⟩, .o ⟨(some 11), none, false, .len (.t 10), none⟩, .o ⟨(some 12), none, false, .mv (.t 1), none⟩, .o ⟨(some 13), none, false, .len (.t 12), none⟩, .o ⟨(some 14), none, false, .bin .neq (.t 11) (.t 13), (some [0, 1, 2, 14])⟩]
abbrev k116_o2 : List AJ := [.o ⟨(some 6), none, false, .mv (.c (.bool false)), (some [6])⟩]
def k116_3 : ACode := .seq (.region k116_o2) .ret
def k116_4 : ACode := .cond (.t 14) k116_3 .skip
def k116_5 : ACode := .seq (.region k116_o1) k116_4
abbrev k116_o3 : List AJ := [.o ⟨(some 15), none, false, .mv (.t 0), none⟩, .o ⟨(some 16), none, false, .len (.t 15), none⟩, .o ⟨(some 17), none, false, .mv (.c (.int .i64 0)), (some [1, 2, 15, 16, 17])⟩]
abbrev k116_o4 : List AJ := [.o ⟨(some 18), none, false, .bin .lss (.t 17) (.t 16), (some [1, 2, 15, 16, 17, 18])⟩]
abbrev k116_o5 : List AJ := [.o ⟨(some 19), none, false, .mv (.t 17), none⟩, .o ⟨(some 20), none, false, .idxA 1 (.t 15) (.t 17), none⟩, .o ⟨(some 21), none, false, .load 1 false (.t 20), none⟩, .o ⟨(some 7), none, false, .mv (.t 19), none⟩, .o ⟨(some 8), none, false, .mv (.t 21), (some [1, 2, 7, 8, 15, 16, 17])⟩]
abbrev k116_o6 : List AJ := [.o ⟨(some 22), none, false, .mv (.t 1), none⟩, .o ⟨(some 23), none, false, .mv (.t 7), none⟩, .o ⟨(some 24), none, false, .idxA 1 (.t 22) (.t 23), none⟩, .o ⟨(some 25), none, false, .load 1 false (.t 24), none⟩, .o ⟨(some 9), none, false, .mv (.t 25), (some [1, 2, 8, 9, 15, 16, 17])⟩]
abbrev k116_o7 : List AJ := [.o ⟨(some 26), none, false, .mv (.t 2), none⟩, .o ⟨(some 27), none, false, .mv (.t 8), none⟩, .o ⟨(some 28), none, false, .mv (.t 9), none⟩, .o ⟨(some 29), none, false, .callv (.t 26) [(.t 27), (.t 28)], none⟩, .o ⟨(some 30), none, false, .un .not (.t 29), (some [1, 2, 15, 16, 17, 30])⟩]
abbrev k116_o8 : List AJ := [.o ⟨(some 6), none, false, .mv (.c (.bool false)), (some [6])⟩]
def k116_13 : ACode := .seq (.region k116_o8) .ret
def k116_14 : ACode := .cond (.t 30) k116_13 .skip
def k116_15 : ACode := .seq (.region k116_o7) k116_14
def k116_16 : ACode := .seq (.region k116_o6) k116_15
def k116_17 : ACode := .seq (.region k116_o5) k116_16
abbrev k116_o9 : List AJ := [.o ⟨(some 31), none, true, .bin .add (.t 17) (.c (.int .i64 1)), none⟩, .o ⟨(some 17), none, false, .mv (.t 31), (some [1, 2, 15, 16, 17])⟩]
def k116_19 : ACode := .region k116_o9
def k116_20 : ACode := .seq (.block 1 k116_17) k116_19
def k116_21 : ACode := .seq (.cond (.t 18) .skip (.exit 0)) k116_20
def k116_22 : ACode := .seq (.region k116_o4) k116_21
def k116_23 : ACode := .loop k116_22
def k116_24 : ACode := .block 0 k116_23
def k116_25 : ACode := .seq (.region k116_o3) k116_24
abbrev k116_o10 : List AJ := [.o ⟨(some 6), none, false, .mv (.c (.bool true)), (some [6])⟩]
def k116_27 : ACode := .seq (.region k116_o10) .ret
def k116_28 : ACode := .seq k116_25 k116_27
def k116_29 : ACode := .seq k116_5 k116_28
def k116_30 : ACode := .seq (.region k116_o0) k116_29
@[simp, simp ↓] theorem k116_3r : sR k116_3 k116_o2 .ret := yR rfl
@[simp, simp ↓] theorem k116_4r : rC k116_4 (.t 14) k116_3 .skip := zC rfl
@[simp, simp ↓] theorem k116_5r : sR k116_5 k116_o1 k116_4 := yR rfl
@[simp, simp ↓] theorem k116_13r : sR k116_13 k116_o8 .ret := yR rfl
@[simp, simp ↓] theorem k116_14r : rC k116_14 (.t 30) k116_13 .skip := zC rfl
@[simp, simp ↓] theorem k116_15r : sR k116_15 k116_o7 k116_14 := yR rfl
@[simp, simp ↓] theorem k116_16r : sR k116_16 k116_o6 k116_15 := yR rfl
@[simp, simp ↓] theorem k116_17r : sR k116_17 k116_o5 k116_16 := yR rfl
@[simp, simp ↓] theorem k116_19r : rR k116_19 k116_o9 := zR rfl
@[simp, simp ↓] theorem k116_20r : sB k116_20 1 k116_17 k116_19 := yB rfl
@[simp, simp ↓] theorem k116_21r : sC k116_21 (.t 18) .skip (.exit 0) k116_20 := yC rfl
@[simp, simp ↓] theorem k116_22r : sR k116_22 k116_o4 k116_21 := yR rfl
@[simp, simp ↓] theorem k116_23r : rL k116_23 k116_22 := zL rfl
@[simp, simp ↓] theorem k116_24r : rB k116_24 0 k116_23 := zB rfl
@[simp, simp ↓] theorem k116_25r : sR k116_25 k116_o3 k116_24 := yR rfl
@[simp, simp ↓] theorem k116_27r : sR k116_27 k116_o10 .ret := yR rfl
@[simp, simp ↓] theorem k116_28r : rS k116_28 k116_25 k116_27 := zS rfl
@[simp, simp ↓] theorem k116_29r : rS k116_29 k116_5 k116_28 := zS rfl
@[simp, simp ↓] theorem k116_30r : sR k116_30 k116_o0 k116_29 := yR rfl
noncomputable abbrev k116_C : Orc → Cx := mkC Tryz.prog [] 116 32 [.tmp 6]
theorem k116_of0 : OfP0 Tryz.prog Tryz.f116 116 32 k116_C k116_30 := @ofP0 _ _ _ _ _ _ _ _ Tryz.func116 (by decide +kernel) rfl (by kernel_rfl) rfl (by kernel_rfl)
theorem EqualFunc_s (l m : List (List Int)) (h : Heap) (hl : ssTot l ≤ 1048576) : ACalls Tryz.prog 116 [.snap 1 (l.map il), .snap 1 (m.map il), .fn 97 []] h (fun v h' => v = .bool (decide (l = m)) ∧ h' = h) := by
  have hf := fit_of_tot hl
  have hn := hf.1
  refine k116_of0 rfl noPure fun I => ?_
  refine Run2.of I 1000 ?_
  simp -implicitDefEqProofs
  refine ⟨by rintro hne rfl; exact hne rfl, fun hlen => ?_⟩
  refine Run2.loopE (fun (i : Nat) => [(1, .snap 1 (m.map il)), (2, .fn 97 []), (15, .snap 1 (l.map il)), (16, .int .i64 l.length), (17, .int .i64 i)]) (fun i => h) (fun i => l.length - i) (fun i => i ≤ l.length ∧ l.take i = m.take i) 0 (by simp [hlen]) rfl (by simp) fun i hi ih => ?_
  by_cases hlt : i < l.length
  · have hlt' : i < m.length := by omega
    have hr := hf.2 _ (List.getElem_mem hlt)
    have go := fun (he : l[i] = m[i]) => ih (i + 1) ⟨by omega, by rw [List.take_succ_eq_append_getElem hlt, List.take_succ_eq_append_getElem hlt', hi.2, he]⟩ (by omega)
    clear ih
    refine Run2.of I 1000 ?_
    simp -implicitDefEqProofs [hlt, hlt']
    refine (equal_s l[i] m[i] h hr).mono ?_
    rintro v h' ⟨rfl, rfl⟩
    refine gK.go ?_
    simp -implicitDefEqProofs
    constructor
    · rintro hne rfl
      exact hne rfl
    · intro he
      exact ⟨by omega, by simpa using go he⟩
  · refine Run2.of I 1000 ?_
    simp -implicitDefEqProofs [hlt]
    have : i = l.length := by omega
    have h2 := hi.2
    rw [List.take_of_length_le (by omega), List.take_of_length_le (by omega)] at h2
    exact h2
noncomputable def o_equalF : List AV → Option (Prop × AV) := tab (fun (x : LS × LS) => match x with | (l, m) => [.snap 1 (l.map il), .snap 1 (m.map il), .fn 97 []]) (fun x => match x with | (l, m) => ssTot l ≤ 1048576) (fun x => match x with | (l, m) => .bool (decide (l = m)))
@[simp] theorem o_equalF_e (l : LS) (m : LS) : o_equalF [.snap 1 (l.map il), .snap 1 (m.map il), .fn 97 []] = some (ssTot l ≤ 1048576, .bool (decide (l = m))) := tab_at (enc := fun (x : LS × LS) => match x with | (l, m) => [.snap 1 (l.map il), .snap 1 (m.map il), .fn 97 []]) (fun x y h => by
  obtain ⟨l1, m1⟩ := x; obtain ⟨l2, m2⟩ := y; simp at h; simp [h] <;> omega) _ _ (l, m)
theorem o_equalF_k : Knows Tryz.prog 116 o_equalF := tab_knows fun x hx h => by
  obtain ⟨l, m⟩ := x; exact EqualFunc_s l m h hx
noncomputable def orcN1 : List (Nat × (List AV → Option (Prop × AV))) := (116, o_equalF) :: []
theorem orcN1_p : Pure Tryz.prog (lk orcN1) := (lk_pure o_equalF_k lk_pure0)
@[simp] theorem orcN1_l (b : Bool) (g : FuncId) (l : List AV) : lk orcN1 b g l = if g = 116 then o_equalF l else none := nr rfl
abbrev k101_o0 : List AJ := [.o ⟨(some 4), none, false, .mv (.c (.bool false)), (some [0, 1])⟩]
abbrev k101_o1 : List AJ := [.o ⟨(some 5), none, false, .mv (.t 0), none⟩, .o ⟨(some 6), none, false, .mv (.t 1), none⟩, .o ⟨(some 7), none, false, .call 116 [(.t 5), (.t 6), (.c (.fn 97 []))], none⟩, .o ⟨(some 4), none, false, .mv (.t 7), (some [4])⟩]
def k101_2 : ACode := .seq (.region k101_o1) .ret
def k101_3 : ACode := .seq (.region k101_o0) k101_2
@[simp, simp ↓] theorem k101_2r : sR k101_2 k101_o1 .ret := yR rfl
@[simp, simp ↓] theorem k101_3r : sR k101_3 k101_o0 k101_2 := yR rfl
noncomputable abbrev k101_C : Orc → Cx := mkC Tryz.prog [] 101 8 [.tmp 4]
theorem k101_of0 : OfP0 Tryz.prog Tryz.f101 101 8 k101_C k101_3 := @ofP0 _ _ _ _ _ _ _ _ Tryz.func101 (by decide +kernel) rfl (by kernel_rfl) rfl (by kernel_rfl)
theorem areSame_s (l m : List (List Int)) (h : Heap) (hl : ssTot l ≤ 1048576) : ACalls Tryz.prog 101 [.snap 1 (l.map il), .snap 1 (m.map il)] h (fun v h' => v = .bool (decide (l = m)) ∧ h' = h) := by
  refine k101_of0 rfl orcN1_p fun I => ?_
  refine Run2.of I 1000 ?_
  simp -implicitDefEqProofs [hl]
noncomputable def o_areSame : List AV → Option (Prop × AV) := tab (fun (x : LS × LS) => match x with | (l, m) => [.snap 1 (l.map il), .snap 1 (m.map il)]) (fun x => match x with | (l, m) => ssTot l ≤ 1048576) (fun x => match x with | (l, m) => .bool (decide (l = m)))
@[simp] theorem o_areSame_e (l : LS) (m : LS) : o_areSame [.snap 1 (l.map il), .snap 1 (m.map il)] = some (ssTot l ≤ 1048576, .bool (decide (l = m))) := tab_at (enc := fun (x : LS × LS) => match x with | (l, m) => [.snap 1 (l.map il), .snap 1 (m.map il)]) (fun x y h => by
  obtain ⟨l1, m1⟩ := x; obtain ⟨l2, m2⟩ := y; simp at h; simp [h] <;> omega) _ _ (l, m)
theorem o_areSame_k : Knows Tryz.prog 101 o_areSame := tab_knows fun x hx h => by
  obtain ⟨l, m⟩ := x; exact areSame_s l m h hx
noncomputable def orcN2 : List (Nat × (List AV → Option (Prop × AV))) := (101, o_areSame) :: []
theorem orcN2_p : Pure Tryz.prog (lk orcN2) := (lk_pure o_areSame_k lk_pure0)
@[simp] theorem orcN2_l (b : Bool) (g : FuncId) (l : List AV) : lk orcN2 b g l = if g = 101 then o_areSame l else none := nr rfl
abbrev k74_o0 : List AJ := [.o ⟨(some 2), none, false, .box false 1 (.t 0), none⟩, .o ⟨(some 3), none, false, .box false 1 (.t 1), none⟩, .o ⟨(some 4), none, false, .mv (.c (.bool false)), (some [2, 3])⟩]
abbrev k74_o1 : List AJ := [.o ⟨(some 5), none, false, .fieldA 0 (.t 2), none⟩, .o ⟨(some 6), none, false, .load 1 false (.t 5), none⟩, .o ⟨(some 7), none, false, .fieldA 0 (.t 3), none⟩, .o ⟨(some 8), none, false, .load 1 false (.t 7), none⟩, .o ⟨(some 9), none, false, .call 101 [(.t 6), (.t 8)], none⟩, .o ⟨(some 4), none, false, .mv (.t 9), (some [4])⟩]
def k74_2 : ACode := .seq (.region k74_o1) .ret
def k74_3 : ACode := .seq (.region k74_o0) k74_2
@[simp, simp ↓] theorem k74_2r : sR k74_2 k74_o1 .ret := yR rfl
@[simp, simp ↓] theorem k74_3r : sR k74_3 k74_o0 k74_2 := yR rfl
noncomputable abbrev k74_C : Orc → Cx := mkC Tryz.prog [] 74 10 [.tmp 4]
theorem k74_of0 : OfP0 Tryz.prog Tryz.f74 74 10 k74_C k74_3 := @ofP0 _ _ _ _ _ _ _ _ Tryz.func74 (by decide +kernel) rfl (by kernel_rfl) rfl (by kernel_rfl)
theorem sameCx_s (l m : List (List Int)) (h : Heap) (hl : ssTot l ≤ 1048576) : ACalls Tryz.prog 74 [.agg [.snap 1 (l.map il)], .agg [.snap 1 (m.map il)]] h (fun v h' => v = .bool (decide (l = m)) ∧ h' = h) := by
  refine k74_of0 rfl orcN2_p fun I => ?_
  refine Run2.of I 1000 ?_
  simp -implicitDefEqProofs [hl]
abbrev k73_o0 : List AJ := [.o ⟨(some 4), none, false, .mv (.c (.bool false)), (some [0, 1])⟩]
abbrev k73_o1 : List AI := [⟨(some 6), none, false, .mv (.t 0), none⟩, ⟨(some 7), none, false, .nilchk (.t 6), none⟩, ⟨(some 8), none, false, .fieldA 0 (.t 7), none⟩, ⟨(some 9), none, false, .load 1 false (.t 8), none⟩, ⟨(some 10), none, false, .len (.t 9), none⟩, ⟨(some 11), none, false, .mv (.t 1), none⟩, ⟨(some 12), none, false, .nilchk (.t 11), none⟩, ⟨(some 13), none, false, .fieldA 0 (.t 12), none⟩, ⟨(some 14), none, false, .load 1 false (.t 13), none⟩, ⟨(some 15), none, false, .len (.t 14), none⟩, ⟨(some 16), none, false, .bin .neq (.t 10) (.t 15), (some [0, 1, 16])⟩]
abbrev k73_o2 : List AJ := [.o ⟨(some 4), none, false, .mv (.c (.bool false)), (some [4])⟩]
def k73_3 : ACode := .seq (.region k73_o2) .ret
def k73_4 : ACode := .cond (.t 16) k73_3 .skip
def k73_5 : ACode := .seq (.draw k73_o1 [] rfl) k73_4
abbrev k73_o3 : List AJ := [.o ⟨(some 5), none, false, .mv (.c (.int .i64 0)), (some [0, 1, 5])⟩]
abbrev k73_o4 : List AJ := [.o ⟨(some 17), none, false, .mv (.t 5), none⟩, .o ⟨(some 18), none, false, .mv (.t 0), none⟩, .o ⟨(some 19), none, false, .nilchk (.t 18), none⟩, .o ⟨(some 20), none, false, .fieldA 0 (.t 19), none⟩, .o ⟨(some 21), none, false, .load 1 false (.t 20), none⟩, .o ⟨(some 22), none, false, .len (.t 21), none⟩, .o ⟨(some 23), none, false, .bin .lss (.t 17) (.t 22), (some [0, 1, 5, 23])⟩]
def k73_8 : ACode := .cond (.t 23) .skip (.exit 0)
def k73_9 : ACode := .seq (.region k73_o4) k73_8
abbrev k73_o5 : List AI := [⟨(some 26), none, false, .mv (.t 0), none⟩, ⟨(some 27), none, false, .nilchk (.t 26), none⟩, ⟨(some 28), none, false, .fieldA 0 (.t 27), none⟩, ⟨(some 29), none, false, .load 1 false (.t 28), none⟩, ⟨(some 30), none, false, .mv (.t 5), none⟩, ⟨(some 31), none, false, .idxA 1 (.t 29) (.t 30), none⟩, ⟨(some 32), none, false, .load 1 false (.t 31), none⟩, ⟨(some 33), none, false, .mv (.t 1), none⟩, ⟨(some 34), none, false, .nilchk (.t 33), none⟩, ⟨(some 35), none, false, .fieldA 0 (.t 34), none⟩, ⟨(some 36), none, false, .load 1 false (.t 35), none⟩, ⟨(some 37), none, false, .mv (.t 5), none⟩, ⟨(some 38), none, false, .idxA 1 (.t 36) (.t 37), none⟩, ⟨(some 39), none, false, .load 1 false (.t 38), (some [0, 1, 5, 32, 39])⟩, ⟨(some 40), none, false, .call 100 [(.t 32), (.t 39)], none⟩, ⟨(some 41), none, false, .un .not (.t 40), (some [0, 1, 5, 41])⟩]
abbrev k73_o6 : List AJ := [.o ⟨(some 4), none, false, .mv (.c (.bool false)), (some [4])⟩]
def k73_12 : ACode := .seq (.region k73_o6) .ret
def k73_13 : ACode := .cond (.t 41) k73_12 .skip
def k73_14 : ACode := .seq (.draw k73_o5 [] rfl) k73_13
abbrev k73_o7 : List AJ := [.o ⟨(some 24), none, false, .mv (.t 5), none⟩, .o ⟨(some 25), none, true, .bin .add (.t 24) (.c (.int .i64 1)), none⟩, .o ⟨(some 5), none, false, .mv (.t 25), (some [0, 1, 5])⟩]
def k73_16 : ACode := .region k73_o7
def k73_17 : ACode := .seq (.block 1 k73_14) k73_16
def k73_18 : ACode := .seq k73_9 k73_17
def k73_19 : ACode := .loop k73_18
def k73_20 : ACode := .block 0 k73_19
def k73_21 : ACode := .seq (.region k73_o3) k73_20
abbrev k73_o8 : List AJ := [.o ⟨(some 4), none, false, .mv (.c (.bool true)), (some [4])⟩]
def k73_23 : ACode := .seq (.region k73_o8) .ret
def k73_24 : ACode := .seq k73_21 k73_23
def k73_25 : ACode := .seq k73_5 k73_24
def k73_26 : ACode := .seq (.region k73_o0) k73_25
@[simp, simp ↓] theorem k73_3r : sR k73_3 k73_o2 .ret := yR rfl
@[simp, simp ↓] theorem k73_4r : rC k73_4 (.t 16) k73_3 .skip := zC rfl
@[simp, simp ↓] theorem k73_5r : sD k73_5 k73_o1 [] k73_4 := yD rfl
@[simp, simp ↓] theorem k73_8r : rC k73_8 (.t 23) .skip (.exit 0) := zC rfl
@[simp, simp ↓] theorem k73_9r : sR k73_9 k73_o4 k73_8 := yR rfl
@[simp, simp ↓] theorem k73_12r : sR k73_12 k73_o6 .ret := yR rfl
@[simp, simp ↓] theorem k73_13r : rC k73_13 (.t 41) k73_12 .skip := zC rfl
@[simp, simp ↓] theorem k73_14r : sD k73_14 k73_o5 [] k73_13 := yD rfl
@[simp, simp ↓] theorem k73_16r : rR k73_16 k73_o7 := zR rfl
@[simp, simp ↓] theorem k73_17r : sB k73_17 1 k73_14 k73_16 := yB rfl
@[simp, simp ↓] theorem k73_18r : rS k73_18 k73_9 k73_17 := zS rfl
@[simp, simp ↓] theorem k73_19r : rL k73_19 k73_18 := zL rfl
@[simp, simp ↓] theorem k73_20r : rB k73_20 0 k73_19 := zB rfl
@[simp, simp ↓] theorem k73_21r : sR k73_21 k73_o3 k73_20 := yR rfl
@[simp, simp ↓] theorem k73_23r : sR k73_23 k73_o8 .ret := yR rfl
@[simp, simp ↓] theorem k73_24r : rS k73_24 k73_21 k73_23 := zS rfl
@[simp, simp ↓] theorem k73_25r : rS k73_25 k73_5 k73_24 := zS rfl
@[simp, simp ↓] theorem k73_26r : sR k73_26 k73_o0 k73_25 := yR rfl
noncomputable abbrev k73_C : Orc → Cx := mkC Tryz.prog [] 73 42 [.tmp 4]
theorem k73_of0 : OfP0 Tryz.prog Tryz.f73 73 42 k73_C k73_26 := @ofP0 _ _ _ _ _ _ _ _ Tryz.func73 (by decide +kernel) rfl (by kernel_rfl) rfl (by kernel_rfl)
theorem l05Same_s (l m : List (List Int)) (e f : List AV) (h : Heap) (hl : ssTot l ≤ 1048576) : ACalls Tryz.prog 73 [.ip (.snap 1 (l.map il) :: e), .ip (.snap 1 (m.map il) :: f)] h (fun v h' => v = .bool (decide (l = m)) ∧ h' = h) := by
  have hf := fit_of_tot hl
  have hn := hf.1
  refine k73_of0 rfl orcS2_p fun I => ?_
  refine Run2.of I 1000 ?_
  simp -implicitDefEqProofs
  refine ⟨by rintro hne rfl; exact hne rfl, fun hlen => ?_⟩
  refine Run2.loopE (fun (i : Nat) => [(0, .ip (.snap 1 (l.map il) :: e)), (1, .ip (.snap 1 (m.map il) :: f)), (5, .int .i64 i)]) (fun i => h) (fun i => l.length - i) (fun i => i ≤ l.length ∧ l.take i = m.take i) 0 (by simp) rfl (by simp) fun i hi ih => ?_
  by_cases hlt : i < l.length
  · have hlt' : i < m.length := by omega
    have hr := hf.2 _ (List.getElem_mem hlt)
    have go := fun (he : l[i] = m[i]) => ih (i + 1) ⟨by omega, by rw [List.take_succ_eq_append_getElem hlt, List.take_succ_eq_append_getElem hlt', hi.2, he]⟩ (by omega)
    clear ih
    refine Run2.of I 1000 ?_
    simp -implicitDefEqProofs [hlt, hlt', hr]
    constructor
    · rintro hne rfl
      exact hne rfl
    · intro he
      exact ⟨by omega, by simpa using go he⟩
  · refine Run2.of I 1000 ?_
    simp -implicitDefEqProofs [hlt]
    have : i = l.length := by omega
    have h2 := hi.2
    rw [List.take_of_length_le (by omega), List.take_of_length_le (by omega)] at h2
    exact h2
noncomputable def o_l05Same : List AV → Option (Prop × AV) := tab (fun (x : LS × LS × List AV × List AV) => match x with | (l, m, e, f) => [.ip (.snap 1 (l.map il) :: e), .ip (.snap 1 (m.map il) :: f)]) (fun x => match x with | (l, m, e, f) => ssTot l ≤ 1048576) (fun x => match x with | (l, m, e, f) => .bool (decide (l = m)))
@[simp] theorem o_l05Same_e (l : LS) (m : LS) (e : List AV) (f : List AV) : o_l05Same [.ip (.snap 1 (l.map il) :: e), .ip (.snap 1 (m.map il) :: f)] = some (ssTot l ≤ 1048576, .bool (decide (l = m))) := tab_at (enc := fun (x : LS × LS × List AV × List AV) => match x with | (l, m, e, f) => [.ip (.snap 1 (l.map il) :: e), .ip (.snap 1 (m.map il) :: f)]) (fun x y h => by
  obtain ⟨l1, m1, e1, f1⟩ := x; obtain ⟨l2, m2, e2, f2⟩ := y; simp at h; simp [h] <;> omega) _ _ (l, m, e, f)
theorem o_l05Same_k : Knows Tryz.prog 73 o_l05Same := tab_knows fun x hx h => by
  obtain ⟨l, m, e, f⟩ := x; exact l05Same_s l m e f h hx
noncomputable def orcN3 : List (Nat × (List AV → Option (Prop × AV))) := (73, o_l05Same) :: (25, o_l21Ok) :: []
theorem orcN3_p : Pure Tryz.prog (lk orcN3) := (lk_pure o_l05Same_k (lk_pure o_l21Ok_k lk_pure0))
@[simp] theorem orcN3_l (b : Bool) (g : FuncId) (l : List AV) : lk orcN3 b g l = if g = 73 then o_l05Same l else if g = 25 then o_l21Ok l else none := nr rfl
abbrev k42_o0 : List AJ := [.o ⟨(some 4), none, false, .mv (.c (.int .i64 0)), (some [0, 1])⟩]
abbrev k42_o1 : List AJ := [.o ⟨(some 5), none, false, .mv (.t 0), none⟩, .o ⟨(some 6), none, false, .call 25 [(.t 5)], none⟩, .o ⟨(some 7), none, false, .un .not (.t 6), none⟩, .o ⟨(some 8), none, false, .mv (.t 7), none⟩, .o ⟨(some 9), (some (8, false)), false, .mv (.t 1), none⟩, .o ⟨(some 10), (some (8, false)), false, .call 25 [(.t 9)], none⟩, .o ⟨(some 11), (some (8, false)), false, .un .not (.t 10), none⟩, .o ⟨(some 12), none, false, .pick (.t 8) (.c (.bool true)) (.t 11), (some [0, 1, 12])⟩]
abbrev k42_o2 : List AJ := [.o ⟨(some 4), none, false, .mv (.c (.int .i64 1)), (some [4])⟩]
def k42_3 : ACode := .seq (.region k42_o2) .ret
def k42_4 : ACode := .cond (.t 12) k42_3 .skip
def k42_5 : ACode := .seq (.region k42_o1) k42_4
abbrev k42_o3 : List AI := [⟨(some 13), none, false, .mv (.t 0), none⟩, ⟨(some 14), none, false, .nilchk (.t 13), none⟩, ⟨(some 15), none, false, .fieldA 0 (.t 14), none⟩, ⟨(some 16), none, false, .mv (.t 1), none⟩, ⟨(some 17), none, false, .nilchk (.t 16), none⟩, ⟨(some 18), none, false, .fieldA 0 (.t 17), none⟩, ⟨(some 19), none, false, .call 73 [(.t 15), (.t 18)], none⟩, ⟨(some 20), none, false, .un .not (.t 19), (some [20])⟩]
abbrev k42_o4 : List AJ := [.o ⟨(some 4), none, false, .mv (.c (.int .i64 6)), (some [4])⟩]
def k42_8 : ACode := .seq (.region k42_o4) .ret
def k42_9 : ACode := .cond (.t 20) k42_8 .skip
def k42_10 : ACode := .seq (.draw k42_o3 [] rfl) k42_9
abbrev k42_o5 : List AJ := [.o ⟨(some 4), none, false, .mv (.c (.int .i64 0)), (some [4])⟩]
def k42_12 : ACode := .seq (.region k42_o5) .ret
def k42_13 : ACode := .seq k42_10 k42_12
def k42_14 : ACode := .seq k42_5 k42_13
def k42_15 : ACode := .seq (.region k42_o0) k42_14
@[simp, simp ↓] theorem k42_3r : sR k42_3 k42_o2 .ret := yR rfl
@[simp, simp ↓] theorem k42_4r : rC k42_4 (.t 12) k42_3 .skip := zC rfl
@[simp, simp ↓] theorem k42_5r : sR k42_5 k42_o1 k42_4 := yR rfl
@[simp, simp ↓] theorem k42_8r : sR k42_8 k42_o4 .ret := yR rfl
@[simp, simp ↓] theorem k42_9r : rC k42_9 (.t 20) k42_8 .skip := zC rfl
@[simp, simp ↓] theorem k42_10r : sD k42_10 k42_o3 [] k42_9 := yD rfl
@[simp, simp ↓] theorem k42_12r : sR k42_12 k42_o5 .ret := yR rfl
@[simp, simp ↓] theorem k42_13r : rS k42_13 k42_10 k42_12 := zS rfl
@[simp, simp ↓] theorem k42_14r : rS k42_14 k42_5 k42_13 := zS rfl
@[simp, simp ↓] theorem k42_15r : sR k42_15 k42_o0 k42_14 := yR rfl
noncomputable abbrev k42_C : Orc → Cx := mkC Tryz.prog [] 42 21 [.tmp 4]
theorem k42_of0 : OfP0 Tryz.prog Tryz.f42 42 21 k42_C k42_15 := @ofP0 _ _ _ _ _ _ _ _ Tryz.func42 (by decide +kernel) rfl (by kernel_rfl) rfl (by kernel_rfl)
theorem l22Two_s (x y : Fil) (h : Heap) (hl : x.tot ≤ 1048576) (hy : y.tot ≤ 1048576) : ACalls Tryz.prog 42 [.ip [.snap 1 (x.rs.map il), .snap 1 (x.ts.map iv)], .ip [.snap 1 (y.rs.map il), .snap 1 (y.ts.map iv)]] h (fun v h' => v = .int .i64 (x.coCode y) ∧ h' = h) := by
  obtain ⟨hl1, hl2⟩ := x.lens hl
  refine k42_of0 rfl orcN3_p fun I => ?_
  unfold Fil.coCode
  by_cases hv : x.valid
  · by_cases hv2 : y.valid
    · refine Run2.of I 1000 ?_
      simp -implicitDefEqProofs [hl, hy, hl1, hv, hv2]
    · refine Run2.of I 1000 ?_
      simp -implicitDefEqProofs [hl, hy, hl1, hv, hv2]
  · refine Run2.of I 1000 ?_
    simp -implicitDefEqProofs [hl, hy, hl1, hv]
noncomputable def o_l22Two : List AV → Option (Prop × AV) := tab (fun (x : LS × List Int × LS × List Int) => match x with | (rs, ts, rs', ts') => [.ip [.snap 1 (rs.map il), .snap 1 (ts.map iv)], .ip [.snap 1 (rs'.map il), .snap 1 (ts'.map iv)]]) (fun x => match x with | (rs, ts, rs', ts') => ((⟨rs, ts⟩ : Fil).tot ≤ 1048576 ∧ (⟨rs', ts'⟩ : Fil).tot ≤ 1048576)) (fun x => match x with | (rs, ts, rs', ts') => .int .i64 ((⟨rs, ts⟩ : Fil).coCode ⟨rs', ts'⟩))
@[simp] theorem o_l22Two_e (rs : LS) (ts : List Int) (rs' : LS) (ts' : List Int) : o_l22Two [.ip [.snap 1 (rs.map il), .snap 1 (ts.map iv)], .ip [.snap 1 (rs'.map il), .snap 1 (ts'.map iv)]] = some (((⟨rs, ts⟩ : Fil).tot ≤ 1048576 ∧ (⟨rs', ts'⟩ : Fil).tot ≤ 1048576), .int .i64 ((⟨rs, ts⟩ : Fil).coCode ⟨rs', ts'⟩)) := tab_at (enc := fun (x : LS × List Int × LS × List Int) => match x with | (rs, ts, rs', ts') => [.ip [.snap 1 (rs.map il), .snap 1 (ts.map iv)], .ip [.snap 1 (rs'.map il), .snap 1 (ts'.map iv)]]) (fun x y h => by
  obtain ⟨rs1, ts1, rs'1, ts'1⟩ := x; obtain ⟨rs2, ts2, rs'2, ts'2⟩ := y; simp at h; simp [h] <;> omega) _ _ (rs, ts, rs', ts')
theorem o_l22Two_k : Knows Tryz.prog 42 o_l22Two := tab_knows fun x hx h => by
  obtain ⟨rs, ts, rs', ts'⟩ := x; exact l22Two_s ⟨rs, ts⟩ ⟨rs', ts'⟩ h hx.1 hx.2
abbrev k43_o0 : List AJ := [.o ⟨(some 3), none, false, .box false 2 (.t 0), none⟩, .o ⟨(some 4), none, false, .box false 2 (.t 1), none⟩, .o ⟨(some 6), none, false, .alloc true 2 (.agg [.nilsl, .nilsl]), none⟩, .o ⟨(some 7), none, false, .mv (.c (.int .i64 0)), (some [2, 3, 4, 6])⟩]
abbrev k43_o1 : List AJ := [.o ⟨(some 10), none, false, .load 2 true (.t 3), none⟩, .o ⟨(some 11), none, false, .call 33 [(.t 10)], none⟩, .o ⟨(some 12), none, false, .un .not (.t 11), none⟩, .o ⟨(some 13), none, false, .mv (.t 12), none⟩, .o ⟨(some 14), (some (13, false)), false, .load 2 true (.t 4), none⟩, .o ⟨(some 15), (some (13, false)), false, .call 33 [(.t 14)], none⟩, .o ⟨(some 16), (some (13, false)), false, .un .not (.t 15), none⟩, .o ⟨(some 17), none, false, .pick (.t 13) (.c (.bool true)) (.t 16), (some [2, 3, 4, 6, 17])⟩]
abbrev k43_o2 : List AJ := [.o ⟨(some 18), none, false, .build [.nilsl, .nilsl] [], none⟩, .o ⟨none, none, false, .store 2 (.t 6) (.t 18), none⟩, .o ⟨(some 7), none, false, .mv (.c (.int .i64 1)), (some [6, 7])⟩]
def k43_3 : ACode := .seq (.region k43_o2) .ret
def k43_4 : ACode := .cond (.t 17) k43_3 .skip
def k43_5 : ACode := .seq (.region k43_o1) k43_4
abbrev k43_o3 : List AJ := [.o ⟨(some 19), none, false, .fieldA 0 (.t 3), none⟩, .o ⟨(some 20), none, false, .load 1 true (.t 19), none⟩, .o ⟨(some 21), none, false, .fieldA 0 (.t 4), none⟩, .o ⟨(some 22), none, false, .load 1 true (.t 21), none⟩, .o ⟨(some 23), none, false, .call 74 [(.t 20), (.t 22)], none⟩, .o ⟨(some 24), none, false, .un .not (.t 23), (some [2, 3, 4, 6, 24])⟩]
abbrev k43_o4 : List AJ := [.o ⟨(some 25), none, false, .build [.nilsl, .nilsl] [], none⟩, .o ⟨none, none, false, .store 2 (.t 6) (.t 25), none⟩, .o ⟨(some 7), none, false, .mv (.c (.int .i64 6)), (some [6, 7])⟩]
def k43_8 : ACode := .seq (.region k43_o4) .ret
def k43_9 : ACode := .cond (.t 24) k43_8 .skip
def k43_10 : ACode := .seq (.region k43_o3) k43_9
abbrev k43_o5 : List AJ := [.o ⟨(some 26), none, false, .load 2 true (.t 3), none⟩, .o ⟨(some 27), none, false, .call 37 [(.t 26)], none⟩, .v 8 2 (.agg [.nilsl, .nilsl]) [] (.t 27) (some [2, 3, 4, 6, 8])]
abbrev k43_o6 : List AJ := [.o ⟨(some 28), none, false, .fieldA 1 (.t 8), none⟩, .o ⟨(some 29), none, false, .load 1 false (.t 28), none⟩, .o ⟨(some 30), none, false, .len (.t 29), none⟩, .o ⟨(some 31), none, false, .mv (.c (.int .i64 0)), (some [2, 3, 4, 6, 8, 30, 31])⟩]
abbrev k43_o7 : List AJ := [.o ⟨(some 32), none, false, .bin .lss (.t 31) (.t 30), (some [2, 3, 4, 6, 8, 30, 31, 32])⟩]
abbrev k43_o8 : List AJ := [.o ⟨(some 33), none, false, .mv (.t 31), none⟩, .o ⟨(some 9), none, false, .mv (.t 33), (some [2, 3, 4, 6, 8, 9, 30, 31])⟩]
abbrev k43_o9 : List AI := [⟨(some 34), none, false, .fieldA 1 (.t 8), none⟩, ⟨(some 35), none, false, .load 1 false (.t 34), none⟩, ⟨(some 36), none, false, .mv (.t 9), none⟩, ⟨(some 37), none, false, .mv (.t 2), none⟩, ⟨(some 38), none, false, .fieldA 1 (.t 3), none⟩, ⟨(some 39), none, false, .load 1 false (.t 38), none⟩, ⟨(some 40), none, false, .mv (.t 9), none⟩, ⟨(some 41), none, false, .idxA 1 (.t 39) (.t 40), none⟩, ⟨(some 42), none, false, .load 1 false (.t 41), none⟩, ⟨(some 43), none, false, .fieldA 1 (.t 4), none⟩, ⟨(some 44), none, false, .load 1 false (.t 43), none⟩, ⟨(some 45), none, false, .mv (.t 9), none⟩, ⟨(some 46), none, false, .idxA 1 (.t 44) (.t 45), none⟩, ⟨(some 47), none, false, .load 1 false (.t 46), (some [2, 3, 4, 6, 8, 30, 31, 35, 36, 37, 42, 47])⟩, ⟨(some 48), none, false, .callv (.t 37) [(.t 42), (.t 47)], none⟩, ⟨(some 49), none, false, .idxA 1 (.t 35) (.t 36), (some [2, 3, 4, 6, 8, 30, 31, 48, 49])⟩]
abbrev k43_o10 : List AJ := [.o ⟨none, none, false, .store 1 (.t 49) (.t 48), (some [2, 3, 4, 6, 8, 30, 31])⟩]
def k43_16 : ACode := .draw k43_o9 k43_o10 rfl
def k43_17 : ACode := .seq (.region k43_o8) k43_16
abbrev k43_o11 : List AJ := [.o ⟨(some 50), none, true, .bin .add (.t 31) (.c (.int .i64 1)), none⟩, .o ⟨(some 31), none, false, .mv (.t 50), (some [2, 3, 4, 6, 8, 30, 31])⟩]
def k43_19 : ACode := .region k43_o11
def k43_20 : ACode := .seq (.block 1 k43_17) k43_19
def k43_21 : ACode := .seq (.cond (.t 32) .skip (.exit 0)) k43_20
def k43_22 : ACode := .seq (.region k43_o7) k43_21
def k43_23 : ACode := .loop k43_22
def k43_24 : ACode := .block 0 k43_23
def k43_25 : ACode := .seq (.region k43_o6) k43_24
abbrev k43_o12 : List AJ := [.o ⟨(some 51), none, false, .load 2 true (.t 8), none⟩, .o ⟨none, none, false, .store 2 (.t 6) (.t 51), none⟩, .o ⟨(some 7), none, false, .mv (.c (.int .i64 0)), (some [6, 7])⟩]
def k43_27 : ACode := .seq (.region k43_o12) .ret
def k43_28 : ACode := .seq k43_25 k43_27
def k43_29 : ACode := .seq (.region k43_o5) k43_28
def k43_30 : ACode := .seq k43_10 k43_29
def k43_31 : ACode := .seq k43_5 k43_30
def k43_32 : ACode := .seq (.region k43_o0) k43_31
@[simp, simp ↓] theorem k43_3r : sR k43_3 k43_o2 .ret := yR rfl
@[simp, simp ↓] theorem k43_4r : rC k43_4 (.t 17) k43_3 .skip := zC rfl
@[simp, simp ↓] theorem k43_5r : sR k43_5 k43_o1 k43_4 := yR rfl
@[simp, simp ↓] theorem k43_8r : sR k43_8 k43_o4 .ret := yR rfl
@[simp, simp ↓] theorem k43_9r : rC k43_9 (.t 24) k43_8 .skip := zC rfl
@[simp, simp ↓] theorem k43_10r : sR k43_10 k43_o3 k43_9 := yR rfl
@[simp, simp ↓] theorem k43_16r : rD k43_16 k43_o9 k43_o10 := zD rfl
@[simp, simp ↓] theorem k43_17r : sR k43_17 k43_o8 k43_16 := yR rfl
@[simp, simp ↓] theorem k43_19r : rR k43_19 k43_o11 := zR rfl
@[simp, simp ↓] theorem k43_20r : sB k43_20 1 k43_17 k43_19 := yB rfl
@[simp, simp ↓] theorem k43_21r : sC k43_21 (.t 32) .skip (.exit 0) k43_20 := yC rfl
@[simp, simp ↓] theorem k43_22r : sR k43_22 k43_o7 k43_21 := yR rfl
@[simp, simp ↓] theorem k43_23r : rL k43_23 k43_22 := zL rfl
@[simp, simp ↓] theorem k43_24r : rB k43_24 0 k43_23 := zB rfl
@[simp, simp ↓] theorem k43_25r : sR k43_25 k43_o6 k43_24 := yR rfl
@[simp, simp ↓] theorem k43_27r : sR k43_27 k43_o12 .ret := yR rfl
@[simp, simp ↓] theorem k43_28r : rS k43_28 k43_25 k43_27 := zS rfl
@[simp, simp ↓] theorem k43_29r : sR k43_29 k43_o5 k43_28 := yR rfl
@[simp, simp ↓] theorem k43_30r : rS k43_30 k43_10 k43_29 := zS rfl
@[simp, simp ↓] theorem k43_31r : rS k43_31 k43_5 k43_30 := zS rfl
@[simp, simp ↓] theorem k43_32r : sR k43_32 k43_o0 k43_31 := yR rfl
noncomputable abbrev k43_C : Orc → Cx := mkC Tryz.prog [6, 8] 43 52 [.cell 6 2 true, .tmp 7]
theorem k43_of : OfP Tryz.prog Tryz.f43 43 52 k43_C k43_32 := @ofP _ _ _ _ _ _ _ _ Tryz.func43 (by decide +kernel) rfl (by kernel_rfl) rfl (by kernel_rfl)
theorem co_loop (I : Is (k43_C noOrc) Tryz.f43) {g : FuncId} {c : Int → Int → Int} (hc : ∀ a b h, ACalls Tryz.prog g [.int .i64 a, .int .i64 b] h (fun v h' => v = .int .i64 (c a b) ∧ h' = h)) {l m : List Int} (hlm : l.length = m.length) (hl : l.length ≤ 1048576) {a1 a2 u w p : AV} {g1 g2 tl : Heap} {sk : List AItem} {R : AV → Heap → Prop} (ow : OwnL iv 1 w l g2) (hd : ∀ i ∈ dom g1, i ∉ dom g2)
    (go : ∀ g3, OwnL iv 1 w (List.zipWith c l m) g3 → dom g3 = dom g2 → vc2 (k43_C noOrc) 994 [] sk [(2, .fn g []), (3, .ip [a1, .snap 1 (l.map iv)]), (4, .ip [a2, .snap 1 (m.map iv)]), (6, p), (8, .ip [u, w]), (30, .int .i64 l.length), (31, .int .i64 l.length), (32, .bool false)] (g1 ++ (g3 ++ tl)) R) :
    Run2 (k43_C noOrc) (.code k43_22 :: .inLoop k43_22 :: .inBlock 0 :: sk) [(2, .fn g []), (3, .ip [a1, .snap 1 (l.map iv)]), (4, .ip [a2, .snap 1 (m.map iv)]), (6, p), (8, .ip [u, w]), (30, .int .i64 l.length), (31, .int .i64 0)] (g1 ++ (g2 ++ tl)) R := by
  rcases ow.split with ⟨hw, rfl, rfl⟩ | ⟨id, cap, ex, rfl, rfl, hex⟩
  · have go := go [] (hw.elim (fun e => e ▸ OwnL.nil) (fun e => e ▸ OwnL.emp)) rfl
    refine Run2.loopE (fun (_ : Unit) => [(2, .fn g []), (3, .ip [a1, .snap 1 []]), (4, .ip [a2, .snap 1 (m.map iv)]), (6, p), (8, .ip [u, w]), (30, .int .i64 0), (31, .int .i64 0)]) (fun _ => g1 ++ ([] ++ tl)) (fun _ => 0) (fun _ => True) () (by simp) rfl trivial fun _ _ _ => ?_
    refine Run2.of I 1000 ?_
    simp -implicitDefEqProofs
    exact go
  · have hid : id ∉ dom g1 := fun hm => hd id hm (by simp [dom])
    have hzl : (List.zipWith c l m).length = l.length := by simp [hlm]
    refine Run2.loopE (fun (i : Nat) => [(2, .fn g []), (3, .ip [a1, .snap 1 (l.map iv)]), (4, .ip [a2, .snap 1 (m.map iv)]), (6, p), (8, .ip [u, .sl id 1 0 l.length cap]), (30, .int .i64 l.length), (31, .int .i64 i)]) (fun i => g1 ++ ([(id, ⟨1, (inpl l (List.zipWith c l m) i).map iv ++ ex⟩)] ++ tl)) (fun i => l.length - i) (fun i => i ≤ l.length) 0 (by simp) (by simp) (Nat.zero_le _) fun i hi ih => ?_
    have hil := inpl_len (l := l) (l' := List.zipWith c l m) (v := i) hzl
    by_cases hlt : i < l.length
    · have hlt2 : i < m.length := by omega
      have go := ih (i + 1) hlt (by omega)
      have hlF : i < (inpl l (List.zipWith c l m) i).length := by omega
      have hsx := inpl_set (l := l) (l' := List.zipWith c l m) (v := i) hzl hlt
      have gA : ∀ z, hget (g1 ++ z) id = hget z id := fun z => hget_app hid
      have sA : ∀ z y, hset (g1 ++ z) id y = g1 ++ hset z id y := fun z y => hset_app hid
      clear ih
      rw [show (List.zipWith c l m)[i]'(hzl ▸ hlt) = c l[i] m[i] by simp] at hsx
      rw [← hsx] at go
      generalize inpl l (List.zipWith c l m) i = F at *
      have hlF2 : i < F.length + ex.length := by omega
      refine Run2.of I 1000 ?_
      simp -implicitDefEqProofs [hlt, hlt2, gA, sA, hlF, hlF2]
      refine dcallK (hc _ _ _) ?_
      simp -implicitDefEqProofs [hlt, hlt2, gA, sA, hlF, hlF2]
      rw [show (List.map iv F).set i (AV.int .i64 (c l[i] m[i])) = (F.set i (c l[i] m[i])).map iv by rw [List.map_set]; rfl]
      refine ⟨by omega, by simpa using go⟩
    · obtain rfl : i = l.length := by omega
      rw [inpl_end hzl]
      have := go [(id, ⟨1, (List.zipWith c l m).map iv ++ ex⟩)] (by have := OwnL.sl (enc := iv) (sz := 1) (l := List.zipWith c l m) id cap ex hex; rwa [hzl] at this) (by simp [dom])
      refine Run2.of I 1000 ?_
      simp -implicitDefEqProofs [hlt]
      simpa using this
theorem comb_o (x y : Fil) {g : FuncId} {c : Int → Int → Int} (hc : ∀ a b h, ACalls Tryz.prog g [.int .i64 a, .int .i64 b] h (fun v h' => v = .int .i64 (c a b) ∧ h' = h)) (hl : x.tot ≤ 1048576) (hy : y.tot ≤ 1048576) : ACalls Tryz.prog 43 [x.av, y.av, .fn g []] [] (fun v h' => ∃ w, v = .tup [w, .int .i64 (x.coCode y)] ∧ OwnFil w (Fil.coF c x y) h') := by
  obtain ⟨hl1, hl2⟩ := x.lens hl
  refine k43_of rfl noPure fun I => ?_
  have bad : ∀ (b : Nat) (k : Int) (z : Blk), x.coCode y = k → k ≠ 0 → Post (fun v h' => ∃ w, v = .tup [w, .int .i64 (x.coCode y)] ∧ OwnFil w (Fil.coF c x y) h') (.tup [.agg [.nilsl, .nilsl], .int .i64 k]) [(b, z)] := fun b k z h1 h2 => by
    have hf : Fil.coF c x y = ⟨[], []⟩ := by unfold Fil.coF; rw [if_neg (by omega)]
    rw [h1, hf]
    exact .drop b (.base ⟨_, rfl, .nilsl, .nilsl, [], [], rfl, .nil, .nil, by simp [dom], by simp [hdel]⟩)
  by_cases hv : x.valid
  · by_cases hv2 : y.valid
    · have hcp := copyFil_o x hl hv
      refine Run2.of I 1000 ?_
      simp -implicitDefEqProofs
      intro b
      refine (validFil_s x _ hl).mono ?_
      rintro v h' ⟨rfl, rfl⟩
      refine gK.go ?_
      simp -implicitDefEqProofs [hv]
      refine (validFil_s y _ hy).mono ?_
      rintro v h' ⟨rfl, rfl⟩
      refine gK.go ?_
      simp -implicitDefEqProofs [hv2]
      refine (sameCx_s x.rs y.rs _ hl1).mono ?_
      rintro v h' ⟨rfl, rfl⟩
      by_cases hrs : x.rs = y.rs
      · have hcd : x.coCode y = 0 := by simp only [Fil.coCode, if_pos (And.intro hv hv2), if_pos hrs]
        have hf : Fil.coF c x y = Fil.coT c x y := by unfold Fil.coF; rw [if_pos hcd]
        rw [hcd, hf]
        refine gK.go ?_
        simp -implicitDefEqProofs [hrs]
        simp only [← hrs]
        refine (ACalls.gives [] (by simp) hcp fun v h' o => o.own).mono ?_
        rintro v h' ⟨g0, ⟨u, w, g1, g2, rfl, ou, ow, hdis, rfl⟩, hd, rfl⟩
        have cu := ou.cell
        have cw := ow.cell
        have su := stor_of cu
        have sw := stor_of cw
        have lu := cells_of cu
        have lw := cells_of cw
        have ll := ow.len
        refine gK.go ?_
        simp -implicitDefEqProofs [cu, cw, su, sw, lu, lw, ll]
        have hb1 : b ∉ dom g1 := fun hm => hd b (by rw [dom_append]; exact List.mem_append_left _ hm) (by simp [dom])
        have hb2 : b ∉ dom g2 := fun hm => hd b (by rw [dom_append]; exact List.mem_append_right _ hm) (by simp [dom])
        have hlm : x.ts.length = y.ts.length := by
          have h1 := hv.2.1.1
          have h2 := hv2.2.1.1
          rw [h1, h2, hrs]
        refine co_loop I hc hlm hl2 ow hdis fun g3 ow3 hd3 => ?_
        have hb3 : b ∉ dom g3 := by rw [hd3]; exact hb2
        have gA : ∀ z, hget (g1 ++ z) b = hget z b := fun z => hget_app hb1
        have gB : ∀ z, hget (g3 ++ z) b = hget z b := fun z => hget_app hb3
        have sA : ∀ z y, hset (g1 ++ z) b y = g1 ++ hset z b y := fun z y => hset_app hb1
        have sB : ∀ z y, hset (g3 ++ z) b y = g3 ++ hset z b y := fun z y => hset_app hb3
        simp -implicitDefEqProofs [cu, cw, su, sw, lu, lw, gA, gB, sA, sB]
        rw [← List.append_assoc]
        refine Post.dropR (fun i hi hm => ?_) (.base ⟨_, rfl, u, w, g1, g3, rfl, ou, ow3, fun i hi hm => hdis i hi (by rw [← hd3]; exact hm), rfl⟩)
        simp only [dom, List.map_cons, List.map_nil, List.mem_singleton] at hi
        subst hi
        rw [dom_append, List.mem_append] at hm
        exact hm.elim hb1 hb3
      · have hcd : x.coCode y = 6 := by simp only [Fil.coCode, if_pos (And.intro hv hv2), if_neg hrs]
        have := bad b 6
        refine gK.go ?_
        simp -implicitDefEqProofs [hrs]
        exact bad b 6 _ hcd (by omega)
    · have hcd : x.coCode y = 1 := by simp only [Fil.coCode, if_neg (fun h : _ ∧ _ => hv2 h.2)]
      refine Run2.of I 1000 ?_
      simp -implicitDefEqProofs
      intro b
      refine (validFil_s x _ hl).mono ?_
      rintro v h' ⟨rfl, rfl⟩
      refine gK.go ?_
      simp -implicitDefEqProofs [hv]
      refine (validFil_s y _ hy).mono ?_
      rintro v h' ⟨rfl, rfl⟩
      refine gK.go ?_
      simp -implicitDefEqProofs [hv2]
      exact bad b 1 _ hcd (by omega)
  · have hcd : x.coCode y = 1 := by simp only [Fil.coCode, if_neg (fun h : _ ∧ _ => hv h.1)]
    refine Run2.of I 1000 ?_
    simp -implicitDefEqProofs
    intro b
    refine (validFil_s x _ hl).mono ?_
    rintro v h' ⟨rfl, rfl⟩
    refine gK.go ?_
    simp -implicitDefEqProofs [hv]
    exact bad b 1 _ hcd (by omega)
end Go.AG
