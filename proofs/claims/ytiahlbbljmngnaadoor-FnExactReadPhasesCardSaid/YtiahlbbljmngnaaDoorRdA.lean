/- Numbers read, texts divided: the program and the reference. No statement is made here. -/
import Derived.Test.YtiahlbbljmngnaaDoorRdF
import Derived.Test.YtiahlbbljmngnaaDoorStB
namespace Go.AG
open Go.Proofs Go.Proofs.YtiahlbbljmngnaaDoor
set_option linter.unusedSimpArgs false
set_option linter.unusedVariables false
set_option maxRecDepth 4000
def wfS (s : List UInt8) : Prop := s.length ≤ 9223372036854775807
theorem Str_of_shape {x : AV} (h : shV .str x) : ∃ s : List UInt8, x = .str s ∧ wfS s := by
  obtain ⟨h1, s, e, r⟩ := h
  have hm : maxLen ≤ 9223372036854775807 := by decide
  cases x <;> simp [isAgg, Ty.isS, cellsOf] at h1 e
  exact ⟨s, by rw [e], Nat.le_trans r hm⟩
noncomputable def orcRa1 : List (Nat × (List AV → Option (Prop × AV))) := (39, o_trim) :: (41, o_Decimal) :: []
theorem orcRa1_p : Pure Tryd.prog (lk orcRa1) := (lk_pure o_trim_k (lk_pure o_Decimal_k lk_pure0))
@[simp] theorem orcRa1_l (b : Bool) (g : FuncId) (l : List AV) : lk orcRa1 b g l = if g = 39 then o_trim l else if g = 41 then o_Decimal l else none := nr rfl
abbrev k20_o0 : List AJ := [.o ⟨(some 2), none, false, .mv (.c (.int .i64 0)), none⟩, .o ⟨(some 3), none, false, .mv (.c (.bool false)), (some [0])⟩]
abbrev k20_o1 : List AJ := [.o ⟨(some 7), none, false, .mv (.t 0), none⟩, .o ⟨(some 8), none, false, .call 39 [(.t 7), (.c (.str [45]))], none⟩, .o ⟨(some 4), none, false, .mv (.t 8), (some [0, 4])⟩]
abbrev k20_o2 : List AJ := [.o ⟨(some 9), none, false, .mv (.t 4), none⟩, .o ⟨(some 10), none, false, .slen (.t 9), none⟩, .o ⟨(some 11), none, false, .bin .lss (.t 10) (.c (.int .i64 1)), none⟩, .o ⟨(some 12), none, false, .mv (.t 11), none⟩, .o ⟨(some 13), (some (12, false)), false, .mv (.t 4), none⟩, .o ⟨(some 14), (some (12, false)), false, .slen (.t 13), none⟩, .o ⟨(some 15), (some (12, false)), false, .bin .gtr (.t 14) (.c (.int .i64 18)), none⟩, .o ⟨(some 16), none, false, .pick (.t 12) (.c (.bool true)) (.t 15), (some [0, 16])⟩]
abbrev k20_o3 : List AJ := [.o ⟨(some 2), none, false, .mv (.c (.int .i64 0)), none⟩, .o ⟨(some 3), none, false, .mv (.c (.bool false)), (some [2, 3])⟩]
def k20_4 : ACode := .seq (.region k20_o3) .ret
def k20_5 : ACode := .cond (.t 16) k20_4 .skip
def k20_6 : ACode := .seq (.region k20_o2) k20_5
abbrev k20_o4 : List AJ := [.o ⟨(some 18), none, false, .mv (.t 0), none⟩, .o ⟨(some 19), none, false, .call 40 [(.t 18), (.c (.int .i64 10)), (.c (.int .i64 64))], none⟩, .o ⟨(some 17), none, false, .mv (.t 19), none⟩, .o ⟨(some 20), none, false, .extract (.t 17) 0, none⟩, .o ⟨(some 21), none, false, .extract (.t 17) 1, none⟩, .o ⟨(some 5), none, false, .mv (.t 20), none⟩, .o ⟨(some 6), none, false, .mv (.t 21), (some [0, 5, 6])⟩]
abbrev k20_o5 : List AJ := [.o ⟨(some 22), none, false, .mv (.t 6), none⟩, .o ⟨(some 23), none, false, .eqn 3 true (.t 22), none⟩, .o ⟨(some 24), none, false, .mv (.t 23), none⟩, .o ⟨(some 25), (some (24, false)), false, .mv (.t 5), none⟩, .o ⟨(some 26), (some (24, false)), false, .call 41 [(.t 25)], none⟩, .o ⟨(some 27), (some (24, false)), false, .mv (.t 0), none⟩, .o ⟨(some 28), (some (24, false)), false, .bin .neq (.t 26) (.t 27), none⟩, .o ⟨(some 29), none, false, .pick (.t 24) (.c (.bool true)) (.t 28), (some [5, 29])⟩]
abbrev k20_o6 : List AJ := [.o ⟨(some 2), none, false, .mv (.c (.int .i64 0)), none⟩, .o ⟨(some 3), none, false, .mv (.c (.bool false)), (some [2, 3])⟩]
def k20_10 : ACode := .seq (.region k20_o6) .ret
def k20_11 : ACode := .cond (.t 29) k20_10 .skip
def k20_12 : ACode := .seq (.region k20_o5) k20_11
abbrev k20_o7 : List AJ := [.o ⟨(some 30), none, false, .mv (.t 5), none⟩, .o ⟨(some 2), none, false, .mv (.t 30), none⟩, .o ⟨(some 3), none, false, .mv (.c (.bool true)), (some [2, 3])⟩]
def k20_14 : ACode := .seq (.region k20_o7) .ret
def k20_15 : ACode := .seq k20_12 k20_14
def k20_16 : ACode := .seq (.region k20_o4) k20_15
def k20_17 : ACode := .seq k20_6 k20_16
def k20_18 : ACode := .seq (.region k20_o1) k20_17
def k20_19 : ACode := .seq (.region k20_o0) k20_18
@[simp, simp ↓] theorem k20_4r : sR k20_4 k20_o3 .ret := yR rfl
@[simp, simp ↓] theorem k20_5r : rC k20_5 (.t 16) k20_4 .skip := zC rfl
@[simp, simp ↓] theorem k20_6r : sR k20_6 k20_o2 k20_5 := yR rfl
@[simp, simp ↓] theorem k20_10r : sR k20_10 k20_o6 .ret := yR rfl
@[simp, simp ↓] theorem k20_11r : rC k20_11 (.t 29) k20_10 .skip := zC rfl
@[simp, simp ↓] theorem k20_12r : sR k20_12 k20_o5 k20_11 := yR rfl
@[simp, simp ↓] theorem k20_14r : sR k20_14 k20_o7 .ret := yR rfl
@[simp, simp ↓] theorem k20_15r : rS k20_15 k20_12 k20_14 := zS rfl
@[simp, simp ↓] theorem k20_16r : sR k20_16 k20_o4 k20_15 := yR rfl
@[simp, simp ↓] theorem k20_17r : rS k20_17 k20_6 k20_16 := zS rfl
@[simp, simp ↓] theorem k20_18r : sR k20_18 k20_o1 k20_17 := yR rfl
@[simp, simp ↓] theorem k20_19r : sR k20_19 k20_o0 k20_18 := yR rfl
noncomputable abbrev k20_C : Orc → Cx := mkC Tryd.prog [] 20 31 [.tmp 2, .tmp 3]
theorem k20_of0 : OfP0 Tryd.prog Tryd.f20 20 31 k20_C k20_19 := @ofP0 _ _ _ _ _ _ _ _ Tryd.func20 (by decide +kernel) rfl (by kernel_rfl) rfl (by kernel_rfl)
theorem ReadDecimal_c (s : List UInt8) (h : Heap) (hs : s.length ≤ 1048576) : ACalls Tryd.prog 20 [.str s] h (fun v h' => v = .tup [.int .i64 (rd s).1, .bool (rd s).2] ∧ h' = h) := by
  refine k20_of0 rfl orcRa1_p fun I => ?_
  by_cases h0 : tl s = []
  · rw [rd_len (.inl (by simp [h0]))]
    refine Run2.of I 1000 ?_
    simp -implicitDefEqProofs [trim_tl, h0]
  · have hl0 : (tl s).length ≠ 0 := fun e => h0 (List.length_eq_zero_iff.1 e)
    have hl1 : ¬ ((tl s).length : Int) < 1 := by omega
    by_cases h18 : 18 < (tl s).length
    · rw [rd_len (.inr h18)]
      have hl2 : (18 : Int) < (tl s).length := by omega
      refine Run2.of I 1000 ?_
      simp -implicitDefEqProofs [trim_tl, hl1, hl2]
    · have hl2 : ¬ (18 : Int) < (tl s).length := by omega
      refine Run2.of I 1000 ?_
      simp -implicitDefEqProofs [trim_tl, hl1, hl2]
      refine (parse_c s h (by omega)).mono ?_
      rintro v h' ⟨rfl, ⟨n, hp, rfl⟩ | ⟨hp, k, rfl⟩⟩
      · rw [rd_parse hp h18]
        have hb := Lib.parseIntB_bounds hp
        have h64 : in64 n := by unfold in64; omega
        have h64a := h64.1
        have h64b := h64.2
        refine gK.go ?_
        by_cases he : Lib.itoa n = s
        · simp -implicitDefEqProofs [he, h64a, h64b]
        · simp -implicitDefEqProofs [he, h64a, h64b]
      · rw [rd_parse_no hp]
        refine gK.go ?_
        simp -implicitDefEqProofs
noncomputable def o_ReadDecimal : List AV → Option (Prop × AV) := tab (fun (x : Txt) => match x with | s => [.str s]) (fun x => match x with | s => s.length ≤ 1048576) (fun x => match x with | s => .tup [.int .i64 (rd s).1, .bool (rd s).2])
@[simp] theorem o_ReadDecimal_e (s : Txt) : o_ReadDecimal [.str s] = some (s.length ≤ 1048576, .tup [.int .i64 (rd s).1, .bool (rd s).2]) := tab_at (enc := fun (x : Txt) => match x with | s => [.str s]) (fun x y h => by
  simp at h; simp [h] <;> omega) _ _ s
theorem o_ReadDecimal_k : Knows Tryd.prog 20 o_ReadDecimal := tab_knows fun x hx h => by
  exact ReadDecimal_c x h hx
abbrev k48_o0 : List AJ := [.o ⟨(some 2), none, false, .mv (.c (.bool false)), (some [0])⟩]
abbrev k48_o1 : List AJ := [.o ⟨(some 3), none, false, .mv (.t 0), none⟩, .o ⟨(some 4), none, false, .bin .geq (.t 3) (.c (.int .u8 48)), none⟩, .o ⟨(some 5), none, false, .mv (.t 4), none⟩, .o ⟨(some 6), (some (5, true)), false, .mv (.t 0), none⟩, .o ⟨(some 7), (some (5, true)), false, .bin .leq (.t 6) (.c (.int .u8 57)), none⟩, .o ⟨(some 8), none, false, .pick (.t 5) (.t 7) (.c (.bool false)), none⟩, .o ⟨(some 2), none, false, .mv (.t 8), (some [2])⟩]
def k48_2 : ACode := .seq (.region k48_o1) .ret
def k48_3 : ACode := .seq (.region k48_o0) k48_2
@[simp, simp ↓] theorem k48_2r : sR k48_2 k48_o1 .ret := yR rfl
@[simp, simp ↓] theorem k48_3r : sR k48_3 k48_o0 k48_2 := yR rfl
noncomputable abbrev k48_C : Orc → Cx := mkC Tryd.prog [] 48 9 [.tmp 2]
theorem k48_of0 : OfP0 Tryd.prog Tryd.f48 48 9 k48_C k48_3 := @ofP0 _ _ _ _ _ _ _ _ Tryd.func48 (by decide +kernel) rfl (by kernel_rfl) rfl (by kernel_rfl)
theorem l01Digit_c (b : Int) (h : Heap) : ACalls Tryd.prog 48 [.int .u8 b] h (fun v h' => v = .bool (decide (48 ≤ b) && decide (b ≤ 57)) ∧ h' = h) := by
  refine k48_of0 rfl noPure fun I => ?_
  refine Run2.of I 1000 ?_
  simp -implicitDefEqProofs
  try grind
noncomputable def o_l01Digit : List AV → Option (Prop × AV) := tab (fun (x : Int) => match x with | b => [.int .u8 b]) (fun x => match x with | b => True) (fun x => match x with | b => .bool (decide (48 ≤ b) && decide (b ≤ 57)))
@[simp] theorem o_l01Digit_e (b : Int) : o_l01Digit [.int .u8 b] = some (True, .bool (decide (48 ≤ b) && decide (b ≤ 57))) := tab_at (enc := fun (x : Int) => match x with | b => [.int .u8 b]) (fun x y h => by
  simp at h; simp [h] <;> omega) _ _ b
theorem o_l01Digit_k : Knows Tryd.prog 48 o_l01Digit := tab_knows fun x hx h => by
  exact l01Digit_c x h
noncomputable def orcRa2 : List (Nat × (List AV → Option (Prop × AV))) := (48, o_l01Digit) :: []
theorem orcRa2_p : Pure Tryd.prog (lk orcRa2) := (lk_pure o_l01Digit_k lk_pure0)
@[simp] theorem orcRa2_l (b : Bool) (g : FuncId) (l : List AV) : lk orcRa2 b g l = if g = 48 then o_l01Digit l else none := nr rfl
theorem u8_sm : ∀ d < 10, IntKind.u8.wrap (d : Nat) = (d : Int) := by decide
abbrev k24_o0 : List AJ := [.o ⟨(some 2), none, false, .mv (.c (.int .i64 0)), none⟩, .o ⟨(some 3), none, false, .mv (.c (.bool false)), (some [0])⟩]
abbrev k24_o1 : List AJ := [.o ⟨(some 4), none, false, .mv (.c (.int .i64 0)), (some [0, 4])⟩]
abbrev k24_o2 : List AJ := [.o ⟨(some 7), none, false, .mv (.t 0), none⟩, .o ⟨(some 8), none, false, .slen (.t 7), none⟩, .o ⟨(some 9), none, false, .bin .gtr (.t 8) (.c (.int .i64 0)), none⟩, .o ⟨(some 10), none, false, .mv (.t 9), none⟩, .o ⟨(some 11), (some (10, true)), false, .mv (.t 0), none⟩, .o ⟨(some 12), (some (10, true)), false, .idx (.t 11) (.c (.int .i64 0)), none⟩, .o ⟨(some 13), (some (10, true)), false, .bin .eql (.t 12) (.c (.int .u8 45)), none⟩, .o ⟨(some 14), none, false, .pick (.t 10) (.t 13) (.c (.bool false)), (some [0, 4, 14])⟩]
abbrev k24_o3 : List AJ := [.o ⟨(some 4), none, false, .mv (.c (.int .i64 1)), (some [0, 4])⟩]
def k24_3 : ACode := .region k24_o3
def k24_4 : ACode := .cond (.t 14) k24_3 .skip
def k24_5 : ACode := .seq (.region k24_o2) k24_4
abbrev k24_o4 : List AJ := [.o ⟨(some 15), none, false, .mv (.t 0), none⟩, .o ⟨(some 16), none, false, .slen (.t 15), none⟩, .o ⟨(some 17), none, false, .mv (.t 4), none⟩, .o ⟨(some 18), none, false, .bin .eql (.t 16) (.t 17), none⟩, .o ⟨(some 19), none, false, .mv (.t 18), none⟩, .o ⟨(some 20), (some (19, false)), false, .mv (.t 0), none⟩, .o ⟨(some 21), (some (19, false)), false, .slen (.t 20), none⟩, .o ⟨(some 22), (some (19, false)), false, .mv (.t 4), none⟩, .o ⟨(some 23), (some (19, false)), true, .bin .sub (.t 21) (.t 22), none⟩, .o ⟨(some 24), (some (19, false)), false, .bin .gtr (.t 23) (.c (.int .i64 18)), (some [0, 4, 19, 24])⟩, .o ⟨(some 25), none, false, .pick (.t 19) (.c (.bool true)) (.t 24), none⟩, .o ⟨(some 26), none, false, .mv (.t 25), none⟩, .o ⟨(some 27), (some (26, false)), false, .mv (.t 0), none⟩, .o ⟨(some 28), (some (26, false)), false, .mv (.t 4), none⟩, .o ⟨(some 29), (some (26, false)), false, .idx (.t 27) (.t 28), none⟩, .o ⟨(some 30), (some (26, false)), false, .bin .eql (.t 29) (.c (.int .u8 48)), none⟩, .o ⟨(some 31), (some (26, false)), false, .mv (.t 30), none⟩, .o ⟨(some 32), (some (31, true)), false, .mv (.t 0), (some [0, 4, 26, 31, 32])⟩, .o ⟨(some 33), (some (31, true)), false, .slen (.t 32), none⟩, .o ⟨(some 34), (some (31, true)), false, .bin .gtr (.t 33) (.c (.int .i64 1)), none⟩, .o ⟨(some 35), (some (26, false)), false, .pick (.t 31) (.t 34) (.c (.bool false)), none⟩, .o ⟨(some 36), none, false, .pick (.t 26) (.c (.bool true)) (.t 35), (some [0, 4, 36])⟩]
abbrev k24_o5 : List AJ := [.o ⟨(some 2), none, false, .mv (.c (.int .i64 0)), none⟩, .o ⟨(some 3), none, false, .mv (.c (.bool false)), (some [2, 3])⟩]
def k24_8 : ACode := .seq (.region k24_o5) .ret
def k24_9 : ACode := .cond (.t 36) k24_8 .skip
def k24_10 : ACode := .seq (.region k24_o4) k24_9
abbrev k24_o6 : List AJ := [.o ⟨(some 5), none, false, .mv (.c (.int .i64 0)), (some [0, 4, 5])⟩]
abbrev k24_o7 : List AJ := [.o ⟨(some 37), none, false, .mv (.t 4), none⟩, .o ⟨(some 6), none, false, .mv (.t 37), (some [0, 4, 5, 6])⟩]
abbrev k24_o8 : List AJ := [.o ⟨(some 38), none, false, .mv (.t 6), none⟩, .o ⟨(some 39), none, false, .mv (.t 0), none⟩, .o ⟨(some 40), none, false, .slen (.t 39), none⟩, .o ⟨(some 41), none, false, .bin .lss (.t 38) (.t 40), (some [0, 4, 5, 6, 41])⟩]
def k24_14 : ACode := .cond (.t 41) .skip (.exit 0)
def k24_15 : ACode := .seq (.region k24_o8) k24_14
abbrev k24_o9 : List AJ := [.o ⟨(some 44), none, false, .mv (.t 0), none⟩, .o ⟨(some 45), none, false, .mv (.t 6), none⟩, .o ⟨(some 46), none, false, .idx (.t 44) (.t 45), none⟩, .o ⟨(some 47), none, false, .call 48 [(.t 46)], none⟩, .o ⟨(some 48), none, false, .un .not (.t 47), (some [0, 4, 5, 6, 48])⟩]
abbrev k24_o10 : List AJ := [.o ⟨(some 2), none, false, .mv (.c (.int .i64 0)), none⟩, .o ⟨(some 3), none, false, .mv (.c (.bool false)), (some [2, 3])⟩]
def k24_18 : ACode := .seq (.region k24_o10) .ret
def k24_19 : ACode := .cond (.t 48) k24_18 .skip
def k24_20 : ACode := .seq (.region k24_o9) k24_19
abbrev k24_o11 : List AJ := [.o ⟨(some 49), none, false, .mv (.t 5), none⟩, .o ⟨(some 50), none, true, .bin .mul (.c (.int .i64 10)) (.t 49), none⟩, .o ⟨(some 51), none, false, .mv (.t 0), none⟩, .o ⟨(some 52), none, false, .mv (.t 6), none⟩, .o ⟨(some 53), none, false, .idx (.t 51) (.t 52), none⟩, .o ⟨(some 54), none, false, .bin .sub (.t 53) (.c (.int .u8 48)), none⟩, .o ⟨(some 55), none, true, .conv .i64 (.t 54), none⟩, .o ⟨(some 56), none, true, .bin .add (.t 50) (.t 55), none⟩, .o ⟨(some 5), none, false, .mv (.t 56), (some [0, 4, 5, 6])⟩]
def k24_21 : ACode := .region k24_o11
def k24_22 : ACode := .seq k24_20 k24_21
abbrev k24_o12 : List AJ := [.o ⟨(some 42), none, false, .mv (.t 6), none⟩, .o ⟨(some 43), none, true, .bin .add (.t 42) (.c (.int .i64 1)), none⟩, .o ⟨(some 6), none, false, .mv (.t 43), (some [0, 4, 5, 6])⟩]
def k24_24 : ACode := .region k24_o12
def k24_25 : ACode := .seq (.block 1 k24_22) k24_24
def k24_26 : ACode := .seq k24_15 k24_25
def k24_27 : ACode := .loop k24_26
def k24_28 : ACode := .block 0 k24_27
def k24_29 : ACode := .seq (.region k24_o7) k24_28
abbrev k24_o13 : List AJ := [.o ⟨(some 57), none, false, .mv (.t 4), none⟩, .o ⟨(some 58), none, false, .bin .eql (.t 57) (.c (.int .i64 1)), (some [5, 58])⟩]
abbrev k24_o14 : List AJ := [.o ⟨(some 59), none, false, .mv (.t 5), none⟩, .o ⟨(some 60), none, false, .un .neg (.t 59), none⟩, .o ⟨(some 5), none, false, .mv (.t 60), (some [5])⟩]
def k24_31 : ACode := .region k24_o14
def k24_32 : ACode := .cond (.t 58) k24_31 .skip
def k24_33 : ACode := .seq (.region k24_o13) k24_32
abbrev k24_o15 : List AJ := [.o ⟨(some 61), none, false, .mv (.t 5), none⟩, .o ⟨(some 2), none, false, .mv (.t 61), none⟩, .o ⟨(some 3), none, false, .mv (.c (.bool true)), (some [2, 3])⟩]
def k24_35 : ACode := .seq (.region k24_o15) .ret
def k24_36 : ACode := .seq k24_33 k24_35
def k24_37 : ACode := .seq k24_29 k24_36
def k24_38 : ACode := .seq (.region k24_o6) k24_37
def k24_39 : ACode := .seq k24_10 k24_38
def k24_40 : ACode := .seq k24_5 k24_39
def k24_41 : ACode := .seq (.region k24_o1) k24_40
def k24_42 : ACode := .seq (.region k24_o0) k24_41
@[simp, simp ↓] theorem k24_3r : rR k24_3 k24_o3 := zR rfl
@[simp, simp ↓] theorem k24_4r : rC k24_4 (.t 14) k24_3 .skip := zC rfl
@[simp, simp ↓] theorem k24_5r : sR k24_5 k24_o2 k24_4 := yR rfl
@[simp, simp ↓] theorem k24_8r : sR k24_8 k24_o5 .ret := yR rfl
@[simp, simp ↓] theorem k24_9r : rC k24_9 (.t 36) k24_8 .skip := zC rfl
@[simp, simp ↓] theorem k24_10r : sR k24_10 k24_o4 k24_9 := yR rfl
@[simp, simp ↓] theorem k24_14r : rC k24_14 (.t 41) .skip (.exit 0) := zC rfl
@[simp, simp ↓] theorem k24_15r : sR k24_15 k24_o8 k24_14 := yR rfl
@[simp, simp ↓] theorem k24_18r : sR k24_18 k24_o10 .ret := yR rfl
@[simp, simp ↓] theorem k24_19r : rC k24_19 (.t 48) k24_18 .skip := zC rfl
@[simp, simp ↓] theorem k24_20r : sR k24_20 k24_o9 k24_19 := yR rfl
@[simp, simp ↓] theorem k24_21r : rR k24_21 k24_o11 := zR rfl
@[simp, simp ↓] theorem k24_22r : rS k24_22 k24_20 k24_21 := zS rfl
@[simp, simp ↓] theorem k24_24r : rR k24_24 k24_o12 := zR rfl
@[simp, simp ↓] theorem k24_25r : sB k24_25 1 k24_22 k24_24 := yB rfl
@[simp, simp ↓] theorem k24_26r : rS k24_26 k24_15 k24_25 := zS rfl
@[simp, simp ↓] theorem k24_27r : rL k24_27 k24_26 := zL rfl
@[simp, simp ↓] theorem k24_28r : rB k24_28 0 k24_27 := zB rfl
@[simp, simp ↓] theorem k24_29r : sR k24_29 k24_o7 k24_28 := yR rfl
@[simp, simp ↓] theorem k24_31r : rR k24_31 k24_o14 := zR rfl
@[simp, simp ↓] theorem k24_32r : rC k24_32 (.t 58) k24_31 .skip := zC rfl
@[simp, simp ↓] theorem k24_33r : sR k24_33 k24_o13 k24_32 := yR rfl
@[simp, simp ↓] theorem k24_35r : sR k24_35 k24_o15 .ret := yR rfl
@[simp, simp ↓] theorem k24_36r : rS k24_36 k24_33 k24_35 := zS rfl
@[simp, simp ↓] theorem k24_37r : rS k24_37 k24_29 k24_36 := zS rfl
@[simp, simp ↓] theorem k24_38r : sR k24_38 k24_o6 k24_37 := yR rfl
@[simp, simp ↓] theorem k24_39r : rS k24_39 k24_10 k24_38 := zS rfl
@[simp, simp ↓] theorem k24_40r : rS k24_40 k24_5 k24_39 := zS rfl
@[simp, simp ↓] theorem k24_41r : sR k24_41 k24_o1 k24_40 := yR rfl
@[simp, simp ↓] theorem k24_42r : sR k24_42 k24_o0 k24_41 := yR rfl
noncomputable abbrev k24_C : Orc → Cx := mkC Tryd.prog [] 24 62 [.tmp 2, .tmp 3]
theorem k24_of0 : OfP0 Tryd.prog Tryd.f24 24 62 k24_C k24_42 := @ofP0 _ _ _ _ _ _ _ _ Tryd.func24 (by decide +kernel) rfl (by kernel_rfl) rfl (by kernel_rfl)
theorem num_loop (I : Is (k24_C (lk orcRa2)) Tryd.f24) (s : List UInt8) (at' : Nat) (h : Heap) (hat : at' = if s.head? = some 45 then 1 else 0) (h1 : tl s ≠ []) (h2 : (tl s).length ≤ 18) (h3 : ∀ r, tl s = 48 :: r → s.length ≤ 1) :
    Run2 (k24_C (lk orcRa2)) [.code k24_26, .inLoop k24_26, .inBlock 0, .code k24_36] [(0, .str s), (4, .int .i64 at'), (5, .int .i64 0), (6, .int .i64 at')] h (fun v h' => v = .tup [.int .i64 (rd s).1, .bool (rd s).2] ∧ h' = h) := by
  have hsl : s.length = at' + (tl s).length := by
    rw [hat]; unfold tl
    split
    · rename_i hh
      cases s with
      | nil => simp at hh
      | cons a r => simp; omega
    · omega
  have hget : ∀ j (hj : j < (tl s).length) (hk : at' + j < s.length), s[at' + j] = (tl s)[j] := fun j hj hk => by
    by_cases hh : s.head? = some 45
    · rw [if_pos hh] at hat
      subst hat
      cases s with
      | nil => simp at hh
      | cons a r =>
        have : tl (a :: r) = r := by unfold tl; rw [if_pos hh]; rfl
        simp only [this, Nat.add_comm 1 j, List.getElem_cons_succ]
    · rw [if_neg hh] at hat
      subst hat
      have : tl s = s := by unfold tl; rw [if_neg hh]
      simp only [this, Nat.zero_add]
  have hvl : ∀ j, j ≤ (tl s).length → (∀ b ∈ (tl s).take j, isDig b) → valD 0 ((tl s).take j) < 1000000000000000000 := fun j hj hd => by
    have := valD_lt ((tl s).take j) 0 hd
    rw [List.length_take, Nat.min_eq_left hj, Nat.zero_add, Nat.one_mul] at this
    exact Nat.lt_of_lt_of_le this (by have := Nat.pow_le_pow_right (n := 10) (by omega) (show j ≤ 18 by omega); simpa using this)
  refine Run2.loopE (fun (j : Nat) => [(0, .str s), (4, .int .i64 at'), (5, .int .i64 (valD 0 ((tl s).take j))), (6, .int .i64 ((at' : Int) + j))]) (fun _ => h) (fun j => (tl s).length - j) (fun j => j ≤ (tl s).length ∧ ∀ b ∈ (tl s).take j, isDig b) 0 (by simp [vD0]) rfl ⟨Nat.zero_le _, by simp⟩ fun j hj ih => ?_
  obtain ⟨hj, hd⟩ := hj
  have hat1 : at' ≤ 1 := by rw [hat]; split <;> omega
  have hvs : j < (tl s).length → valD 0 ((tl s).take j) < 100000000000000000 := fun hj => by
    have := valD_lt ((tl s).take j) 0 hd
    rw [List.length_take, Nat.min_eq_left (by omega), Nat.zero_add, Nat.one_mul] at this
    exact Nat.lt_of_lt_of_le this (by have := Nat.pow_le_pow_right (n := 10) (by omega) (show j ≤ 17 by omega); simpa using this)
  by_cases hlt : j < (tl s).length
  · have hk : at' + j < s.length := by omega
    have hk' : (at' : Int) + j < s.length := by omega
    have hc : ((at' : Int) + j).toNat = at' + j := by omega
    have hg := hget j hlt hk
    have hv := hvs hlt
    clear hvs
    have hmem : (tl s)[j] ∈ tl s := List.getElem_mem hlt
    have go := fun h1 h2 => ih (j + 1) ⟨h1, h2⟩ (by omega)
    rw [List.take_succ_eq_append_getElem hlt] at go
    have hgo2 : valD 0 ((tl s).take j ++ [(tl s)[j]]) = valD 0 ((tl s).take j) * 10 + ((tl s)[j].toNat - 48) := by rw [valD_app, vDc, vD0]
    rw [hgo2] at go
    clear ih hgo2
    generalize hx : (tl s)[j] = x at *
    generalize valD 0 ((tl s).take j) = V at *
    by_cases hdg : isDig x
    · unfold isDig at hdg
      have hdd := go (by omega) (fun b hb => by
        rcases List.mem_append.1 hb with hb | hb
        · exact hd b hb
        · rw [List.mem_singleton.1 hb]; exact hdg)
      have ha : (48 : Int) ≤ x.toNat := by omega
      have hb : (x.toNat : Int) ≤ 57 := by omega
      have hw : IntKind.u8.wrap ((x.toNat : Int) - 48) = (x.toNat : Int) - 48 := by
        have := u8_sm (x.toNat - 48) (by omega)
        rw [show ((x.toNat - 48 : Nat) : Int) = (x.toNat : Int) - 48 by omega] at this
        exact this
      have hw2 : IntKind.i64.wrap ((x.toNat : Int) - 48) = (x.toNat : Int) - 48 := w64 (by omega)
      have hn : ((V * 10 + (x.toNat - 48) : Nat) : Int) = 10 * (V : Int) + ((x.toNat : Int) - 48) := by omega
      have hn2 : (at' : Int) + ((j + 1 : Nat) : Int) = (at' : Int) + j + 1 := by omega
      rw [hn, hn2] at hdd
      clear go
      refine Run2.of I 1000 ?_
      simp -implicitDefEqProofs [hk', hc, hk, hg, ha, hb, hw, hw2]
      repeat (first | exact hdd | refine ⟨by omega, ?_⟩)
    · rw [rd_nodig hmem hdg]
      unfold isDig at hdg
      clear go
      refine Run2.of I 1000 ?_
      simp -implicitDefEqProofs [hk', hc, hk, hg]
      exact ⟨by omega, fun a b => absurd ⟨by omega, by omega⟩ hdg⟩
  · obtain rfl : j = (tl s).length := by omega
    rw [List.take_length] at hd ⊢
    have hv := hvl _ (Nat.le_refl _) (by rw [List.take_length]; exact hd)
    rw [List.take_length] at hv
    rw [rd_val h1 h2 h3 hd]
    have hk' : ¬ (at' : Int) + (tl s).length < s.length := by omega
    clear ih hget hvl
    by_cases hh : s.head? = some 45
    · rw [if_pos hh] at hat ⊢
      subst hat
      have hk2 : ¬ (1 : Int) + (tl s).length < s.length := by omega
      have hw : IntKind.i64.wrap (-(valD 0 (tl s) : Int)) = -(valD 0 (tl s) : Int) := w64 (by omega)
      refine Run2.of I 1000 ?_
      simp -implicitDefEqProofs [hk2, hw]
    · rw [if_neg hh] at hat ⊢
      subst hat
      have hk2 : ¬ (tl s).length < s.length := by omega
      refine Run2.of I 1000 ?_
      simp -implicitDefEqProofs [hk2]
theorem l01Number_c (s : List UInt8) (h : Heap) (hs : s.length ≤ 1048576) : ACalls Tryd.prog 24 [.str s] h (fun v h' => v = .tup [.int .i64 (rd s).1, .bool (rd s).2] ∧ h' = h) := by
  refine k24_of0 rfl orcRa2_p fun I => ?_
  by_cases hE : s = []
  · subst hE
    have hr : rd [] = (0, false) := rd_len (.inl (by simp [tl]))
    rw [hr]
    refine Run2.of I 1000 ?_
    simp -implicitDefEqProofs
  · have hpos : 0 < s.length := List.length_pos_iff.2 hE
    have hne : ¬ (s.length : Int) = 0 := by omega
    by_cases hh : s.head? = some 45
    · have h0 : s[0] = 45 := by
        cases s with
        | nil => simp at hh
        | cons a r => simpa using hh
      have htl : (s.length : Int) - 1 = (tl s).length := by
        unfold tl; rw [if_pos hh, List.length_tail]; omega
      by_cases h1 : tl s = []
      · have hl1 : (s.length : Int) = 1 := by rw [h1] at htl; simp at htl; omega
        rw [rd_len (.inl (by simp [h1]))]
        refine Run2.of I 1000 ?_
        simp -implicitDefEqProofs [hpos, h0, hl1]
      · have hln : (tl s).length ≠ 0 := fun e => h1 (List.length_eq_zero_iff.1 e)
        have hl1 : ¬ (s.length : Int) = 1 := by omega
        by_cases h18 : 18 < (tl s).length
        · have hl2 : (18 : Int) < (tl s).length := by omega
          rw [rd_len (.inr h18)]
          refine Run2.of I 1000 ?_
          simp -implicitDefEqProofs [hpos, h0, hl1, htl, hl2]
          omega
        · have hl2 : ¬ (18 : Int) < (tl s).length := by omega
          have hl3 : 1 < s.length := by omega
          have hl4 : (1 : Int) < s.length := by omega
          have ht1 : s[1] = (tl s)[0]'(by omega) := by
            cases s with
            | nil => simp at hh
            | cons a r =>
              have : tl (a :: r) = r := by unfold tl; rw [if_pos hh]; rfl
              simp only [this, List.getElem_cons_succ]
          by_cases hz : (tl s)[0]'(by omega) = 48
          · have hr : rd s = (0, false) := by
              cases htt : tl s with
              | nil => exact absurd htt h1
              | cons a r =>
                have : a = 48 := by simpa [htt] using hz
                subst this
                exact rd_zero htt hl3
            rw [hr]
            refine Run2.of I 1000 ?_
            simp -implicitDefEqProofs [hpos, h0, hl1, htl, hl2, hl3, hl4, ht1, hz]
            omega
          · have hz2 : ¬ ((tl s)[0]'(by omega)).toNat = 48 := fun e => hz (UInt8.toNat_inj.1 e)
            have hz3 : ¬ (((tl s)[0]'(by omega)).toNat : Int) = 48 := by omega
            have go := num_loop I s 1 h (by rw [if_pos hh]) h1 (by omega) (fun r hr => absurd (by simp [hr]) hz)
            refine Run2.of I 1000 ?_
            simp -implicitDefEqProofs [hpos, h0, hl1, htl, hl2, hl3, hl4, ht1, hz3]
            exact ⟨by omega, by simpa using go⟩
    · have h0 : ¬ s[0] = 45 := fun e => hh (by
        cases s with
        | nil => simp at hpos
        | cons a r => simpa using e)
      have h0b : ¬ s[0].toNat = 45 := fun e => h0 (UInt8.toNat_inj.1 e)
      have h0c : ¬ ((s[0].toNat : Nat) : Int) = 45 := by omega
      have htl : tl s = s := by unfold tl; rw [if_neg hh]
      by_cases h18 : 18 < s.length
      · have hl2 : (18 : Int) < s.length := by omega
        rw [rd_len (.inr (by rw [htl]; exact h18))]
        refine Run2.of I 1000 ?_
        simp -implicitDefEqProofs [hpos, h0c, hE, hne, hl2]
        omega
      · have hl2 : ¬ (18 : Int) < s.length := by omega
        have go := fun hz => num_loop I s 0 h (by rw [if_neg hh]) (by rw [htl]; exact hE) (by rw [htl]; omega) hz
        by_cases hz : s[0] = 48
        · by_cases hl3 : 1 < s.length
          · have hl4 : (1 : Int) < s.length := by omega
            have hr : rd s = (0, false) := by
              cases htt : tl s with
              | nil => rw [htl] at htt; exact absurd htt hE
              | cons a r =>
                have e : s = a :: r := by rw [← htl, htt]
                have : a = 48 := by simpa [e] using hz
                subst this
                exact rd_zero htt hl3
            rw [hr]
            refine Run2.of I 1000 ?_
            simp -implicitDefEqProofs [hpos, h0c, hE, hne, hl2, hz, hl4]
            omega
          · have hl4 : ¬ (1 : Int) < s.length := by omega
            have go := go (fun r hr => by omega)
            refine Run2.of I 1000 ?_
            simp -implicitDefEqProofs [hpos, h0c, hE, hne, hl2, hz, hl4]
            exact ⟨by omega, by simpa using go⟩
        · have hz2 : ¬ s[0].toNat = 48 := fun e => hz (UInt8.toNat_inj.1 e)
          have hz3 : ¬ ((s[0].toNat : Nat) : Int) = 48 := by omega
          have go := go (fun r hr => absurd (by rw [htl] at hr; simp [hr]) hz)
          refine Run2.of I 1000 ?_
          simp -implicitDefEqProofs [hpos, h0c, hE, hne, hl2, hz3]
          exact ⟨by omega, by simpa using go⟩
noncomputable def o_l01Number : List AV → Option (Prop × AV) := tab (fun (x : Txt) => match x with | s => [.str s]) (fun x => match x with | s => s.length ≤ 1048576) (fun x => match x with | s => .tup [.int .i64 (rd s).1, .bool (rd s).2])
@[simp] theorem o_l01Number_e (s : Txt) : o_l01Number [.str s] = some (s.length ≤ 1048576, .tup [.int .i64 (rd s).1, .bool (rd s).2]) := tab_at (enc := fun (x : Txt) => match x with | s => [.str s]) (fun x y h => by
  simp at h; simp [h] <;> omega) _ _ s
theorem o_l01Number_k : Knows Tryd.prog 24 o_l01Number := tab_knows fun x hx h => by
  exact l01Number_c x h hx
/-- How far the text has been divided. -/
structure Cut1 (c : UInt8) (s : Txt) (i f : Nat) (P : List Txt) : Prop where
  le : f ≤ i
  hi : i ≤ s.length
  eq : spl c s = P ++ spl c (s.drop f)
  no : c ∉ (s.take i).drop f
  len : P.length ≤ i
theorem Cut1.hit {c : UInt8} {s : Txt} {i f : Nat} {P : List Txt} (H : Cut1 c s i f P) (hi : i < s.length) (hc : s[i] = c) : Cut1 c s (i + 1) (i + 1) (P ++ [(s.take i).drop f]) := by
  refine ⟨Nat.le_refl _, hi, ?_, by simp, by have := H.len; simp; omega⟩
  have e : s.drop f = (s.take i).drop f ++ c :: s.drop (i + 1) := by
    rw [← hc, ← List.drop_eq_getElem_cons hi]
    conv => lhs; rw [← List.take_append_drop i s]
    rw [List.drop_append_of_le_length (by rw [List.length_take]; have := H.le; omega)]
  rw [H.eq, e, spl_snoc c _ _ H.no, List.append_assoc]
  rfl
theorem Cut1.miss {c : UInt8} {s : Txt} {i f : Nat} {P : List Txt} (H : Cut1 c s i f P) (hi : i < s.length) (hc : ¬ s[i] = c) : Cut1 c s (i + 1) f P := by
  refine ⟨by have := H.le; omega, hi, H.eq, ?_, by have := H.len; omega⟩
  rw [List.take_succ_eq_append_getElem hi, List.drop_append_of_le_length (by rw [List.length_take]; have := H.le; omega)]
  intro hm
  rcases List.mem_append.1 hm with hm | hm
  · exact H.no hm
  · exact hc (List.mem_singleton.1 hm).symm
theorem Cut1.fin {c : UInt8} {s : Txt} {f : Nat} {P : List Txt} (H : Cut1 c s s.length f P) : spl c s = P ++ [s.drop f] := by
  have := H.no
  rw [List.take_length] at this
  rw [H.eq, spl_one c _ this]
abbrev k15_o0 : List AJ := [.o ⟨(some 4), none, false, .mv (.c .nilsl), (some [0, 1])⟩]
abbrev k15_o1 : List AJ := [.e 8 1 none, .o ⟨(some 5), none, false, .mv (.t 8), (some [0, 1, 5])⟩]
abbrev k15_o2 : List AJ := [.o ⟨(some 6), none, false, .mv (.c (.int .i64 0)), (some [0, 1, 5, 6])⟩]
abbrev k15_o3 : List AJ := [.o ⟨(some 7), none, false, .mv (.c (.int .i64 0)), (some [0, 1, 5, 6, 7])⟩]
abbrev k15_o4 : List AJ := [.o ⟨(some 9), none, false, .mv (.t 7), none⟩, .o ⟨(some 10), none, false, .mv (.t 0), none⟩, .o ⟨(some 11), none, false, .slen (.t 10), none⟩, .o ⟨(some 12), none, false, .bin .lss (.t 9) (.t 11), (some [0, 1, 5, 6, 7, 12])⟩]
def k15_5 : ACode := .cond (.t 12) .skip (.exit 0)
def k15_6 : ACode := .seq (.region k15_o4) k15_5
abbrev k15_o5 : List AJ := [.o ⟨(some 15), none, false, .mv (.t 0), none⟩, .o ⟨(some 16), none, false, .mv (.t 7), none⟩, .o ⟨(some 17), none, false, .idx (.t 15) (.t 16), none⟩, .o ⟨(some 18), none, false, .mv (.t 1), none⟩, .o ⟨(some 19), none, false, .bin .eql (.t 17) (.t 18), (some [0, 1, 5, 6, 7, 19])⟩]
abbrev k15_o6 : List AJ := [.o ⟨(some 20), none, false, .mv (.t 5), none⟩, .o ⟨(some 21), none, false, .mv (.t 0), none⟩, .o ⟨(some 22), none, false, .mv (.t 6), none⟩, .o ⟨(some 23), none, false, .mv (.t 7), none⟩, .o ⟨(some 24), none, false, .sslice (.t 21) (some (.t 22)) (some (.t 23)), none⟩, .o ⟨(some 25), none, false, .bsl false 1 [(.t 24)], none⟩, .o ⟨(some 26), none, false, .append 1 16 (.t 20) (.t 25), none⟩, .o ⟨(some 5), none, false, .mv (.t 26), (some [0, 1, 5, 7])⟩]
abbrev k15_o7 : List AJ := [.o ⟨(some 27), none, false, .mv (.t 7), none⟩, .o ⟨(some 28), none, true, .bin .add (.t 27) (.c (.int .i64 1)), none⟩, .o ⟨(some 6), none, false, .mv (.t 28), (some [0, 1, 5, 6, 7])⟩]
def k15_9 : ACode := .region k15_o7
def k15_10 : ACode := .seq (.region k15_o6) k15_9
def k15_11 : ACode := .cond (.t 19) k15_10 .skip
def k15_12 : ACode := .seq (.region k15_o5) k15_11
abbrev k15_o8 : List AJ := [.o ⟨(some 13), none, false, .mv (.t 7), none⟩, .o ⟨(some 14), none, true, .bin .add (.t 13) (.c (.int .i64 1)), none⟩, .o ⟨(some 7), none, false, .mv (.t 14), (some [0, 1, 5, 6, 7])⟩]
def k15_14 : ACode := .region k15_o8
def k15_15 : ACode := .seq (.block 1 k15_12) k15_14
def k15_16 : ACode := .seq k15_6 k15_15
def k15_17 : ACode := .loop k15_16
def k15_18 : ACode := .block 0 k15_17
def k15_19 : ACode := .seq (.region k15_o3) k15_18
abbrev k15_o9 : List AJ := [.o ⟨(some 29), none, false, .mv (.t 5), none⟩, .o ⟨(some 30), none, false, .mv (.t 0), none⟩, .o ⟨(some 31), none, false, .mv (.t 6), none⟩, .o ⟨(some 32), none, false, .sslice (.t 30) (some (.t 31)) none, none⟩, .o ⟨(some 33), none, false, .bsl false 1 [(.t 32)], none⟩, .o ⟨(some 34), none, false, .append 1 16 (.t 29) (.t 33), none⟩, .o ⟨(some 4), none, false, .mv (.t 34), (some [4])⟩]
def k15_21 : ACode := .seq (.region k15_o9) .ret
def k15_22 : ACode := .seq k15_19 k15_21
def k15_23 : ACode := .seq (.region k15_o2) k15_22
def k15_24 : ACode := .seq (.region k15_o1) k15_23
def k15_25 : ACode := .seq (.region k15_o0) k15_24
@[simp, simp ↓] theorem k15_5r : rC k15_5 (.t 12) .skip (.exit 0) := zC rfl
@[simp, simp ↓] theorem k15_6r : sR k15_6 k15_o4 k15_5 := yR rfl
@[simp, simp ↓] theorem k15_9r : rR k15_9 k15_o7 := zR rfl
@[simp, simp ↓] theorem k15_10r : sR k15_10 k15_o6 k15_9 := yR rfl
@[simp, simp ↓] theorem k15_11r : rC k15_11 (.t 19) k15_10 .skip := zC rfl
@[simp, simp ↓] theorem k15_12r : sR k15_12 k15_o5 k15_11 := yR rfl
@[simp, simp ↓] theorem k15_14r : rR k15_14 k15_o8 := zR rfl
@[simp, simp ↓] theorem k15_15r : sB k15_15 1 k15_12 k15_14 := yB rfl
@[simp, simp ↓] theorem k15_16r : rS k15_16 k15_6 k15_15 := zS rfl
@[simp, simp ↓] theorem k15_17r : rL k15_17 k15_16 := zL rfl
@[simp, simp ↓] theorem k15_18r : rB k15_18 0 k15_17 := zB rfl
@[simp, simp ↓] theorem k15_19r : sR k15_19 k15_o3 k15_18 := yR rfl
@[simp, simp ↓] theorem k15_21r : sR k15_21 k15_o9 .ret := yR rfl
@[simp, simp ↓] theorem k15_22r : rS k15_22 k15_19 k15_21 := zS rfl
@[simp, simp ↓] theorem k15_23r : sR k15_23 k15_o2 k15_22 := yR rfl
@[simp, simp ↓] theorem k15_24r : sR k15_24 k15_o1 k15_23 := yR rfl
@[simp, simp ↓] theorem k15_25r : sR k15_25 k15_o0 k15_24 := yR rfl
noncomputable abbrev k15_C : Orc → Cx := mkC Tryd.prog [8] 15 35 [.tmp 4]
theorem k15_of : OfP Tryd.prog Tryd.f15 15 35 k15_C k15_25 := @ofP _ _ _ _ _ _ _ _ Tryd.func15 (by decide +kernel) rfl (by kernel_rfl) rfl (by kernel_rfl)
theorem l01Split_c (s : List UInt8) (c : UInt8) (h : Heap) (hs : s.length ≤ 1048576) : ACalls Tryd.prog 15 [.str s, .int .u8 c.toNat] h (fun v h' => v = .snap 1 ((spl c s).map sv) ∧ h' = h) := by
  refine k15_of rfl noPure fun I => ?_
  refine Run2.of I 1000 ?_
  simp -implicitDefEqProofs
  refine Run2.loopE (α := Nat × Nat × AV × List Txt × Heap) (fun p => [(0, .str s), (1, .int .u8 c.toNat), (5, p.2.2.1), (6, .int .i64 p.2.1), (7, .int .i64 p.1)]) (fun p => p.2.2.2.2 ++ h) (fun p => s.length - p.1) (fun p => Cut1 c s p.1 p.2.1 p.2.2.2.1 ∧ Grow 1 p.2.2.1 (p.2.2.2.1.map sv) p.2.2.2.2) (0, 0, .emp, [], []) (by simp) rfl ⟨⟨Nat.le_refl _, Nat.zero_le _, rfl, by simp, Nat.le_refl _⟩, .emp⟩ ?_
  rintro ⟨i, f, w, P, hp⟩ ⟨hC, hg⟩ ih
  simp only at hC hg
  have hcell := hg.cell
  have hle := hC.le
  have hPl := hC.len
  have hile := hC.hi
  by_cases hlt : i < s.length
  · by_cases hc : s[i] = c
    · have go := fun w' hp' (g : Grow 1 w' (P.map sv ++ [.str ((s.take i).drop f)]) hp') => ih (i + 1, i + 1, w', P ++ [(s.take i).drop f], hp') ⟨hC.hit hlt hc, by simpa only [List.map_append, List.map_cons, List.map_nil, sv_eq] using g⟩ (by omega)
      clear ih
      refine Run2.of I 1000 ?_
      simp -implicitDefEqProofs [hlt, hcell, hc]
      refine ⟨hle, by omega, ?_⟩
      rw [← List.drop_take]
      refine hg.app (by simp; omega) (by simp) fun w2 hp2 hg2 => ?_
      have hcell2 := hg2.cell
      have := go w2 hp2 hg2
      simp -implicitDefEqProofs [hcell2]
      exact ⟨by omega, by simpa using this⟩
    · have go := ih (i + 1, f, w, P, hp) ⟨hC.miss hlt hc, hg⟩ (by omega)
      have hc2 : ¬ s[i].toNat = c.toNat := fun e => hc (UInt8.toNat_inj.1 e)
      have hc3 : ¬ ((s[i].toNat : Nat) : Int) = c.toNat := by omega
      clear ih
      refine Run2.of I 1000 ?_
      simp -implicitDefEqProofs [hlt, hcell, hc3]
      exact ⟨by omega, by simpa using go⟩
  · obtain rfl : i = s.length := by omega
    rw [hC.fin]
    clear ih
    refine Run2.of I 1000 ?_
    simp -implicitDefEqProofs [hlt, hcell]
    refine ⟨hle, ?_⟩
    rw [List.take_of_length_le (by simp)]
    refine hg.app (by simp; omega) (by simp) fun w2 hp2 hg2 => ?_
    obtain ⟨id, rfl, rfl⟩ := hg2.ne (by simp)
    simp -implicitDefEqProofs
    refine .freeze id (by simp; rfl) (.base ?_)
    simp [List.take_of_length_le]
theorem l01Split_i (s : List UInt8) (c : Int) (h : Heap) (hs : s.length ≤ 1048576) (hc : 0 ≤ c ∧ c < 256) : ACalls Tryd.prog 15 [.str s, .int .u8 c] h (fun v h' => v = .snap 1 ((spl (UInt8.ofNat c.toNat) s).map sv) ∧ h' = h) := by
  have := l01Split_c s (UInt8.ofNat c.toNat) h hs
  rwa [u8_of _ (by omega), show ((c.toNat : Nat) : Int) = c by omega] at this
noncomputable def o_l01Split : List AV → Option (Prop × AV) := tab (fun (x : Txt × Int) => match x with | (s, c) => [.str s, .int .u8 c]) (fun x => match x with | (s, c) => (s.length ≤ 1048576 ∧ 0 ≤ c ∧ c < 256)) (fun x => match x with | (s, c) => .snap 1 ((spl (UInt8.ofNat c.toNat) s).map sv))
@[simp] theorem o_l01Split_e (s : Txt) (c : Int) : o_l01Split [.str s, .int .u8 c] = some ((s.length ≤ 1048576 ∧ 0 ≤ c ∧ c < 256), .snap 1 ((spl (UInt8.ofNat c.toNat) s).map sv)) := tab_at (enc := fun (x : Txt × Int) => match x with | (s, c) => [.str s, .int .u8 c]) (fun x y h => by
  obtain ⟨s1, c1⟩ := x; obtain ⟨s2, c2⟩ := y; simp at h; simp [h] <;> omega) _ _ (s, c)
theorem o_l01Split_k : Knows Tryd.prog 15 o_l01Split := tab_knows fun x hx h => by
  obtain ⟨s, c⟩ := x; exact l01Split_i s c h hx.1 hx.2
end Go.AG
