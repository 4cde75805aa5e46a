/- DistanceFiltration: tables of distances. No statement is made here. -/
import Derived.Test.YtebkdegjiollbaaDfA
namespace Go.AG
open Go.Proofs Go.Proofs.Ytebkdegjiollbaa
set_option linter.unusedSimpArgs false
set_option linter.unusedVariables false
set_option maxRecDepth 4000
/-- The distance of two vertices. -/
def dst (rs : LS) (a b : Nat) : Int := (rs.getD a []).getD b 0
def tmOk (t : Int) : Prop := 0 ≤ t ∧ t ≤ 1000
/-- The first i rows are as they must be. -/
def tbGood (rs : LS) (i : Nat) : Prop := ∀ a, a < i → (rs.getD a []).length = rs.length ∧ dst rs a a = 0 ∧ ∀ b, b < a → tmOk (dst rs a b) ∧ dst rs b a = dst rs a b
def tbOk (rs : LS) : Prop := rs.length ≤ 10 ∧ tbGood rs rs.length
noncomputable instance (rs : LS) : Decidable (tbOk rs) := Classical.propDecidable _
theorem tbGood_succ {rs : LS} {i : Nat} : tbGood rs (i + 1) ↔ tbGood rs i ∧ ((rs.getD i []).length = rs.length ∧ dst rs i i = 0 ∧ ∀ b, b < i → tmOk (dst rs i b) ∧ dst rs b i = dst rs i b) := by
  constructor
  · exact fun h => ⟨fun a ha => h a (by omega), h i (by omega)⟩
  · rintro ⟨h1, h2⟩ a ha
    rcases Nat.lt_or_ge a i with h | h
    · exact h1 a h
    · obtain rfl : a = i := by omega
      exact h2
theorem dst_tm {rs : LS} (h : tbOk rs) {a b : Nat} (ha : a < rs.length) (hb : b < rs.length) : tmOk (dst rs a b) := by
  rcases Nat.lt_trichotomy a b with hlt | rfl | hlt
  · rw [((h.2 b hb).2.2 a hlt).2]; exact ((h.2 b hb).2.2 a hlt).1
  · rw [(h.2 a ha).2.1]; exact ⟨by omega, by omega⟩
  · exact ((h.2 a ha).2.2 b hlt).1
theorem dst_sym {rs : LS} (h : tbOk rs) {a b : Nat} (ha : a < rs.length) (hb : b < rs.length) : dst rs a b = dst rs b a := by
  rcases Nat.lt_trichotomy a b with hlt | rfl | hlt
  · exact ((h.2 b hb).2.2 a hlt).2
  · rfl
  · exact (((h.2 a ha).2.2 b hlt).2).symm
abbrev k117_o0 : List AJ := [.o ⟨(some 2), none, false, .mv (.c (.bool false)), (some [0])⟩]
abbrev k117_o1 : List AJ := [.o ⟨(some 3), none, false, .mv (.t 0), none⟩, .o ⟨(some 4), none, false, .call 45 [(.t 3), (.c (.int .i64 0)), (.c (.int .i64 1000))], none⟩, .o ⟨(some 2), none, false, .mv (.t 4), (some [2])⟩]
def k117_2 : ACode := .seq (.region k117_o1) .ret
def k117_3 : ACode := .seq (.region k117_o0) k117_2
@[simp, simp ↓] theorem k117_2r : sR k117_2 k117_o1 .ret := yR rfl
@[simp, simp ↓] theorem k117_3r : sR k117_3 k117_o0 k117_2 := yR rfl
noncomputable abbrev k117_C : Orc → Cx := mkC Try.prog [] 117 5 [.tmp 2]
theorem k117_of0 : OfP0 Try.prog Try.f117 117 5 k117_C k117_3 := @ofP0 _ _ _ _ _ _ _ _ Try.func117 (by decide +kernel) rfl (by kernel_rfl) rfl (by kernel_rfl)
theorem l21Time_c (a : Int) (h : Heap) : ACalls Try.prog 117 [.int .i64 a] h (fun v h' => v = .bool (decide (0 ≤ a) && decide (a ≤ 1000)) ∧ h' = h) := by
  refine k117_of0 rfl orc1_p fun I => ?_
  refine Run2.of I 1000 ?_
  simp -implicitDefEqProofs
noncomputable def o_l21Time : List AV → Option (Prop × AV) := tab (fun (x : Int) => match x with | a => [.int .i64 a]) (fun x => match x with | a => True) (fun x => match x with | a => .bool (decide (0 ≤ a) && decide (a ≤ 1000)))
@[simp] theorem o_l21Time_e (a : Int) : o_l21Time [.int .i64 a] = some (True, .bool (decide (0 ≤ a) && decide (a ≤ 1000))) := tab_at (enc := fun (x : Int) => match x with | a => [.int .i64 a]) (fun x y h => by
  simp at h; simp [h] <;> omega) _ _ a
theorem o_l21Time_k : Knows Try.prog 117 o_l21Time := tab_knows fun x hx h => by
  exact l21Time_c _ h
abbrev k72_o0 : List AJ := [.o ⟨(some 2), none, false, .mv (.c (.bool false)), (some [0])⟩]
abbrev k72_o1 : List AJ := [.o ⟨(some 3), none, false, .mv (.t 0), none⟩, .o ⟨(some 4), none, false, .call 91 [(.t 3), (.c (.int .i64 0)), (.c (.int .i64 3))], none⟩, .o ⟨(some 2), none, false, .mv (.t 4), (some [2])⟩]
def k72_2 : ACode := .seq (.region k72_o1) .ret
def k72_3 : ACode := .seq (.region k72_o0) k72_2
@[simp, simp ↓] theorem k72_2r : sR k72_2 k72_o1 .ret := yR rfl
@[simp, simp ↓] theorem k72_3r : sR k72_3 k72_o0 k72_2 := yR rfl
noncomputable abbrev k72_C : Orc → Cx := mkC Try.prog [] 72 5 [.tmp 2]
theorem k72_of0 : OfP0 Try.prog Try.f72 72 5 k72_C k72_3 := @ofP0 _ _ _ _ _ _ _ _ Try.func72 (by decide +kernel) rfl (by kernel_rfl) rfl (by kernel_rfl)
theorem isDimension_c (a : Int) (h : Heap) : ACalls Try.prog 72 [.int .i64 a] h (fun v h' => v = .bool (decide (0 ≤ a) && decide (a ≤ 3)) ∧ h' = h) := by
  refine k72_of0 rfl orc1_p fun I => ?_
  refine Run2.of I 1000 ?_
  simp -implicitDefEqProofs
noncomputable def o_isDimension : List AV → Option (Prop × AV) := tab (fun (x : Int) => match x with | a => [.int .i64 a]) (fun x => match x with | a => True) (fun x => match x with | a => .bool (decide (0 ≤ a) && decide (a ≤ 3)))
@[simp] theorem o_isDimension_e (a : Int) : o_isDimension [.int .i64 a] = some (True, .bool (decide (0 ≤ a) && decide (a ≤ 3))) := tab_at (enc := fun (x : Int) => match x with | a => [.int .i64 a]) (fun x y h => by
  simp at h; simp [h] <;> omega) _ _ a
theorem o_isDimension_k : Knows Try.prog 72 o_isDimension := tab_knows fun x hx h => by
  exact isDimension_c _ h
abbrev k65_o0 : List AJ := [.o ⟨(some 2), none, false, .mv (.c (.bool false)), (some [0])⟩]
abbrev k65_o1 : List AJ := [.o ⟨(some 3), none, false, .mv (.t 0), none⟩, .o ⟨(some 4), none, false, .call 45 [(.t 3), (.c (.int .i64 0)), (.c (.int .i64 3))], none⟩, .o ⟨(some 2), none, false, .mv (.t 4), (some [2])⟩]
def k65_2 : ACode := .seq (.region k65_o1) .ret
def k65_3 : ACode := .seq (.region k65_o0) k65_2
@[simp, simp ↓] theorem k65_2r : sR k65_2 k65_o1 .ret := yR rfl
@[simp, simp ↓] theorem k65_3r : sR k65_3 k65_o0 k65_2 := yR rfl
noncomputable abbrev k65_C : Orc → Cx := mkC Try.prog [] 65 5 [.tmp 2]
theorem k65_of0 : OfP0 Try.prog Try.f65 65 5 k65_C k65_3 := @ofP0 _ _ _ _ _ _ _ _ Try.func65 (by decide +kernel) rfl (by kernel_rfl) rfl (by kernel_rfl)
theorem l05Dimension_c (a : Int) (h : Heap) : ACalls Try.prog 65 [.int .i64 a] h (fun v h' => v = .bool (decide (0 ≤ a) && decide (a ≤ 3)) ∧ h' = h) := by
  refine k65_of0 rfl orc1_p fun I => ?_
  refine Run2.of I 1000 ?_
  simp -implicitDefEqProofs
noncomputable def o_l05Dimension : List AV → Option (Prop × AV) := tab (fun (x : Int) => match x with | a => [.int .i64 a]) (fun x => match x with | a => True) (fun x => match x with | a => .bool (decide (0 ≤ a) && decide (a ≤ 3)))
@[simp] theorem o_l05Dimension_e (a : Int) : o_l05Dimension [.int .i64 a] = some (True, .bool (decide (0 ≤ a) && decide (a ≤ 3))) := tab_at (enc := fun (x : Int) => match x with | a => [.int .i64 a]) (fun x y h => by
  simp at h; simp [h] <;> omega) _ _ a
theorem o_l05Dimension_k : Knows Try.prog 65 o_l05Dimension := tab_knows fun x hx h => by
  exact l05Dimension_c _ h
noncomputable def orcW1 : List (Nat × (List AV → Option (Prop × AV))) := (117, o_l21Time) :: (120, o_isTime) :: []
theorem orcW1_p : Pure Try.prog (lk orcW1) := (lk_pure o_l21Time_k (lk_pure o_isTime_k lk_pure0))
@[simp] theorem orcW1_l (b : Bool) (g : FuncId) (l : List AV) : lk orcW1 b g l = if g = 117 then o_l21Time l else if g = 120 then o_isTime l else none := nr rfl
abbrev k80_o0 : List AJ := [.o ⟨(some 2), none, false, .mv (.c (.bool false)), (some [0])⟩]
abbrev k80_o1 : List AJ := [.o ⟨(some 6), none, false, .mv (.t 0), none⟩, .o ⟨(some 7), none, false, .len (.t 6), none⟩, .o ⟨(some 3), none, false, .mv (.t 7), (some [0, 3])⟩]
abbrev k80_o2 : List AJ := [.o ⟨(some 8), none, false, .mv (.t 3), none⟩, .o ⟨(some 9), none, false, .bin .gtr (.t 8) (.c (.int .i64 10)), (some [0, 3, 9])⟩]
abbrev k80_o3 : List AJ := [.o ⟨(some 2), none, false, .mv (.c (.bool false)), (some [2])⟩]
def k80_4 : ACode := .seq (.region k80_o3) .ret
def k80_5 : ACode := .cond (.t 9) k80_4 .skip
def k80_6 : ACode := .seq (.region k80_o2) k80_5
abbrev k80_o4 : List AJ := [.o ⟨(some 4), none, false, .mv (.c (.int .i64 0)), (some [0, 3, 4])⟩]
abbrev k80_o5 : List AJ := [.o ⟨(some 10), none, false, .mv (.t 4), none⟩, .o ⟨(some 11), none, false, .mv (.t 3), none⟩, .o ⟨(some 12), none, false, .bin .lss (.t 10) (.t 11), (some [0, 3, 4, 12])⟩]
def k80_9 : ACode := .cond (.t 12) .skip (.exit 0)
def k80_10 : ACode := .seq (.region k80_o5) k80_9
abbrev k80_o6 : List AJ := [.o ⟨(some 15), none, false, .mv (.t 0), none⟩, .o ⟨(some 16), none, false, .mv (.t 4), none⟩, .o ⟨(some 17), none, false, .idxA 1 (.t 15) (.t 16), none⟩, .o ⟨(some 18), none, false, .load 1 false (.t 17), none⟩, .o ⟨(some 19), none, false, .len (.t 18), none⟩, .o ⟨(some 20), none, false, .mv (.t 3), none⟩, .o ⟨(some 21), none, false, .bin .neq (.t 19) (.t 20), none⟩, .o ⟨(some 22), none, false, .mv (.t 21), none⟩, .o ⟨(some 23), (some (22, false)), false, .mv (.t 0), none⟩, .o ⟨(some 24), (some (22, false)), false, .mv (.t 4), none⟩, .o ⟨(some 25), (some (22, false)), false, .idxA 1 (.t 23) (.t 24), (some [0, 3, 4, 22, 25])⟩, .o ⟨(some 26), (some (22, false)), false, .load 1 false (.t 25), none⟩, .o ⟨(some 27), (some (22, false)), false, .mv (.t 4), none⟩, .o ⟨(some 28), (some (22, false)), false, .idxA 1 (.t 26) (.t 27), none⟩, .o ⟨(some 29), (some (22, false)), false, .load 1 false (.t 28), none⟩, .o ⟨(some 30), (some (22, false)), false, .bin .neq (.t 29) (.c (.int .i64 0)), none⟩, .o ⟨(some 31), none, false, .pick (.t 22) (.c (.bool true)) (.t 30), (some [0, 3, 4, 31])⟩]
abbrev k80_o7 : List AJ := [.o ⟨(some 2), none, false, .mv (.c (.bool false)), (some [2])⟩]
def k80_13 : ACode := .seq (.region k80_o7) .ret
def k80_14 : ACode := .cond (.t 31) k80_13 .skip
def k80_15 : ACode := .seq (.region k80_o6) k80_14
abbrev k80_o8 : List AJ := [.o ⟨(some 5), none, false, .mv (.c (.int .i64 0)), (some [0, 3, 4, 5])⟩]
abbrev k80_o9 : List AJ := [.o ⟨(some 32), none, false, .mv (.t 5), none⟩, .o ⟨(some 33), none, false, .mv (.t 4), none⟩, .o ⟨(some 34), none, false, .bin .lss (.t 32) (.t 33), (some [0, 3, 4, 5, 34])⟩]
def k80_18 : ACode := .cond (.t 34) .skip (.exit 2)
def k80_19 : ACode := .seq (.region k80_o9) k80_18
abbrev k80_o10 : List AI := [⟨(some 37), none, false, .mv (.t 0), none⟩, ⟨(some 38), none, false, .mv (.t 4), none⟩, ⟨(some 39), none, false, .idxA 1 (.t 37) (.t 38), none⟩, ⟨(some 40), none, false, .load 1 false (.t 39), none⟩, ⟨(some 41), none, false, .mv (.t 5), none⟩, ⟨(some 42), none, false, .idxA 1 (.t 40) (.t 41), none⟩, ⟨(some 43), none, false, .load 1 false (.t 42), none⟩, ⟨(some 44), none, false, .call 117 [(.t 43)], none⟩, ⟨(some 45), none, false, .un .not (.t 44), none⟩, ⟨(some 46), none, false, .mv (.t 45), none⟩, ⟨(some 47), (some (46, false)), false, .mv (.t 0), none⟩, ⟨(some 48), (some (46, false)), false, .mv (.t 5), (some [0, 3, 4, 5, 46, 47, 48])⟩, ⟨(some 49), (some (46, false)), false, .idxA 1 (.t 47) (.t 48), none⟩, ⟨(some 50), (some (46, false)), false, .load 1 false (.t 49), none⟩, ⟨(some 51), (some (46, false)), false, .mv (.t 4), none⟩, ⟨(some 52), (some (46, false)), false, .idxA 1 (.t 50) (.t 51), none⟩, ⟨(some 53), (some (46, false)), false, .load 1 false (.t 52), none⟩, ⟨(some 54), (some (46, false)), false, .mv (.t 0), none⟩, ⟨(some 55), (some (46, false)), false, .mv (.t 4), (some [0, 3, 4, 5, 46, 53, 54, 55])⟩, ⟨(some 56), (some (46, false)), false, .idxA 1 (.t 54) (.t 55), none⟩, ⟨(some 57), (some (46, false)), false, .load 1 false (.t 56), none⟩, ⟨(some 58), (some (46, false)), false, .mv (.t 5), none⟩, ⟨(some 59), (some (46, false)), false, .idxA 1 (.t 57) (.t 58), none⟩, ⟨(some 60), (some (46, false)), false, .load 1 false (.t 59), none⟩, ⟨(some 61), (some (46, false)), false, .bin .neq (.t 53) (.t 60), none⟩, ⟨(some 62), none, false, .pick (.t 46) (.c (.bool true)) (.t 61), (some [0, 3, 4, 5, 62])⟩]
abbrev k80_o11 : List AJ := [.o ⟨(some 2), none, false, .mv (.c (.bool false)), (some [2])⟩]
def k80_22 : ACode := .seq (.region k80_o11) .ret
def k80_23 : ACode := .cond (.t 62) k80_22 .skip
def k80_24 : ACode := .seq (.draw k80_o10 [] rfl) k80_23
abbrev k80_o12 : List AJ := [.o ⟨(some 35), none, false, .mv (.t 5), none⟩, .o ⟨(some 36), none, true, .bin .add (.t 35) (.c (.int .i64 1)), none⟩, .o ⟨(some 5), none, false, .mv (.t 36), (some [0, 3, 4, 5])⟩]
def k80_26 : ACode := .region k80_o12
def k80_27 : ACode := .seq (.block 3 k80_24) k80_26
def k80_28 : ACode := .seq k80_19 k80_27
def k80_29 : ACode := .loop k80_28
def k80_30 : ACode := .block 2 k80_29
def k80_31 : ACode := .seq (.region k80_o8) k80_30
def k80_32 : ACode := .seq k80_15 k80_31
abbrev k80_o13 : List AJ := [.o ⟨(some 13), none, false, .mv (.t 4), none⟩, .o ⟨(some 14), none, true, .bin .add (.t 13) (.c (.int .i64 1)), none⟩, .o ⟨(some 4), none, false, .mv (.t 14), (some [0, 3, 4])⟩]
def k80_34 : ACode := .region k80_o13
def k80_35 : ACode := .seq (.block 1 k80_32) k80_34
def k80_36 : ACode := .seq k80_10 k80_35
def k80_37 : ACode := .loop k80_36
def k80_38 : ACode := .block 0 k80_37
def k80_39 : ACode := .seq (.region k80_o4) k80_38
abbrev k80_o14 : List AJ := [.o ⟨(some 2), none, false, .mv (.c (.bool true)), (some [2])⟩]
def k80_41 : ACode := .seq (.region k80_o14) .ret
def k80_42 : ACode := .seq k80_39 k80_41
def k80_43 : ACode := .seq k80_6 k80_42
def k80_44 : ACode := .seq (.region k80_o1) k80_43
def k80_45 : ACode := .seq (.region k80_o0) k80_44
@[simp, simp ↓] theorem k80_4r : sR k80_4 k80_o3 .ret := yR rfl
@[simp, simp ↓] theorem k80_5r : rC k80_5 (.t 9) k80_4 .skip := zC rfl
@[simp, simp ↓] theorem k80_6r : sR k80_6 k80_o2 k80_5 := yR rfl
@[simp, simp ↓] theorem k80_9r : rC k80_9 (.t 12) .skip (.exit 0) := zC rfl
@[simp, simp ↓] theorem k80_10r : sR k80_10 k80_o5 k80_9 := yR rfl
@[simp, simp ↓] theorem k80_13r : sR k80_13 k80_o7 .ret := yR rfl
@[simp, simp ↓] theorem k80_14r : rC k80_14 (.t 31) k80_13 .skip := zC rfl
@[simp, simp ↓] theorem k80_15r : sR k80_15 k80_o6 k80_14 := yR rfl
@[simp, simp ↓] theorem k80_18r : rC k80_18 (.t 34) .skip (.exit 2) := zC rfl
@[simp, simp ↓] theorem k80_19r : sR k80_19 k80_o9 k80_18 := yR rfl
@[simp, simp ↓] theorem k80_22r : sR k80_22 k80_o11 .ret := yR rfl
@[simp, simp ↓] theorem k80_23r : rC k80_23 (.t 62) k80_22 .skip := zC rfl
@[simp, simp ↓] theorem k80_24r : sD k80_24 k80_o10 [] k80_23 := yD rfl
@[simp, simp ↓] theorem k80_26r : rR k80_26 k80_o12 := zR rfl
@[simp, simp ↓] theorem k80_27r : sB k80_27 3 k80_24 k80_26 := yB rfl
@[simp, simp ↓] theorem k80_28r : rS k80_28 k80_19 k80_27 := zS rfl
@[simp, simp ↓] theorem k80_29r : rL k80_29 k80_28 := zL rfl
@[simp, simp ↓] theorem k80_30r : rB k80_30 2 k80_29 := zB rfl
@[simp, simp ↓] theorem k80_31r : sR k80_31 k80_o8 k80_30 := yR rfl
@[simp, simp ↓] theorem k80_32r : rS k80_32 k80_15 k80_31 := zS rfl
@[simp, simp ↓] theorem k80_34r : rR k80_34 k80_o13 := zR rfl
@[simp, simp ↓] theorem k80_35r : sB k80_35 1 k80_32 k80_34 := yB rfl
@[simp, simp ↓] theorem k80_36r : rS k80_36 k80_10 k80_35 := zS rfl
@[simp, simp ↓] theorem k80_37r : rL k80_37 k80_36 := zL rfl
@[simp, simp ↓] theorem k80_38r : rB k80_38 0 k80_37 := zB rfl
@[simp, simp ↓] theorem k80_39r : sR k80_39 k80_o4 k80_38 := yR rfl
@[simp, simp ↓] theorem k80_41r : sR k80_41 k80_o14 .ret := yR rfl
@[simp, simp ↓] theorem k80_42r : rS k80_42 k80_39 k80_41 := zS rfl
@[simp, simp ↓] theorem k80_43r : rS k80_43 k80_6 k80_42 := zS rfl
@[simp, simp ↓] theorem k80_44r : sR k80_44 k80_o1 k80_43 := yR rfl
@[simp, simp ↓] theorem k80_45r : sR k80_45 k80_o0 k80_44 := yR rfl
noncomputable abbrev k80_C : Orc → Cx := mkC Try.prog [] 80 63 [.tmp 2]
theorem k80_of0 : OfP0 Try.prog Try.f80 80 63 k80_C k80_45 := @ofP0 _ _ _ _ _ _ _ _ Try.func80 (by decide +kernel) rfl (by kernel_rfl) rfl (by kernel_rfl)
theorem l22Table_c (rs : LS) (h : Heap) (hl : ssTot rs ≤ 1048576) : ACalls Try.prog 80 [.snap 1 (rs.map il)] h (fun v h' => v = .bool (decide (tbOk rs)) ∧ h' = h) := by
  have hf := fit_of_tot hl
  have hf1 := hf.1
  refine k80_of0 rfl orcW1_p fun I => ?_
  refine Run2.of I 1000 ?_
  simp -implicitDefEqProofs
  constructor
  · intro h1 h2
    have := h2.1
    omega
  · intro h10
    refine Run2.loopE (fun (i : Nat) => [(0, .snap 1 (rs.map il)), (3, .int .i64 rs.length), (4, .int .i64 (i : Nat))]) (fun _ => h) (fun i => rs.length - i) (fun i => i ≤ rs.length ∧ tbGood rs i) 0 (by simp) rfl ⟨by omega, by intro a ha; omega⟩ fun i ⟨hi, hg⟩ ih => ?_
    by_cases hlt : i < rs.length
    · have hr := hf.2 _ (List.getElem_mem hlt)
      have go := ih (i + 1)
      clear ih
      have hgd : rs.getD i [] = rs[i] := by simp [hlt]
      by_cases hrl : rs[i].length = rs.length
      · have hil : i < rs[i].length := by omega
        have hdi : dst rs i i = rs[i][i] := by unfold dst; rw [hgd]; simp [hil]
        refine Run2.of I 1000 ?_
        simp -implicitDefEqProofs [hlt, hr, hrl, hil]
        constructor
        · intro h1 h2
          exact h1 (by rw [← hdi]; exact (h2.2 i hlt).2.1)
        · intro h1
          refine Run2.loopE (fun (k : Nat) => [(0, .snap 1 (rs.map il)), (3, .int .i64 rs.length), (4, .int .i64 (i : Nat)), (5, .int .i64 (k : Nat))]) (fun _ => h) (fun k => rs.length - k) (fun k => k ≤ i ∧ ∀ b, b < k → tmOk (dst rs i b) ∧ dst rs b i = dst rs i b) 0 (by simp) rfl ⟨by omega, by intro a ha; omega⟩ fun k ⟨hk, hkg⟩ ih => ?_
          by_cases hki : k < i
          · have go2 := ih (k + 1)
            clear ih
            have hkl : k < rs.length := by omega
            have hkr : k < rs[i].length := by omega
            have hkk := (hg k hki).1
            have hgk : rs.getD k [] = rs[k] := by simp [hkl]
            rw [hgk] at hkk
            have hik : i < rs[k].length := by omega
            have d1 : dst rs i k = rs[i][k] := by unfold dst; rw [hgd]; simp [hkr]
            have d2 : dst rs k i = rs[k][i] := by unfold dst; rw [hgk]; simp [hik]
            refine Run2.of I 1000 ?_
            simp -implicitDefEqProofs [hlt, hr, hrl, hil, hki, hkl, hkr, hik]
            refine ⟨fun h2 h3 => ⟨fun h4 h5 => h4 ?_, fun h4 => ⟨by omega, ?_⟩⟩, fun h2 h3 => ?_⟩
            · have := ((h5.2 i hlt).2.2 k hki).2
              rw [d1, d2] at this
              exact this
            · have := go2 ⟨by omega, fun b hb => ?_⟩ (by omega)
              · simpa using this
              · rcases Nat.lt_or_ge b k with hbk | hbk
                · exact hkg b hbk
                · obtain rfl : b = k := by omega
                  rw [d1, d2]
                  exact ⟨⟨h2, h3⟩, h4⟩
            · have := ((h3.2 i hlt).2.2 k hki).1
              unfold tmOk at this
              rw [d1] at this
              omega
          · obtain rfl : k = i := by omega
            have := go ⟨by omega, tbGood_succ.2 ⟨hg, by rw [hgd]; exact hrl, by rw [hdi]; exact h1, hkg⟩⟩ (by omega)
            refine Run2.of I 1000 ?_
            simp -implicitDefEqProofs
            refine ⟨by omega, ?_⟩
            simpa using this
      · refine Run2.of I 1000 ?_
        simp -implicitDefEqProofs [hlt, hr, hrl]
        refine ⟨fun h1 => absurd h1 (by omega), fun _ h2 => hrl ?_⟩
        have := (h2.2 i hlt).1
        rwa [hgd] at this
    · obtain rfl : i = rs.length := by omega
      refine Run2.of I 1000 ?_
      simp -implicitDefEqProofs
      exact ⟨by omega, hg⟩
noncomputable def o_l22Table : List AV → Option (Prop × AV) := tab (fun (x : LS) => match x with | rs => [.snap 1 (rs.map il)]) (fun x => match x with | rs => ssTot rs ≤ 1048576) (fun x => match x with | rs => .bool (decide (tbOk rs)))
@[simp] theorem o_l22Table_e (rs : LS) : o_l22Table [.snap 1 (rs.map il)] = some (ssTot rs ≤ 1048576, .bool (decide (tbOk rs))) := tab_at (enc := fun (x : LS) => match x with | rs => [.snap 1 (rs.map il)]) (fun x y h => by
  simp at h; simp [h] <;> omega) _ _ rs
theorem o_l22Table_k : Knows Try.prog 80 o_l22Table := tab_knows fun x hx h => by
  exact l22Table_c x h hx
abbrev k83_o0 : List AJ := [.o ⟨(some 2), none, false, .mv (.c (.bool false)), (some [0])⟩]
abbrev k83_o1 : List AJ := [.o ⟨(some 7), none, false, .mv (.t 0), none⟩, .o ⟨(some 8), none, false, .len (.t 7), none⟩, .o ⟨(some 9), none, false, .mv (.c (.int .i64 0)), (some [0, 7, 8, 9])⟩]
abbrev k83_o2 : List AJ := [.o ⟨(some 10), none, false, .bin .lss (.t 9) (.t 8), (some [0, 7, 8, 9, 10])⟩]
abbrev k83_o3 : List AJ := [.o ⟨(some 11), none, false, .mv (.t 9), none⟩, .o ⟨(some 12), none, false, .idxA 1 (.t 7) (.t 9), none⟩, .o ⟨(some 13), none, false, .load 1 false (.t 12), none⟩, .o ⟨(some 3), none, false, .mv (.t 11), none⟩, .o ⟨(some 4), none, false, .mv (.t 13), (some [0, 3, 4, 7, 8, 9])⟩]
abbrev k83_o4 : List AJ := [.o ⟨(some 14), none, false, .mv (.t 4), none⟩, .o ⟨(some 15), none, false, .len (.t 14), none⟩, .o ⟨(some 16), none, false, .mv (.t 0), none⟩, .o ⟨(some 17), none, false, .len (.t 16), none⟩, .o ⟨(some 18), none, false, .bin .neq (.t 15) (.t 17), none⟩, .o ⟨(some 19), none, false, .mv (.t 18), none⟩, .o ⟨(some 20), (some (19, false)), false, .mv (.t 4), none⟩, .o ⟨(some 21), (some (19, false)), false, .mv (.t 3), none⟩, .o ⟨(some 22), (some (19, false)), false, .idxA 1 (.t 20) (.t 21), none⟩, .o ⟨(some 23), (some (19, false)), false, .load 1 false (.t 22), (some [0, 3, 4, 7, 8, 9, 19, 23])⟩, .o ⟨(some 24), (some (19, false)), false, .bin .neq (.t 23) (.c (.int .i64 0)), none⟩, .o ⟨(some 25), none, false, .pick (.t 19) (.c (.bool true)) (.t 24), (some [0, 3, 4, 7, 8, 9, 25])⟩]
abbrev k83_o5 : List AJ := [.o ⟨(some 2), none, false, .mv (.c (.bool false)), (some [2])⟩]
def k83_7 : ACode := .seq (.region k83_o5) .ret
def k83_8 : ACode := .cond (.t 25) k83_7 .skip
def k83_9 : ACode := .seq (.region k83_o4) k83_8
abbrev k83_o6 : List AJ := [.o ⟨(some 26), none, false, .mv (.t 4), none⟩, .o ⟨(some 27), none, false, .len (.t 26), none⟩, .o ⟨(some 28), none, false, .mv (.c (.int .i64 0)), (some [0, 3, 7, 8, 9, 26, 27, 28])⟩]
abbrev k83_o7 : List AJ := [.o ⟨(some 29), none, false, .bin .lss (.t 28) (.t 27), (some [0, 3, 7, 8, 9, 26, 27, 28, 29])⟩]
abbrev k83_o8 : List AJ := [.o ⟨(some 30), none, false, .mv (.t 28), none⟩, .o ⟨(some 31), none, false, .idxA 1 (.t 26) (.t 28), none⟩, .o ⟨(some 32), none, false, .load 1 false (.t 31), none⟩, .o ⟨(some 5), none, false, .mv (.t 30), none⟩, .o ⟨(some 6), none, false, .mv (.t 32), (some [0, 3, 5, 6, 7, 8, 9, 26, 27, 28])⟩]
abbrev k83_o9 : List AJ := [.o ⟨(some 33), none, false, .mv (.t 6), none⟩, .o ⟨(some 34), none, false, .call 120 [(.t 33)], none⟩, .o ⟨(some 35), none, false, .un .not (.t 34), none⟩, .o ⟨(some 36), none, false, .mv (.t 35), none⟩, .o ⟨(some 37), (some (36, false)), false, .mv (.t 5), none⟩, .o ⟨(some 38), (some (36, false)), false, .mv (.t 3), none⟩, .o ⟨(some 39), (some (36, false)), false, .bin .lss (.t 37) (.t 38), none⟩, .o ⟨(some 40), (some (36, false)), false, .mv (.t 39), none⟩, .o ⟨(some 41), (some (40, true)), false, .mv (.t 0), (some [0, 3, 5, 6, 7, 8, 9, 26, 27, 28, 36, 40, 41])⟩, .o ⟨(some 42), (some (40, true)), false, .mv (.t 5), none⟩, .o ⟨(some 43), (some (40, true)), false, .idxA 1 (.t 41) (.t 42), none⟩, .o ⟨(some 44), (some (40, true)), false, .load 1 false (.t 43), none⟩, .o ⟨(some 45), (some (40, true)), false, .mv (.t 3), none⟩, .o ⟨(some 46), (some (40, true)), false, .idxA 1 (.t 44) (.t 45), none⟩, .o ⟨(some 47), (some (40, true)), false, .load 1 false (.t 46), none⟩, .o ⟨(some 48), (some (40, true)), false, .mv (.t 6), (some [0, 3, 7, 8, 9, 26, 27, 28, 36, 40, 47, 48])⟩, .o ⟨(some 49), (some (40, true)), false, .bin .neq (.t 47) (.t 48), none⟩, .o ⟨(some 50), (some (36, false)), false, .pick (.t 40) (.t 49) (.c (.bool false)), none⟩, .o ⟨(some 51), none, false, .pick (.t 36) (.c (.bool true)) (.t 50), (some [0, 3, 7, 8, 9, 26, 27, 28, 51])⟩]
abbrev k83_o10 : List AJ := [.o ⟨(some 2), none, false, .mv (.c (.bool false)), (some [2])⟩]
def k83_16 : ACode := .seq (.region k83_o10) .ret
def k83_17 : ACode := .cond (.t 51) k83_16 .skip
def k83_18 : ACode := .seq (.region k83_o9) k83_17
def k83_19 : ACode := .seq (.region k83_o8) k83_18
abbrev k83_o11 : List AJ := [.o ⟨(some 52), none, true, .bin .add (.t 28) (.c (.int .i64 1)), none⟩, .o ⟨(some 28), none, false, .mv (.t 52), (some [0, 3, 7, 8, 9, 26, 27, 28])⟩]
def k83_21 : ACode := .region k83_o11
def k83_22 : ACode := .seq (.block 3 k83_19) k83_21
def k83_23 : ACode := .seq (.cond (.t 29) .skip (.exit 2)) k83_22
def k83_24 : ACode := .seq (.region k83_o7) k83_23
def k83_25 : ACode := .loop k83_24
def k83_26 : ACode := .block 2 k83_25
def k83_27 : ACode := .seq (.region k83_o6) k83_26
def k83_28 : ACode := .seq k83_9 k83_27
def k83_29 : ACode := .seq (.region k83_o3) k83_28
abbrev k83_o12 : List AJ := [.o ⟨(some 53), none, true, .bin .add (.t 9) (.c (.int .i64 1)), none⟩, .o ⟨(some 9), none, false, .mv (.t 53), (some [0, 7, 8, 9])⟩]
def k83_31 : ACode := .region k83_o12
def k83_32 : ACode := .seq (.block 1 k83_29) k83_31
def k83_33 : ACode := .seq (.cond (.t 10) .skip (.exit 0)) k83_32
def k83_34 : ACode := .seq (.region k83_o2) k83_33
def k83_35 : ACode := .loop k83_34
def k83_36 : ACode := .block 0 k83_35
def k83_37 : ACode := .seq (.region k83_o1) k83_36
abbrev k83_o13 : List AJ := [.o ⟨(some 54), none, false, .mv (.t 0), none⟩, .o ⟨(some 55), none, false, .len (.t 54), none⟩, .o ⟨(some 56), none, false, .bin .leq (.t 55) (.c (.int .i64 10)), none⟩, .o ⟨(some 2), none, false, .mv (.t 56), (some [2])⟩]
def k83_39 : ACode := .seq (.region k83_o13) .ret
def k83_40 : ACode := .seq k83_37 k83_39
def k83_41 : ACode := .seq (.region k83_o0) k83_40
@[simp, simp ↓] theorem k83_7r : sR k83_7 k83_o5 .ret := yR rfl
@[simp, simp ↓] theorem k83_8r : rC k83_8 (.t 25) k83_7 .skip := zC rfl
@[simp, simp ↓] theorem k83_9r : sR k83_9 k83_o4 k83_8 := yR rfl
@[simp, simp ↓] theorem k83_16r : sR k83_16 k83_o10 .ret := yR rfl
@[simp, simp ↓] theorem k83_17r : rC k83_17 (.t 51) k83_16 .skip := zC rfl
@[simp, simp ↓] theorem k83_18r : sR k83_18 k83_o9 k83_17 := yR rfl
@[simp, simp ↓] theorem k83_19r : sR k83_19 k83_o8 k83_18 := yR rfl
@[simp, simp ↓] theorem k83_21r : rR k83_21 k83_o11 := zR rfl
@[simp, simp ↓] theorem k83_22r : sB k83_22 3 k83_19 k83_21 := yB rfl
@[simp, simp ↓] theorem k83_23r : sC k83_23 (.t 29) .skip (.exit 2) k83_22 := yC rfl
@[simp, simp ↓] theorem k83_24r : sR k83_24 k83_o7 k83_23 := yR rfl
@[simp, simp ↓] theorem k83_25r : rL k83_25 k83_24 := zL rfl
@[simp, simp ↓] theorem k83_26r : rB k83_26 2 k83_25 := zB rfl
@[simp, simp ↓] theorem k83_27r : sR k83_27 k83_o6 k83_26 := yR rfl
@[simp, simp ↓] theorem k83_28r : rS k83_28 k83_9 k83_27 := zS rfl
@[simp, simp ↓] theorem k83_29r : sR k83_29 k83_o3 k83_28 := yR rfl
@[simp, simp ↓] theorem k83_31r : rR k83_31 k83_o12 := zR rfl
@[simp, simp ↓] theorem k83_32r : sB k83_32 1 k83_29 k83_31 := yB rfl
@[simp, simp ↓] theorem k83_33r : sC k83_33 (.t 10) .skip (.exit 0) k83_32 := yC rfl
@[simp, simp ↓] theorem k83_34r : sR k83_34 k83_o2 k83_33 := yR rfl
@[simp, simp ↓] theorem k83_35r : rL k83_35 k83_34 := zL rfl
@[simp, simp ↓] theorem k83_36r : rB k83_36 0 k83_35 := zB rfl
@[simp, simp ↓] theorem k83_37r : sR k83_37 k83_o1 k83_36 := yR rfl
@[simp, simp ↓] theorem k83_39r : sR k83_39 k83_o13 .ret := yR rfl
@[simp, simp ↓] theorem k83_40r : rS k83_40 k83_37 k83_39 := zS rfl
@[simp, simp ↓] theorem k83_41r : sR k83_41 k83_o0 k83_40 := yR rfl
noncomputable abbrev k83_C : Orc → Cx := mkC Try.prog [] 83 57 [.tmp 2]
theorem k83_of0 : OfP0 Try.prog Try.f83 83 57 k83_C k83_41 := @ofP0 _ _ _ _ _ _ _ _ Try.func83 (by decide +kernel) rfl (by kernel_rfl) rfl (by kernel_rfl)
theorem isDistanceTable_c (rs : LS) (h : Heap) (hl : ssTot rs ≤ 1048576) : ACalls Try.prog 83 [.snap 1 (rs.map il)] h (fun v h' => v = .bool (decide (tbOk rs)) ∧ h' = h) := by
  have hf := fit_of_tot hl
  have hf1 := hf.1
  refine k83_of0 rfl orcW1_p fun I => ?_
  refine Run2.of I 1000 ?_
  simp -implicitDefEqProofs
  refine Run2.loopE (fun (i : Nat) => [(0, .snap 1 (rs.map il)), (7, .snap 1 (rs.map il)), (8, .int .i64 rs.length), (9, .int .i64 (i : Nat))]) (fun _ => h) (fun i => rs.length - i) (fun i => i ≤ rs.length ∧ tbGood rs i) 0 (by simp) rfl ⟨by omega, by intro a ha; omega⟩ fun i ⟨hi, hg⟩ ih => ?_
  by_cases hlt : i < rs.length
  · have hr := hf.2 _ (List.getElem_mem hlt)
    have go := ih (i + 1)
    clear ih
    have hgd : rs.getD i [] = rs[i] := by simp [hlt]
    by_cases hrl : rs[i].length = rs.length
    · have hil : i < rs[i].length := by omega
      have hdi : dst rs i i = rs[i][i] := by unfold dst; rw [hgd]; simp [hil]
      refine Run2.of I 1000 ?_
      simp -implicitDefEqProofs [hlt, hr, hrl, hil]
      constructor
      · intro h1 h2
        exact h1 (by rw [← hdi]; exact (h2.2 i hlt).2.1)
      · intro h1
        refine Run2.loopE (fun (k : Nat) => [(0, .snap 1 (rs.map il)), (3, .int .i64 (i : Nat)), (7, .snap 1 (rs.map il)), (8, .int .i64 rs.length), (9, .int .i64 (i : Nat)), (26, il rs[i]), (27, .int .i64 rs.length), (28, .int .i64 (k : Nat))]) (fun _ => h) (fun k => rs.length - k) (fun k => k ≤ rs.length ∧ ∀ b, b < k → tmOk (dst rs i b) ∧ (b < i → dst rs b i = dst rs i b)) 0 (by simp [hrl]) rfl ⟨by omega, by intro a ha; omega⟩ fun k ⟨hk, hkg⟩ ih => ?_
        by_cases hkl : k < rs.length
        · have go2 := ih (k + 1)
          clear ih
          have hkr : k < rs[i].length := by omega
          have d1 : dst rs i k = rs[i][k] := by unfold dst; rw [hgd]; simp [hkr]
          by_cases hki : k < i
          · have hkk := (hg k hki).1
            have hgk : rs.getD k [] = rs[k] := by simp [hkl]
            rw [hgk] at hkk
            have hik : i < rs[k].length := by omega
            have d2 : dst rs k i = rs[k][i] := by unfold dst; rw [hgk]; simp [hik]
            refine Run2.of I 1000 ?_
            simp -implicitDefEqProofs [hlt, hr, hrl, hil, hki, hkl, hkr, hik]
            refine ⟨fun h2 h3 => ⟨fun h4 h5 => h4 ?_, fun h4 => ⟨by omega, ?_⟩⟩, fun h2 h3 => ?_⟩
            · have := ((h5.2 i hlt).2.2 k hki).2
              rw [d1, d2] at this
              exact this
            · have := go2 ⟨by omega, fun b hb => ?_⟩ (by omega)
              · simpa using this
              · rcases Nat.lt_or_ge b k with hbk | hbk
                · exact hkg b hbk
                · obtain rfl : b = k := by omega
                  rw [d1, d2]
                  exact ⟨⟨h2, h3⟩, fun _ => h4⟩
            · have := ((h3.2 i hlt).2.2 k hki).1
              unfold tmOk at this
              rw [d1] at this
              omega
          · refine Run2.of I 1000 ?_
            simp -implicitDefEqProofs [hlt, hr, hrl, hil, hki, hkl, hkr]
            refine ⟨fun h2 h3 => ⟨by omega, ?_⟩, fun h2 h3 => ?_⟩
            · have := go2 ⟨by omega, fun b hb => ?_⟩ (by omega)
              · simpa using this
              · rcases Nat.lt_or_ge b k with hbk | hbk
                · exact hkg b hbk
                · obtain rfl : b = k := by omega
                  rw [d1]
                  exact ⟨⟨h2, h3⟩, fun h => absurd h hki⟩
            · have := dst_tm h3 hlt hkl
              unfold tmOk at this
              rw [d1] at this
              omega
        · obtain rfl : k = rs.length := by omega
          have := go ⟨by omega, tbGood_succ.2 ⟨hg, by rw [hgd]; exact hrl, by rw [hdi]; exact h1, fun b hb => ⟨(hkg b (by omega)).1, (hkg b (by omega)).2 hb⟩⟩⟩ (by omega)
          refine Run2.of I 1000 ?_
          simp -implicitDefEqProofs
          refine ⟨by omega, ?_⟩
          simpa using this
    · refine Run2.of I 1000 ?_
      simp -implicitDefEqProofs [hlt, hr, hrl]
      refine ⟨fun h1 => absurd h1 (by omega), fun _ h2 => hrl ?_⟩
      have := (h2.2 i hlt).1
      rwa [hgd] at this
  · obtain rfl : i = rs.length := by omega
    refine Run2.of I 1000 ?_
    simp -implicitDefEqProofs
    exact ⟨fun h1 => ⟨by omega, hg⟩, fun h1 => by have := h1.1; omega⟩
noncomputable def o_isDistanceTable : List AV → Option (Prop × AV) := tab (fun (x : LS) => match x with | rs => [.snap 1 (rs.map il)]) (fun x => match x with | rs => ssTot rs ≤ 1048576) (fun x => match x with | rs => .bool (decide (tbOk rs)))
@[simp] theorem o_isDistanceTable_e (rs : LS) : o_isDistanceTable [.snap 1 (rs.map il)] = some (ssTot rs ≤ 1048576, .bool (decide (tbOk rs))) := tab_at (enc := fun (x : LS) => match x with | rs => [.snap 1 (rs.map il)]) (fun x y h => by
  simp at h; simp [h] <;> omega) _ _ rs
theorem o_isDistanceTable_k : Knows Try.prog 83 o_isDistanceTable := tab_knows fun x hx h => by
  exact isDistanceTable_c x h hx
end Go.AG
