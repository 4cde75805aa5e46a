/- The library's sorting of what is sorted already: it changes nothing. No statement is made here. -/
import Derived.Test.YtebkdegjiollbaaFxD
namespace Go.AG
open Go.Proofs Go.Proofs.Ytebkdegjiollbaa
set_option linter.unusedSimpArgs false
set_option linter.unusedVariables false
set_option maxRecDepth 4000
/-- A block of values that a function compares; those behind are greater. -/
structure Srt (P : Program) (id : Nat) (us ex : List AV) (g : FuncId) (H : Heap) : Prop where
  at_ : hget H id = some ⟨1, us ++ ex⟩
  len : us.length ≤ 48
  cell : ∀ i (h : i < us.length), isCell us[i] = true
  cmp : ∀ i j (hi : i < us.length) (hj : j < us.length), j < i → ∃ c : Int, 0 < c ∧ ACalls P g [us[i], us[j]] H (fun v h' => v = .int .i64 c ∧ h' = H)
theorem Srt.get {P : Program} {id : Nat} {us ex : List AV} {g : FuncId} {H : Heap} (S : Srt P id us ex g H) {i : Nat} (h : i < us.length) : (us ++ ex)[i]? = some us[i] := by
  rw [List.getElem?_append_left h]; simp [h]
def LenTab : List UInt8 := [0, 1, 2, 2, 3, 3, 3, 3, 4, 4, 4, 4, 4, 4, 4, 4, 5, 5, 5, 5, 5, 5, 5, 5, 5, 5, 5, 5, 5, 5, 5, 5, 6, 6, 6, 6, 6, 6, 6, 6, 6, 6, 6, 6, 6, 6, 6, 6, 6, 6, 6, 6, 6, 6, 6, 6, 6, 6, 6, 6, 6, 6, 6, 6, 7, 7, 7, 7, 7, 7, 7, 7, 7, 7, 7, 7, 7, 7, 7, 7, 7, 7, 7, 7, 7, 7, 7, 7, 7, 7, 7, 7, 7, 7, 7, 7, 7, 7, 7, 7, 7, 7, 7, 7, 7, 7, 7, 7, 7, 7, 7, 7, 7, 7, 7, 7, 7, 7, 7, 7, 7, 7, 7, 7, 7, 7, 7, 7, 8, 8, 8, 8, 8, 8, 8, 8, 8, 8, 8, 8, 8, 8, 8, 8, 8, 8, 8, 8, 8, 8, 8, 8, 8, 8, 8, 8, 8, 8, 8, 8, 8, 8, 8, 8, 8, 8, 8, 8, 8, 8, 8, 8, 8, 8, 8, 8, 8, 8, 8, 8, 8, 8, 8, 8, 8, 8, 8, 8, 8, 8, 8, 8, 8, 8, 8, 8, 8, 8, 8, 8, 8, 8, 8, 8, 8, 8, 8, 8, 8, 8, 8, 8, 8, 8, 8, 8, 8, 8, 8, 8, 8, 8, 8, 8, 8, 8, 8, 8, 8, 8, 8, 8, 8, 8, 8, 8, 8, 8, 8, 8, 8, 8, 8, 8, 8, 8, 8, 8, 8, 8, 8, 8, 8, 8, 8, 8]
abbrev k188_o0 : List AJ := [.o ⟨(some 2), none, false, .mv (.c (.int .i64 0)), (some [0, 2])⟩]
abbrev k188_o1 : List AJ := [.o ⟨(some 3), none, false, .mv (.t 0), none⟩, .o ⟨(some 4), none, false, .bin .geq (.t 3) (.c (.int .u64 4294967296)), (some [0, 2, 4])⟩]
abbrev k188_o2 : List AJ := [.o ⟨(some 5), none, false, .mv (.t 0), none⟩, .o ⟨(some 6), none, false, .bin .shr (.t 5) (.c (.int .u64 32)), none⟩, .o ⟨(some 0), none, false, .mv (.t 6), (some [0])⟩]
abbrev k188_o3 : List AJ := [.o ⟨(some 2), none, false, .mv (.c (.int .i64 32)), (some [0, 2])⟩]
def k188_3 : ACode := .region k188_o3
def k188_4 : ACode := .seq (.region k188_o2) k188_3
def k188_5 : ACode := .cond (.t 4) k188_4 .skip
def k188_6 : ACode := .seq (.region k188_o1) k188_5
abbrev k188_o4 : List AJ := [.o ⟨(some 7), none, false, .mv (.t 0), none⟩, .o ⟨(some 8), none, false, .bin .geq (.t 7) (.c (.int .u64 65536)), (some [0, 2, 8])⟩]
abbrev k188_o5 : List AJ := [.o ⟨(some 9), none, false, .mv (.t 0), none⟩, .o ⟨(some 10), none, false, .bin .shr (.t 9) (.c (.int .u64 16)), none⟩, .o ⟨(some 0), none, false, .mv (.t 10), (some [0, 2])⟩]
abbrev k188_o6 : List AJ := [.o ⟨(some 11), none, false, .mv (.t 2), none⟩, .o ⟨(some 12), none, true, .bin .add (.t 11) (.c (.int .i64 16)), none⟩, .o ⟨(some 2), none, false, .mv (.t 12), (some [0, 2])⟩]
def k188_9 : ACode := .region k188_o6
def k188_10 : ACode := .seq (.region k188_o5) k188_9
def k188_11 : ACode := .cond (.t 8) k188_10 .skip
def k188_12 : ACode := .seq (.region k188_o4) k188_11
abbrev k188_o7 : List AJ := [.o ⟨(some 13), none, false, .mv (.t 0), none⟩, .o ⟨(some 14), none, false, .bin .geq (.t 13) (.c (.int .u64 256)), (some [0, 2, 14])⟩]
abbrev k188_o8 : List AJ := [.o ⟨(some 15), none, false, .mv (.t 0), none⟩, .o ⟨(some 16), none, false, .bin .shr (.t 15) (.c (.int .u64 8)), none⟩, .o ⟨(some 0), none, false, .mv (.t 16), (some [0, 2])⟩]
abbrev k188_o9 : List AJ := [.o ⟨(some 17), none, false, .mv (.t 2), none⟩, .o ⟨(some 18), none, true, .bin .add (.t 17) (.c (.int .i64 8)), none⟩, .o ⟨(some 2), none, false, .mv (.t 18), (some [0, 2])⟩]
def k188_15 : ACode := .region k188_o9
def k188_16 : ACode := .seq (.region k188_o8) k188_15
def k188_17 : ACode := .cond (.t 14) k188_16 .skip
def k188_18 : ACode := .seq (.region k188_o7) k188_17
abbrev k188_o10 : List AJ := [.o ⟨(some 19), none, false, .mv (.t 2), none⟩, .o ⟨(some 20), none, false, .mv (.t 0), none⟩, .o ⟨(some 21), none, true, .conv .u8 (.t 20), none⟩, .o ⟨(some 22), none, false, .idx (.c (.str [0, 1, 2, 2, 3, 3, 3, 3, 4, 4, 4, 4, 4, 4, 4, 4, 5, 5, 5, 5, 5, 5, 5, 5, 5, 5, 5, 5, 5, 5, 5, 5, 6, 6, 6, 6, 6, 6, 6, 6, 6, 6, 6, 6, 6, 6, 6, 6, 6, 6, 6, 6, 6, 6, 6, 6, 6, 6, 6, 6, 6, 6, 6, 6, 7, 7, 7, 7, 7, 7, 7, 7, 7, 7, 7, 7, 7, 7, 7, 7, 7, 7, 7, 7, 7, 7, 7, 7, 7, 7, 7, 7, 7, 7, 7, 7, 7, 7, 7, 7, 7, 7, 7, 7, 7, 7, 7, 7, 7, 7, 7, 7, 7, 7, 7, 7, 7, 7, 7, 7, 7, 7, 7, 7, 7, 7, 7, 7, 8, 8, 8, 8, 8, 8, 8, 8, 8, 8, 8, 8, 8, 8, 8, 8, 8, 8, 8, 8, 8, 8, 8, 8, 8, 8, 8, 8, 8, 8, 8, 8, 8, 8, 8, 8, 8, 8, 8, 8, 8, 8, 8, 8, 8, 8, 8, 8, 8, 8, 8, 8, 8, 8, 8, 8, 8, 8, 8, 8, 8, 8, 8, 8, 8, 8, 8, 8, 8, 8, 8, 8, 8, 8, 8, 8, 8, 8, 8, 8, 8, 8, 8, 8, 8, 8, 8, 8, 8, 8, 8, 8, 8, 8, 8, 8, 8, 8, 8, 8, 8, 8, 8, 8, 8, 8, 8, 8, 8, 8, 8, 8, 8, 8, 8, 8, 8, 8, 8, 8, 8, 8, 8, 8, 8, 8, 8, 8])) (.t 21), none⟩, .o ⟨(some 23), none, true, .conv .i64 (.t 22), none⟩, .o ⟨(some 24), none, true, .bin .add (.t 19) (.t 23), none⟩, .o ⟨(some 2), none, false, .mv (.t 24), (some [2])⟩]
def k188_20 : ACode := .seq (.region k188_o10) .ret
def k188_21 : ACode := .seq k188_18 k188_20
def k188_22 : ACode := .seq k188_12 k188_21
def k188_23 : ACode := .seq k188_6 k188_22
def k188_24 : ACode := .seq (.region k188_o0) k188_23
@[simp, simp ↓] theorem k188_3r : rR k188_3 k188_o3 := zR rfl
@[simp, simp ↓] theorem k188_4r : sR k188_4 k188_o2 k188_3 := yR rfl
@[simp, simp ↓] theorem k188_5r : rC k188_5 (.t 4) k188_4 .skip := zC rfl
@[simp, simp ↓] theorem k188_6r : sR k188_6 k188_o1 k188_5 := yR rfl
@[simp, simp ↓] theorem k188_9r : rR k188_9 k188_o6 := zR rfl
@[simp, simp ↓] theorem k188_10r : sR k188_10 k188_o5 k188_9 := yR rfl
@[simp, simp ↓] theorem k188_11r : rC k188_11 (.t 8) k188_10 .skip := zC rfl
@[simp, simp ↓] theorem k188_12r : sR k188_12 k188_o4 k188_11 := yR rfl
@[simp, simp ↓] theorem k188_15r : rR k188_15 k188_o9 := zR rfl
@[simp, simp ↓] theorem k188_16r : sR k188_16 k188_o8 k188_15 := yR rfl
@[simp, simp ↓] theorem k188_17r : rC k188_17 (.t 14) k188_16 .skip := zC rfl
@[simp, simp ↓] theorem k188_18r : sR k188_18 k188_o7 k188_17 := yR rfl
@[simp, simp ↓] theorem k188_20r : sR k188_20 k188_o10 .ret := yR rfl
@[simp, simp ↓] theorem k188_21r : rS k188_21 k188_18 k188_20 := zS rfl
@[simp, simp ↓] theorem k188_22r : rS k188_22 k188_12 k188_21 := zS rfl
@[simp, simp ↓] theorem k188_23r : rS k188_23 k188_6 k188_22 := zS rfl
@[simp, simp ↓] theorem k188_24r : sR k188_24 k188_o0 k188_23 := yR rfl
noncomputable abbrev k188_C : Orc → Cx := mkC Try.prog [] 188 25 [.tmp 2]
theorem k188_of0 : OfP0 Try.prog Try.f188 188 25 k188_C k188_24 := @ofP0 _ _ _ _ _ _ _ _ Try.func188 (by decide +kernel) rfl (by kernel_rfl) rfl (by kernel_rfl)
theorem len64S (n : Nat) (h : Heap) (hn : n ≤ 48) : ACalls Try.prog 188 [.int .u64 n] h (fun v h' => ∃ L : Int, v = .int .i64 L ∧ (0 < n → ¬ L = 0) ∧ h' = h) := by
  refine k188_of0 rfl noPure fun I => ?_
  have h1 : ¬ (4294967296 : Int) ≤ n := by omega
  have h2 : ¬ (65536 : Int) ≤ n := by omega
  have h3 : ¬ (256 : Int) ≤ n := by omega
  refine Run2.of I 1000 ?_
  have hw : arR true .u8 (n : Int) = .val (.int .u8 n) := by
    have e : IntKind.u8.wrap n = n := IntWalk.u8_in _ (by omega)
    simp only [arR]; rw [e]
  simp -implicitDefEqProofs [h1, h2, h3, hw]
  have key : ∀ n < 49, ∃ y : UInt8, LenTab[n]? = some y ∧ (0 < n → ¬ (y.toNat : Int) = 0) := by decide
  obtain ⟨y, hy, hy0⟩ := key n (by omega)
  unfold LenTab at hy
  have hb := y.toNat_lt
  simp -implicitDefEqProofs [hy]
  exact ⟨by omega, fun h => by have := hy0 h; omega⟩
abbrev k171_o0 : List AJ := [.o ⟨(some 2), none, false, .mv (.c (.int .i64 0)), (some [0])⟩]
abbrev k171_o1 : List AJ := [.o ⟨(some 3), none, false, .mv (.t 0), none⟩, .o ⟨(some 4), none, true, .conv .u32 (.t 3), none⟩, .o ⟨(some 5), none, false, .call 187 [(.t 4)], none⟩, .o ⟨(some 2), none, false, .mv (.t 5), (some [2])⟩]
def k171_2 : ACode := .seq (.region k171_o1) .ret
abbrev k171_o2 : List AJ := [.o ⟨(some 6), none, false, .mv (.t 0), none⟩, .o ⟨(some 7), none, false, .call 188 [(.t 6)], none⟩, .o ⟨(some 2), none, false, .mv (.t 7), (some [2])⟩]
def k171_5 : ACode := .seq (.region k171_o2) .ret
def k171_6 : ACode := .seq (.cond (.c (.bool false)) k171_2 .skip) k171_5
def k171_7 : ACode := .seq (.region k171_o0) k171_6
@[simp, simp ↓] theorem k171_2r : sR k171_2 k171_o1 .ret := yR rfl
@[simp, simp ↓] theorem k171_5r : sR k171_5 k171_o2 .ret := yR rfl
@[simp, simp ↓] theorem k171_6r : sC k171_6 (.c (.bool false)) k171_2 .skip k171_5 := yC rfl
@[simp, simp ↓] theorem k171_7r : sR k171_7 k171_o0 k171_6 := yR rfl
noncomputable abbrev k171_C : Orc → Cx := mkC Try.prog [] 171 8 [.tmp 2]
theorem k171_of0 : OfP0 Try.prog Try.f171 171 8 k171_C k171_7 := @ofP0 _ _ _ _ _ _ _ _ Try.func171 (by decide +kernel) rfl (by kernel_rfl) rfl (by kernel_rfl)
theorem lenS (n : Nat) (h : Heap) (hn : n ≤ 48) : ACalls Try.prog 171 [.int .u64 n] h (fun v h' => ∃ L : Int, v = .int .i64 L ∧ (0 < n → ¬ L = 0) ∧ h' = h) := by
  refine k171_of0 rfl noPure fun I => ?_
  refine Run2.of I 1000 ?_
  simp -implicitDefEqProofs
  refine (len64S n h hn).mono ?_
  rintro v h' ⟨L, rfl, hL, rfl⟩
  refine gK.go ?_
  simp -implicitDefEqProofs
  exact hL
abbrev k190_o0 : List AJ := [.o ⟨(some 4), none, false, .mv (.c (.bool false)), (some [0, 1])⟩]
abbrev k190_o1 : List AJ := [.o ⟨(some 6), none, false, .mv (.t 0), none⟩, .o ⟨(some 7), none, false, .len (.t 6), none⟩, .o ⟨(some 8), none, false, .mv (.t 1), none⟩, .o ⟨(some 9), none, false, .len (.t 8), none⟩, .o ⟨(some 10), none, false, .bin .neq (.t 7) (.t 9), (some [0, 1, 10])⟩]
abbrev k190_o2 : List AJ := [.o ⟨(some 4), none, false, .mv (.c (.bool false)), (some [4])⟩]
def k190_3 : ACode := .seq (.region k190_o2) .ret
def k190_4 : ACode := .cond (.t 10) k190_3 .skip
def k190_5 : ACode := .seq (.region k190_o1) k190_4
abbrev k190_o3 : List AJ := [.o ⟨(some 11), none, false, .mv (.t 0), none⟩, .o ⟨(some 12), none, false, .len (.t 11), none⟩, .o ⟨(some 13), none, false, .mv (.c (.int .i64 0)), (some [0, 1, 12, 13])⟩]
abbrev k190_o4 : List AJ := [.o ⟨(some 14), none, false, .bin .lss (.t 13) (.t 12), (some [0, 1, 12, 13, 14])⟩]
abbrev k190_o5 : List AJ := [.o ⟨(some 15), none, false, .mv (.t 13), none⟩, .o ⟨(some 5), none, false, .mv (.t 15), (some [0, 1, 5, 12, 13])⟩]
abbrev k190_o6 : List AI := [⟨(some 16), none, false, .mv (.t 0), none⟩, ⟨(some 17), none, false, .mv (.t 5), none⟩, ⟨(some 18), none, false, .idxA 1 (.t 16) (.t 17), none⟩, ⟨(some 19), none, false, .load 1 false (.t 18), none⟩, ⟨(some 20), none, false, .mv (.t 1), none⟩, ⟨(some 21), none, false, .mv (.t 5), none⟩, ⟨(some 22), none, false, .idxA 1 (.t 20) (.t 21), none⟩, ⟨(some 23), none, false, .load 1 false (.t 22), none⟩, ⟨(some 24), none, false, .bin .neq (.t 19) (.t 23), (some [0, 1, 12, 13, 24])⟩]
abbrev k190_o7 : List AJ := [.o ⟨(some 4), none, false, .mv (.c (.bool false)), (some [4])⟩]
def k190_12 : ACode := .seq (.region k190_o7) .ret
def k190_13 : ACode := .cond (.t 24) k190_12 .skip
def k190_14 : ACode := .seq (.draw k190_o6 [] rfl) k190_13
def k190_15 : ACode := .seq (.region k190_o5) k190_14
abbrev k190_o8 : List AJ := [.o ⟨(some 25), none, true, .bin .add (.t 13) (.c (.int .i64 1)), none⟩, .o ⟨(some 13), none, false, .mv (.t 25), (some [0, 1, 12, 13])⟩]
def k190_17 : ACode := .region k190_o8
def k190_18 : ACode := .seq (.block 1 k190_15) k190_17
def k190_19 : ACode := .seq (.cond (.t 14) .skip (.exit 0)) k190_18
def k190_20 : ACode := .seq (.region k190_o4) k190_19
def k190_21 : ACode := .loop k190_20
def k190_22 : ACode := .block 0 k190_21
def k190_23 : ACode := .seq (.region k190_o3) k190_22
abbrev k190_o9 : List AJ := [.o ⟨(some 4), none, false, .mv (.c (.bool true)), (some [4])⟩]
def k190_25 : ACode := .seq (.region k190_o9) .ret
def k190_26 : ACode := .seq k190_23 k190_25
def k190_27 : ACode := .seq k190_5 k190_26
def k190_28 : ACode := .seq (.region k190_o0) k190_27
@[simp, simp ↓] theorem k190_3r : sR k190_3 k190_o2 .ret := yR rfl
@[simp, simp ↓] theorem k190_4r : rC k190_4 (.t 10) k190_3 .skip := zC rfl
@[simp, simp ↓] theorem k190_5r : sR k190_5 k190_o1 k190_4 := yR rfl
@[simp, simp ↓] theorem k190_12r : sR k190_12 k190_o7 .ret := yR rfl
@[simp, simp ↓] theorem k190_13r : rC k190_13 (.t 24) k190_12 .skip := zC rfl
@[simp, simp ↓] theorem k190_14r : sD k190_14 k190_o6 [] k190_13 := yD rfl
@[simp, simp ↓] theorem k190_15r : sR k190_15 k190_o5 k190_14 := yR rfl
@[simp, simp ↓] theorem k190_17r : rR k190_17 k190_o8 := zR rfl
@[simp, simp ↓] theorem k190_18r : sB k190_18 1 k190_15 k190_17 := yB rfl
@[simp, simp ↓] theorem k190_19r : sC k190_19 (.t 14) .skip (.exit 0) k190_18 := yC rfl
@[simp, simp ↓] theorem k190_20r : sR k190_20 k190_o4 k190_19 := yR rfl
@[simp, simp ↓] theorem k190_21r : rL k190_21 k190_20 := zL rfl
@[simp, simp ↓] theorem k190_22r : rB k190_22 0 k190_21 := zB rfl
@[simp, simp ↓] theorem k190_23r : sR k190_23 k190_o3 k190_22 := yR rfl
@[simp, simp ↓] theorem k190_25r : sR k190_25 k190_o9 .ret := yR rfl
@[simp, simp ↓] theorem k190_26r : rS k190_26 k190_23 k190_25 := zS rfl
@[simp, simp ↓] theorem k190_27r : rS k190_27 k190_5 k190_26 := zS rfl
@[simp, simp ↓] theorem k190_28r : sR k190_28 k190_o0 k190_27 := yR rfl
noncomputable abbrev k190_C : Orc → Cx := mkC Try.prog [] 190 26 [.tmp 4]
theorem k190_of0 : OfP0 Try.prog Try.f190 190 26 k190_C k190_28 := @ofP0 _ _ _ _ _ _ _ _ Try.func190 (by decide +kernel) rfl (by kernel_rfl) rfl (by kernel_rfl)
theorem equal_s (l m : List Int) (h : Heap) (hl : l.length ≤ 1048576) : ACalls Try.prog 190 [.snap 1 (l.map iv), .snap 1 (m.map iv)] h (fun v h' => v = .bool (decide (l = m)) ∧ h' = h) := by
  refine k190_of0 rfl noPure fun I => ?_
  refine Run2.of I 1000 ?_
  simp -implicitDefEqProofs
  refine ⟨by rintro hne rfl; exact hne rfl, fun hlen => ?_⟩
  refine Run2.loopE (fun i => [(0, .snap 1 (l.map iv)), (1, .snap 1 (m.map iv)), (12, .int .i64 l.length), (13, .int .i64 (i : Nat))]) (fun i => h) (fun i => l.length - i) (fun i => i ≤ l.length ∧ l.take i = m.take i) 0 (by simp [hlen]) rfl (by simp) fun i hi ih => ?_
  by_cases hlt : i < l.length
  · have hlt' : i < m.length := by omega
    refine Run2.of I 1000 ?_
    simp -implicitDefEqProofs [hlt, hlt']
    constructor
    · rintro hne rfl
      exact hne rfl
    · intro he
      refine ⟨by omega, ?_⟩
      have := ih (i + 1) ⟨by omega, by rw [List.take_succ_eq_append_getElem hlt, List.take_succ_eq_append_getElem hlt', hi.2, he]⟩ (by omega)
      simpa using this
  · refine Run2.of I 1000 ?_
    simp -implicitDefEqProofs [hlt]
    have : i = l.length := by omega
    have h2 := hi.2
    rw [List.take_of_length_le (by omega), List.take_of_length_le (by omega)] at h2
    exact h2
/-- Neighbours are not equal. -/
structure Cmp (P : Program) (id : Nat) (us ex : List AV) (g : FuncId) (H : Heap) : Prop where
  at_ : hget H id = some ⟨1, us ++ ex⟩
  len : us.length ≤ 1048576
  cell : ∀ i (h : i < us.length), isCell us[i] = true
  eq : ∀ i (h : i + 1 < us.length), ACalls P g [us[i + 1], us[i]] H (fun v h' => v = .bool false ∧ h' = H)
theorem Cmp.get {P : Program} {id : Nat} {us ex : List AV} {g : FuncId} {H : Heap} (S : Cmp P id us ex g H) {i : Nat} (h : i < us.length) : (us ++ ex)[i]? = some us[i] := by
  rw [List.getElem?_append_left h]; simp [h]
end Go.AG
