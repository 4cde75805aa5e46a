/- Drawn inputs: the source of the draws. No statement is made here. -/
import Derived.Test.YtdjamhallkijmaaIntS
import Derived.Test.YtdjamhallkijmaaAGByte
namespace Go.AG
open Go.Proofs Go.Proofs.Ytdjamhallkijmaa
set_option linter.unusedSimpArgs false
set_option linter.unusedVariables false
set_option maxRecDepth 4000
theorem wrap64 (n : Int) : 0 ≤ IntKind.u64.wrap n ∧ IntKind.u64.wrap n < 18446744073709551616 := by
  have : IntKind.u64.wrap n = n % 18446744073709551616 := by
    unfold IntKind.wrap
    simp [IntKind.signed, IntKind.bits]
  rw [this]
  omega
theorem and255 (n : Int) : 0 ≤ bits .and .u64 n 255 ∧ bits .and .u64 n 255 ≤ 255 := by
  unfold bits
  simp only
  have h1 : (BitVec.ofInt IntKind.u64.bits n &&& BitVec.ofInt IntKind.u64.bits 255).toNat ≤ 255 := by
    rw [BitVec.toNat_and]
    exact Nat.and_le_right
  generalize (BitVec.ofInt IntKind.u64.bits n &&& BitVec.ofInt IntKind.u64.bits 255).toNat = m at *
  have : IntKind.u64.wrap (m : Int) = (m : Int) % 18446744073709551616 := by
    unfold IntKind.wrap
    simp [IntKind.signed, IntKind.bits]
  rw [this]
  omega
abbrev k70_o0 : List AJ := [.o ⟨(some 2), none, false, .mv (.c (.int .i64 0)), (some [0])⟩]
abbrev k70_o1 : List AJ := [.o ⟨(some 3), none, false, .mv (.c (.int .i64 0)), (some [0, 3])⟩]
abbrev k70_o2 : List AI := [⟨(some 4), none, false, .mv (.t 0), none⟩, ⟨(some 5), none, false, .nilchk (.t 4), none⟩, ⟨(some 6), none, false, .fieldA 1 (.t 5), none⟩, ⟨(some 7), none, false, .load 1 false (.t 6), none⟩, ⟨(some 8), none, false, .mv (.t 0), none⟩, ⟨(some 9), none, false, .nilchk (.t 8), none⟩, ⟨(some 10), none, false, .fieldA 0 (.t 9), none⟩, ⟨(some 11), none, false, .load 1 false (.t 10), none⟩, ⟨(some 12), none, false, .len (.t 11), none⟩, ⟨(some 13), none, false, .bin .lss (.t 7) (.t 12), (some [0, 3, 13])⟩]
abbrev k70_o3 : List AI := [⟨(some 14), none, false, .mv (.t 0), none⟩, ⟨(some 15), none, false, .nilchk (.t 14), none⟩, ⟨(some 16), none, false, .fieldA 0 (.t 15), none⟩, ⟨(some 17), none, false, .load 1 false (.t 16), none⟩, ⟨(some 18), none, false, .mv (.t 0), none⟩, ⟨(some 19), none, false, .nilchk (.t 18), none⟩, ⟨(some 20), none, false, .fieldA 1 (.t 19), none⟩, ⟨(some 21), none, false, .load 1 false (.t 20), none⟩, ⟨(some 22), none, false, .idxA 1 (.t 17) (.t 21), none⟩, ⟨(some 23), none, false, .load 1 false (.t 22), none⟩, ⟨(some 24), none, true, .conv .i64 (.t 23), none⟩, ⟨(some 3), none, false, .mv (.t 24), (some [0, 3])⟩]
def k70_3 : ACode := .draw k70_o3 [] rfl
def k70_4 : ACode := .cond (.t 13) k70_3 .skip
def k70_5 : ACode := .seq (.draw k70_o2 [] rfl) k70_4
abbrev k70_o4 : List AJ := [.o ⟨(some 25), none, false, .mv (.t 0), none⟩, .o ⟨(some 26), none, false, .nilchk (.t 25), none⟩, .o ⟨(some 27), none, false, .fieldA 1 (.t 26), none⟩, .o ⟨(some 28), none, false, .load 1 false (.t 27), none⟩, .o ⟨(some 29), none, true, .bin .add (.t 28) (.c (.int .i64 1)), none⟩, .o ⟨(some 30), none, false, .nilchk (.t 25), none⟩, .o ⟨(some 31), none, false, .fieldA 1 (.t 30), none⟩, .o ⟨none, none, false, .store 1 (.t 31) (.t 29), (some [0, 3])⟩]
abbrev k70_o5 : List AJ := [.o ⟨(some 32), none, false, .mv (.t 0), none⟩, .o ⟨(some 33), none, false, .mv (.t 0), none⟩, .o ⟨(some 34), none, false, .nilchk (.t 33), none⟩, .o ⟨(some 35), none, false, .fieldA 2 (.t 34), none⟩, .o ⟨(some 36), none, false, .load 1 false (.t 35), none⟩, .o ⟨(some 37), none, false, .bin .mul (.t 36) (.c (.int .u64 6364136223846793005)), none⟩, .o ⟨(some 38), none, false, .mv (.t 3), none⟩, .o ⟨(some 39), none, false, .conv .u64 (.t 38), none⟩, .o ⟨(some 40), none, false, .bin .add (.t 37) (.t 39), none⟩, .o ⟨(some 41), none, false, .bin .add (.t 40) (.c (.int .u64 1442695040888963407)), none⟩, .o ⟨(some 42), none, false, .nilchk (.t 32), none⟩, .o ⟨(some 43), none, false, .fieldA 2 (.t 42), none⟩, .o ⟨none, none, false, .store 1 (.t 43) (.t 41), (some [0, 3])⟩]
abbrev k70_o6 : List AI := [⟨(some 44), none, false, .mv (.t 0), none⟩, ⟨(some 45), none, false, .nilchk (.t 44), none⟩, ⟨(some 46), none, false, .fieldA 1 (.t 45), none⟩, ⟨(some 47), none, false, .load 1 false (.t 46), none⟩, ⟨(some 48), none, false, .mv (.t 0), none⟩, ⟨(some 49), none, false, .nilchk (.t 48), none⟩, ⟨(some 50), none, false, .fieldA 0 (.t 49), none⟩, ⟨(some 51), none, false, .load 1 false (.t 50), none⟩, ⟨(some 52), none, false, .len (.t 51), none⟩, ⟨(some 53), none, false, .bin .leq (.t 47) (.t 52), (some [0, 3, 53])⟩]
abbrev k70_o7 : List AJ := [.o ⟨(some 54), none, false, .mv (.t 3), none⟩, .o ⟨(some 2), none, false, .mv (.t 54), (some [2])⟩]
def k70_10 : ACode := .seq (.region k70_o7) .ret
def k70_11 : ACode := .cond (.t 53) k70_10 .skip
def k70_12 : ACode := .seq (.draw k70_o6 [] rfl) k70_11
abbrev k70_o8 : List AJ := [.o ⟨(some 55), none, false, .mv (.t 0), none⟩, .o ⟨(some 56), none, false, .nilchk (.t 55), none⟩, .o ⟨(some 57), none, false, .fieldA 2 (.t 56), none⟩, .o ⟨(some 58), none, false, .load 1 false (.t 57), none⟩, .o ⟨(some 59), none, false, .bin .shr (.t 58) (.c (.int .u64 40)), none⟩, .o ⟨(some 60), none, false, .bin .and (.t 59) (.c (.int .u64 255)), none⟩, .o ⟨(some 61), none, true, .conv .i64 (.t 60), none⟩, .o ⟨(some 2), none, false, .mv (.t 61), (some [2])⟩]
def k70_14 : ACode := .seq (.region k70_o8) .ret
def k70_15 : ACode := .seq k70_12 k70_14
def k70_16 : ACode := .seq (.region k70_o5) k70_15
def k70_17 : ACode := .seq (.region k70_o4) k70_16
def k70_18 : ACode := .seq k70_5 k70_17
def k70_19 : ACode := .seq (.region k70_o1) k70_18
def k70_20 : ACode := .seq (.region k70_o0) k70_19
@[simp, simp ↓] theorem k70_3r : rD k70_3 k70_o3 [] := zD rfl
@[simp, simp ↓] theorem k70_4r : rC k70_4 (.t 13) k70_3 .skip := zC rfl
@[simp, simp ↓] theorem k70_5r : sD k70_5 k70_o2 [] k70_4 := yD rfl
@[simp, simp ↓] theorem k70_10r : sR k70_10 k70_o7 .ret := yR rfl
@[simp, simp ↓] theorem k70_11r : rC k70_11 (.t 53) k70_10 .skip := zC rfl
@[simp, simp ↓] theorem k70_12r : sD k70_12 k70_o6 [] k70_11 := yD rfl
@[simp, simp ↓] theorem k70_14r : sR k70_14 k70_o8 .ret := yR rfl
@[simp, simp ↓] theorem k70_15r : rS k70_15 k70_12 k70_14 := zS rfl
@[simp, simp ↓] theorem k70_16r : sR k70_16 k70_o5 k70_15 := yR rfl
@[simp, simp ↓] theorem k70_17r : sR k70_17 k70_o4 k70_16 := yR rfl
@[simp, simp ↓] theorem k70_18r : rS k70_18 k70_5 k70_17 := zS rfl
@[simp, simp ↓] theorem k70_19r : sR k70_19 k70_o1 k70_18 := yR rfl
@[simp, simp ↓] theorem k70_20r : sR k70_20 k70_o0 k70_19 := yR rfl
noncomputable abbrev k70_C : Orc → Cx := mkC Try.prog [] 70 62 [.tmp 2]
theorem k70_of0 : OfP0 Try.prog Try.f70 70 62 k70_C k70_20 := @ofP0 _ _ _ _ _ _ _ _ Try.func70 (by decide +kernel) rfl (by kernel_rfl) rfl (by kernel_rfl)
theorem next_w (id : Nat) (code : List UInt8) (at0 seed : Int) (pre h : Heap) (hp : id ∉ dom pre) (hat : 0 ≤ at0 ∧ at0 ≤ 1000000) (hs : 0 ≤ seed ∧ seed < 18446744073709551616) (hl : code.length ≤ 1048576) :
    ACalls Try.prog 70 [.ptr id 3 0 0] (pre ++ (id, ⟨3, [.agg [.snap 1 (code.map bv), .int .i64 at0, .int .u64 seed]]⟩) :: h)
      (fun v h' => ∃ b seed', v = .int .i64 b ∧ (0 ≤ b ∧ b ≤ 255) ∧ (0 ≤ seed' ∧ seed' < 18446744073709551616) ∧ h' = pre ++ (id, ⟨3, [.agg [.snap 1 (code.map bv), .int .i64 (at0 + 1), .int .u64 seed']]⟩) :: h) := by
  obtain ⟨R, hR⟩ : ∃ R, R = fun (v : AV) (h' : Heap) => ∃ b seed', v = .int .i64 b ∧ (0 ≤ b ∧ b ≤ 255) ∧ (0 ≤ seed' ∧ seed' < 18446744073709551616) ∧ h' = pre ++ (id, ⟨3, [.agg [.snap 1 (code.map bv), .int .i64 (at0 + 1), .int .u64 seed']]⟩) :: h := ⟨_, rfl⟩
  rw [← hR]
  have leaf : ∀ b seed', (0 ≤ b ∧ b ≤ 255) → (0 ≤ seed' ∧ seed' < 18446744073709551616) → R (.int .i64 b) (pre ++ (id, ⟨3, [.agg [.snap 1 (code.map bv), .int .i64 (at0 + 1), .int .u64 seed']]⟩) :: h) := fun b s h1 h2 => by
    rw [hR]; exact ⟨b, s, rfl, h1, h2, rfl⟩
  clear hR
  refine k70_of0 rfl noPure fun I => ?_
  by_cases hlt : at0 < code.length
  · obtain ⟨a, ha⟩ : ∃ a : Nat, at0 = (a : Int) := ⟨at0.toNat, by omega⟩
    subst ha
    have hal : a < code.length := by omega
    refine Run2.of I 1000 ?_
    simp -implicitDefEqProofs [hget_app hp, hset_app hp, hlt, hal, bv]
    have hb := bv_rng code[a]
    refine ⟨by omega, by omega, fun h1 => leaf _ _ hb (wrap64 _), fun h1 => ⟨?_, leaf _ _ (and255 _) (wrap64 _)⟩⟩
    have := and255 ((IntKind.u64.wrap (IntKind.u64.wrap (IntKind.u64.wrap (seed * 6364136223846793005) + IntKind.u64.wrap ↑code[a].toNat) + 1442695040888963407)).fdiv (2 ^ min 40 IntKind.u64.bits))
    exact ⟨by omega, by omega⟩
  · refine Run2.of I 1000 ?_
    simp -implicitDefEqProofs [hget_app hp, hset_app hp, hlt]
    refine ⟨by omega, fun h1 => leaf _ _ (by omega) (wrap64 _), fun h1 => ⟨?_, leaf _ _ (and255 _) (wrap64 _)⟩⟩
    have := and255 ((IntKind.u64.wrap (IntKind.u64.wrap (IntKind.u64.wrap (seed * 6364136223846793005) + IntKind.u64.wrap 0) + 1442695040888963407)).fdiv (2 ^ min 40 IntKind.u64.bits))
    exact ⟨by omega, by omega⟩
abbrev k52_o0 : List AJ := [.o ⟨(some 4), none, false, .mv (.c (.int .i64 0)), (some [0, 1])⟩]
abbrev k52_o1 : List AJ := [.o ⟨(some 6), none, false, .mv (.t 1), none⟩, .o ⟨(some 7), none, false, .bin .leq (.t 6) (.c (.int .i64 1)), (some [0, 1, 7])⟩]
abbrev k52_o2 : List AJ := [.o ⟨(some 4), none, false, .mv (.c (.int .i64 0)), (some [4])⟩]
def k52_3 : ACode := .seq (.region k52_o2) .ret
def k52_4 : ACode := .cond (.t 7) k52_3 .skip
def k52_5 : ACode := .seq (.region k52_o1) k52_4
abbrev k52_o3 : List AJ := [.o ⟨(some 8), none, false, .mv (.t 0), none⟩, .o ⟨(some 9), none, false, .call 70 [(.t 8)], none⟩, .o ⟨(some 5), none, false, .mv (.t 9), (some [0, 1, 5])⟩]
abbrev k52_o4 : List AJ := [.o ⟨(some 10), none, false, .mv (.t 1), none⟩, .o ⟨(some 11), none, false, .bin .gtr (.t 10) (.c (.int .i64 200)), (some [0, 1, 5, 11])⟩]
abbrev k52_o5 : List AJ := [.o ⟨(some 12), none, false, .mv (.t 5), none⟩, .o ⟨(some 13), none, true, .bin .mul (.t 12) (.c (.int .i64 256)), none⟩, .o ⟨(some 14), none, false, .mv (.t 0), none⟩, .o ⟨(some 15), none, false, .call 70 [(.t 14)], none⟩, .o ⟨(some 16), none, true, .bin .add (.t 13) (.t 15), none⟩, .o ⟨(some 5), none, false, .mv (.t 16), (some [1, 5])⟩]
def k52_8 : ACode := .region k52_o5
def k52_9 : ACode := .cond (.t 11) k52_8 .skip
def k52_10 : ACode := .seq (.region k52_o4) k52_9
abbrev k52_o6 : List AJ := [.o ⟨(some 17), none, false, .mv (.t 5), none⟩, .o ⟨(some 18), none, false, .mv (.t 1), none⟩, .o ⟨(some 19), none, false, .bin .rem (.t 17) (.t 18), none⟩, .o ⟨(some 4), none, false, .mv (.t 19), (some [4])⟩]
def k52_12 : ACode := .seq (.region k52_o6) .ret
def k52_13 : ACode := .seq k52_10 k52_12
def k52_14 : ACode := .seq (.region k52_o3) k52_13
def k52_15 : ACode := .seq k52_5 k52_14
def k52_16 : ACode := .seq (.region k52_o0) k52_15
@[simp, simp ↓] theorem k52_3r : sR k52_3 k52_o2 .ret := yR rfl
@[simp, simp ↓] theorem k52_4r : rC k52_4 (.t 7) k52_3 .skip := zC rfl
@[simp, simp ↓] theorem k52_5r : sR k52_5 k52_o1 k52_4 := yR rfl
@[simp, simp ↓] theorem k52_8r : rR k52_8 k52_o5 := zR rfl
@[simp, simp ↓] theorem k52_9r : rC k52_9 (.t 11) k52_8 .skip := zC rfl
@[simp, simp ↓] theorem k52_10r : sR k52_10 k52_o4 k52_9 := yR rfl
@[simp, simp ↓] theorem k52_12r : sR k52_12 k52_o6 .ret := yR rfl
@[simp, simp ↓] theorem k52_13r : rS k52_13 k52_10 k52_12 := zS rfl
@[simp, simp ↓] theorem k52_14r : sR k52_14 k52_o3 k52_13 := yR rfl
@[simp, simp ↓] theorem k52_15r : rS k52_15 k52_5 k52_14 := zS rfl
@[simp, simp ↓] theorem k52_16r : sR k52_16 k52_o0 k52_15 := yR rfl
noncomputable abbrev k52_C : Orc → Cx := mkC Try.prog [] 52 20 [.tmp 4]
theorem k52_of0 : OfP0 Try.prog Try.f52 52 20 k52_C k52_16 := @ofP0 _ _ _ _ _ _ _ _ Try.func52 (by decide +kernel) rfl (by kernel_rfl) rfl (by kernel_rfl)
theorem pick_w (id : Nat) (code : List UInt8) (at0 seed n : Int) (pre h : Heap) (hp : id ∉ dom pre) (hat : 0 ≤ at0 ∧ at0 ≤ 900000) (hs : 0 ≤ seed ∧ seed < 18446744073709551616) (hl : code.length ≤ 1048576) (hn : 1 ≤ n ∧ n ≤ 1000000) :
    ACalls Try.prog 52 [.ptr id 3 0 0, .int .i64 n] (pre ++ (id, ⟨3, [.agg [.snap 1 (code.map bv), .int .i64 at0, .int .u64 seed]]⟩) :: h)
      (fun v h' => ∃ b at' seed', v = .int .i64 b ∧ (0 ≤ b ∧ b < n) ∧ (at0 ≤ at' ∧ at' ≤ at0 + 2) ∧ (0 ≤ seed' ∧ seed' < 18446744073709551616) ∧ h' = pre ++ (id, ⟨3, [.agg [.snap 1 (code.map bv), .int .i64 at', .int .u64 seed']]⟩) :: h) := by
  obtain ⟨R, hR⟩ : ∃ R, R = fun (v : AV) (h' : Heap) => ∃ b at' seed', v = .int .i64 b ∧ (0 ≤ b ∧ b < n) ∧ (at0 ≤ at' ∧ at' ≤ at0 + 2) ∧ (0 ≤ seed' ∧ seed' < 18446744073709551616) ∧ h' = pre ++ (id, ⟨3, [.agg [.snap 1 (code.map bv), .int .i64 at', .int .u64 seed']]⟩) :: h := ⟨_, rfl⟩
  rw [← hR]
  have leaf : ∀ b at' seed', (0 ≤ b ∧ b < n) → (at0 ≤ at' ∧ at' ≤ at0 + 2) → (0 ≤ seed' ∧ seed' < 18446744073709551616) → R (.int .i64 b) (pre ++ (id, ⟨3, [.agg [.snap 1 (code.map bv), .int .i64 at', .int .u64 seed']]⟩) :: h) := fun b a s h1 h2 h3 => by
    rw [hR]; exact ⟨b, a, s, rfl, h1, h2, h3, rfl⟩
  clear hR
  have hmod : ∀ b : Int, 0 ≤ b → 0 ≤ b.tmod n ∧ b.tmod n < n := fun b hb => by
    rw [Int.tmod_eq_emod_of_nonneg hb]
    exact ⟨Int.emod_nonneg _ (by omega), Int.emod_lt_of_pos _ (by omega)⟩
  refine k52_of0 rfl noPure fun I => ?_
  refine Run2.of I 1000 ?_
  simp -implicitDefEqProofs
  refine ⟨fun h1 => leaf _ _ _ (by omega) (by omega) hs, fun h1 => ?_⟩
  refine (next_w id code at0 seed pre h hp (by omega) hs hl).mono ?_
  rintro v h' ⟨b, s, rfl, hb, hs', rfl⟩
  refine gK.go ?_
  simp -implicitDefEqProofs
  refine ⟨fun h2 => ⟨by omega, ?_⟩, fun h2 => ⟨by omega, ?_⟩⟩
  · refine (next_w id code (at0 + 1) s pre h hp (by omega) hs' hl).mono ?_
    rintro v h' ⟨b2, s2, rfl, hb2, hs2, rfl⟩
    refine gK.go ?_
    simp -implicitDefEqProofs
    refine ⟨by omega, by omega, leaf _ _ _ (hmod _ (by omega)) (by omega) hs2⟩
  · exact leaf _ _ _ (hmod _ (by omega)) (by omega) hs'
abbrev k55_o0 : List AJ := [.o ⟨(some 4), none, false, .mv (.c (.bool false)), (some [0, 1])⟩]
abbrev k55_o1 : List AJ := [.o ⟨(some 5), none, false, .mv (.t 0), none⟩, .o ⟨(some 6), none, false, .mv (.t 1), none⟩, .o ⟨(some 7), none, false, .call 52 [(.t 5), (.t 6)], none⟩, .o ⟨(some 8), none, false, .bin .eql (.t 7) (.c (.int .i64 0)), none⟩, .o ⟨(some 4), none, false, .mv (.t 8), (some [4])⟩]
def k55_2 : ACode := .seq (.region k55_o1) .ret
def k55_3 : ACode := .seq (.region k55_o0) k55_2
@[simp, simp ↓] theorem k55_2r : sR k55_2 k55_o1 .ret := yR rfl
@[simp, simp ↓] theorem k55_3r : sR k55_3 k55_o0 k55_2 := yR rfl
noncomputable abbrev k55_C : Orc → Cx := mkC Try.prog [] 55 9 [.tmp 4]
theorem k55_of0 : OfP0 Try.prog Try.f55 55 9 k55_C k55_3 := @ofP0 _ _ _ _ _ _ _ _ Try.func55 (by decide +kernel) rfl (by kernel_rfl) rfl (by kernel_rfl)
theorem one_w (id : Nat) (code : List UInt8) (at0 seed n : Int) (pre h : Heap) (hp : id ∉ dom pre) (hat : 0 ≤ at0 ∧ at0 ≤ 900000) (hs : 0 ≤ seed ∧ seed < 18446744073709551616) (hl : code.length ≤ 1048576) (hn : 1 ≤ n ∧ n ≤ 1000000) :
    ACalls Try.prog 55 [.ptr id 3 0 0, .int .i64 n] (pre ++ (id, ⟨3, [.agg [.snap 1 (code.map bv), .int .i64 at0, .int .u64 seed]]⟩) :: h)
      (fun v h' => ∃ (c : Bool) (at' seed' : Int), v = .bool c ∧ (at0 ≤ at' ∧ at' ≤ at0 + 2) ∧ (0 ≤ seed' ∧ seed' < 18446744073709551616) ∧ h' = pre ++ (id, ⟨3, [.agg [.snap 1 (code.map bv), .int .i64 at', .int .u64 seed']]⟩) :: h) := by
  refine k55_of0 rfl noPure fun I => ?_
  refine Run2.of I 1000 ?_
  simp -implicitDefEqProofs
  refine (pick_w id code at0 seed n pre h hp hat hs hl hn).mono ?_
  rintro v h' ⟨b, a, s, rfl, hb, ha, hs', rfl⟩
  refine gK.go ?_
  simp -implicitDefEqProofs
  exact ⟨by omega, ha, hs'⟩
abbrev k53_o0 : List AJ := [.o ⟨(some 4), none, false, .mv (.c (.int .i64 0)), (some [0, 1])⟩]
abbrev k53_o1 : List AJ := [.o ⟨(some 5), none, false, .mv (.t 1), none⟩, .o ⟨(some 6), none, false, .mv (.t 0), none⟩, .o ⟨(some 7), none, false, .mv (.t 1), none⟩, .o ⟨(some 8), none, false, .len (.t 7), none⟩, .o ⟨(some 9), none, false, .call 52 [(.t 6), (.t 8)], none⟩, .o ⟨(some 10), none, false, .idxA 1 (.t 5) (.t 9), none⟩, .o ⟨(some 11), none, false, .load 1 false (.t 10), none⟩, .o ⟨(some 4), none, false, .mv (.t 11), (some [4])⟩]
def k53_2 : ACode := .seq (.region k53_o1) .ret
def k53_3 : ACode := .seq (.region k53_o0) k53_2
@[simp, simp ↓] theorem k53_2r : sR k53_2 k53_o1 .ret := yR rfl
@[simp, simp ↓] theorem k53_3r : sR k53_3 k53_o0 k53_2 := yR rfl
noncomputable abbrev k53_C : Orc → Cx := mkC Try.prog [] 53 12 [.tmp 4]
theorem k53_of0 : OfP0 Try.prog Try.f53 53 12 k53_C k53_3 := @ofP0 _ _ _ _ _ _ _ _ Try.func53 (by decide +kernel) rfl (by kernel_rfl) rfl (by kernel_rfl)
theorem among_w (id : Nat) (code : List UInt8) (at0 seed : Int) (l : List Int) (pre h : Heap) (hp : id ∉ dom pre) (hat : 0 ≤ at0 ∧ at0 ≤ 900000) (hs : 0 ≤ seed ∧ seed < 18446744073709551616) (hl : code.length ≤ 1048576) (hn : 1 ≤ l.length ∧ l.length ≤ 1000000) :
    ACalls Try.prog 53 [.ptr id 3 0 0, .snap 1 (l.map iv)] (pre ++ (id, ⟨3, [.agg [.snap 1 (code.map bv), .int .i64 at0, .int .u64 seed]]⟩) :: h)
      (fun v h' => ∃ c at' seed', v = .int .i64 c ∧ c ∈ l ∧ (at0 ≤ at' ∧ at' ≤ at0 + 2) ∧ (0 ≤ seed' ∧ seed' < 18446744073709551616) ∧ h' = pre ++ (id, ⟨3, [.agg [.snap 1 (code.map bv), .int .i64 at', .int .u64 seed']]⟩) :: h) := by
  refine k53_of0 rfl noPure fun I => ?_
  refine Run2.of I 1000 ?_
  simp -implicitDefEqProofs
  refine (pick_w id code at0 seed l.length pre h hp hat hs hl (by omega)).mono ?_
  rintro v h' ⟨b, a, s, rfl, hb, ha, hs', rfl⟩
  obtain ⟨i, rfl⟩ : ∃ i : Nat, b = (i : Int) := ⟨b.toNat, by omega⟩
  have hil : i < l.length := by omega
  refine gK.go ?_
  simp -implicitDefEqProofs [hil]
  exact ⟨ha, hs'⟩
end Go.AG
