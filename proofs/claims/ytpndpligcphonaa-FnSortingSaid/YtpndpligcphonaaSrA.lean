/- Drawn inputs: the source of the draws. No statement is made here. -/
import Derived.Test.YtpndpligcphonaaIntS
import Derived.Test.YtpndpligcphonaaAGByte
namespace Go.AG
open Go.Proofs Go.Proofs.Ytpndpligcphonaa
set_option linter.unusedSimpArgs false
set_option linter.unusedVariables false
set_option maxRecDepth 4000
theorem Byte_of_shape {x : AV} (h : shV (.int .u8) x) : ∃ b : UInt8, x = bv b := by
  obtain ⟨h1, n, e, r⟩ := h
  have hr : 0 ≤ n ∧ n ≤ 255 := by simpa [IntKind.min, IntKind.max, IntKind.signed, IntKind.bits] using r
  have key : bv (UInt8.ofNat n.toNat) = .int .u8 n := by
    unfold bv
    rw [UInt8.toNat_ofNat']
    congr 1
    omega
  cases x <;> simp [isAgg, Ty.isS, cellsOf] at h1 e
  exact ⟨UInt8.ofNat n.toNat, by rw [key, e.1, e.2]⟩
theorem Bytes_list : ∀ {xs : List AV}, (∀ x ∈ xs, isAgg x = (Ty.int .u8).isS ∧ shC (.int .u8) (cellsOf x)) → ∃ l : List UInt8, xs = l.map bv
  | [], _ => ⟨[], rfl⟩
  | x :: xs, h => by
    obtain ⟨b, rfl⟩ := Byte_of_shape (h x (List.mem_cons_self ..))
    obtain ⟨l, rfl⟩ := Bytes_list (xs := xs) fun y hy => h y (List.mem_cons_of_mem _ hy)
    exact ⟨b :: l, rfl⟩
def wfY (l : List UInt8) : Prop := l.length ≤ 9223372036854775807
theorem Bytes_of_shape {x : AV} (h : shV (.slice (.int .u8)) x) : ∃ l : List UInt8, x = .snap 1 (l.map bv) ∧ wfY l := by
  obtain ⟨h1, xs, e1, hlen, r3⟩ := h
  have hm : maxLen ≤ 9223372036854775807 := by decide
  obtain ⟨l, rfl⟩ := Bytes_list r3
  cases x <;> simp [isAgg, Ty.isS, cellsOf] at h1 e1
  rw [e1.1, e1.2]
  exact ⟨l, rfl, by simp only [List.length_map] at hlen; exact Nat.le_trans hlen hm⟩
end Go.AG
namespace Go.AG
open Go.Proofs Go.Proofs.Ytpndpligcphonaa
set_option linter.unusedSimpArgs false
set_option linter.unusedVariables false
set_option maxRecDepth 4000
theorem wrap64 (n : Int) : 0 ≤ IntKind.u64.wrap n ∧ IntKind.u64.wrap n < 18446744073709551616 := by
  have : IntKind.u64.wrap n = n % 18446744073709551616 := by
    unfold IntKind.wrap
    simp [IntKind.signed, IntKind.bits]
  rw [this]
  omega
theorem and255 (n : Int) : 0 ≤ bits .and .u64 n 255 ∧ bits .and .u64 n 255 ≤ 255 := by
  unfold bits
  simp only
  have h1 : (BitVec.ofInt IntKind.u64.bits n &&& BitVec.ofInt IntKind.u64.bits 255).toNat ≤ 255 := by
    rw [BitVec.toNat_and]
    exact Nat.and_le_right
  generalize (BitVec.ofInt IntKind.u64.bits n &&& BitVec.ofInt IntKind.u64.bits 255).toNat = m at *
  have : IntKind.u64.wrap (m : Int) = (m : Int) % 18446744073709551616 := by
    unfold IntKind.wrap
    simp [IntKind.signed, IntKind.bits]
  rw [this]
  omega
abbrev k38_o0 : List AJ := [.o ⟨(some 2), none, false, .mv (.c (.int .i64 0)), (some [0])⟩]
abbrev k38_o1 : List AJ := [.o ⟨(some 3), none, false, .mv (.c (.int .i64 0)), (some [0, 3])⟩]
abbrev k38_o2 : List AI := [⟨(some 4), none, false, .mv (.t 0), none⟩, ⟨(some 5), none, false, .nilchk (.t 4), none⟩, ⟨(some 6), none, false, .fieldA 1 (.t 5), none⟩, ⟨(some 7), none, false, .load 1 false (.t 6), none⟩, ⟨(some 8), none, false, .mv (.t 0), none⟩, ⟨(some 9), none, false, .nilchk (.t 8), none⟩, ⟨(some 10), none, false, .fieldA 0 (.t 9), none⟩, ⟨(some 11), none, false, .load 1 false (.t 10), none⟩, ⟨(some 12), none, false, .len (.t 11), none⟩, ⟨(some 13), none, false, .bin .lss (.t 7) (.t 12), (some [0, 3, 13])⟩]
abbrev k38_o3 : List AI := [⟨(some 14), none, false, .mv (.t 0), none⟩, ⟨(some 15), none, false, .nilchk (.t 14), none⟩, ⟨(some 16), none, false, .fieldA 0 (.t 15), none⟩, ⟨(some 17), none, false, .load 1 false (.t 16), none⟩, ⟨(some 18), none, false, .mv (.t 0), none⟩, ⟨(some 19), none, false, .nilchk (.t 18), none⟩, ⟨(some 20), none, false, .fieldA 1 (.t 19), none⟩, ⟨(some 21), none, false, .load 1 false (.t 20), none⟩, ⟨(some 22), none, false, .idxA 1 (.t 17) (.t 21), none⟩, ⟨(some 23), none, false, .load 1 false (.t 22), none⟩, ⟨(some 24), none, true, .conv .i64 (.t 23), none⟩, ⟨(some 3), none, false, .mv (.t 24), (some [0, 3])⟩]
def k38_3 : ACode := .draw k38_o3 [] rfl
def k38_4 : ACode := .cond (.t 13) k38_3 .skip
def k38_5 : ACode := .seq (.draw k38_o2 [] rfl) k38_4
abbrev k38_o4 : List AJ := [.o ⟨(some 25), none, false, .mv (.t 0), none⟩, .o ⟨(some 26), none, false, .nilchk (.t 25), none⟩, .o ⟨(some 27), none, false, .fieldA 1 (.t 26), none⟩, .o ⟨(some 28), none, false, .load 1 false (.t 27), none⟩, .o ⟨(some 29), none, true, .bin .add (.t 28) (.c (.int .i64 1)), none⟩, .o ⟨(some 30), none, false, .nilchk (.t 25), none⟩, .o ⟨(some 31), none, false, .fieldA 1 (.t 30), none⟩, .o ⟨none, none, false, .store 1 (.t 31) (.t 29), (some [0, 3])⟩]
abbrev k38_o5 : List AJ := [.o ⟨(some 32), none, false, .mv (.t 0), none⟩, .o ⟨(some 33), none, false, .mv (.t 0), none⟩, .o ⟨(some 34), none, false, .nilchk (.t 33), none⟩, .o ⟨(some 35), none, false, .fieldA 2 (.t 34), none⟩, .o ⟨(some 36), none, false, .load 1 false (.t 35), none⟩, .o ⟨(some 37), none, false, .bin .mul (.t 36) (.c (.int .u64 6364136223846793005)), none⟩, .o ⟨(some 38), none, false, .mv (.t 3), none⟩, .o ⟨(some 39), none, false, .conv .u64 (.t 38), none⟩, .o ⟨(some 40), none, false, .bin .add (.t 37) (.t 39), none⟩, .o ⟨(some 41), none, false, .bin .add (.t 40) (.c (.int .u64 1442695040888963407)), none⟩, .o ⟨(some 42), none, false, .nilchk (.t 32), none⟩, .o ⟨(some 43), none, false, .fieldA 2 (.t 42), none⟩, .o ⟨none, none, false, .store 1 (.t 43) (.t 41), (some [0, 3])⟩]
abbrev k38_o6 : List AI := [⟨(some 44), none, false, .mv (.t 0), none⟩, ⟨(some 45), none, false, .nilchk (.t 44), none⟩, ⟨(some 46), none, false, .fieldA 1 (.t 45), none⟩, ⟨(some 47), none, false, .load 1 false (.t 46), none⟩, ⟨(some 48), none, false, .mv (.t 0), none⟩, ⟨(some 49), none, false, .nilchk (.t 48), none⟩, ⟨(some 50), none, false, .fieldA 0 (.t 49), none⟩, ⟨(some 51), none, false, .load 1 false (.t 50), none⟩, ⟨(some 52), none, false, .len (.t 51), none⟩, ⟨(some 53), none, false, .bin .leq (.t 47) (.t 52), (some [0, 3, 53])⟩]
abbrev k38_o7 : List AJ := [.o ⟨(some 54), none, false, .mv (.t 3), none⟩, .o ⟨(some 2), none, false, .mv (.t 54), (some [2])⟩]
def k38_10 : ACode := .seq (.region k38_o7) .ret
def k38_11 : ACode := .cond (.t 53) k38_10 .skip
def k38_12 : ACode := .seq (.draw k38_o6 [] rfl) k38_11
abbrev k38_o8 : List AJ := [.o ⟨(some 55), none, false, .mv (.t 0), none⟩, .o ⟨(some 56), none, false, .nilchk (.t 55), none⟩, .o ⟨(some 57), none, false, .fieldA 2 (.t 56), none⟩, .o ⟨(some 58), none, false, .load 1 false (.t 57), none⟩, .o ⟨(some 59), none, false, .bin .shr (.t 58) (.c (.int .u64 40)), none⟩, .o ⟨(some 60), none, false, .bin .and (.t 59) (.c (.int .u64 255)), none⟩, .o ⟨(some 61), none, true, .conv .i64 (.t 60), none⟩, .o ⟨(some 2), none, false, .mv (.t 61), (some [2])⟩]
def k38_14 : ACode := .seq (.region k38_o8) .ret
def k38_15 : ACode := .seq k38_12 k38_14
def k38_16 : ACode := .seq (.region k38_o5) k38_15
def k38_17 : ACode := .seq (.region k38_o4) k38_16
def k38_18 : ACode := .seq k38_5 k38_17
def k38_19 : ACode := .seq (.region k38_o1) k38_18
def k38_20 : ACode := .seq (.region k38_o0) k38_19
@[simp, simp ↓] theorem k38_3r : rD k38_3 k38_o3 [] := zD rfl
@[simp, simp ↓] theorem k38_4r : rC k38_4 (.t 13) k38_3 .skip := zC rfl
@[simp, simp ↓] theorem k38_5r : sD k38_5 k38_o2 [] k38_4 := yD rfl
@[simp, simp ↓] theorem k38_10r : sR k38_10 k38_o7 .ret := yR rfl
@[simp, simp ↓] theorem k38_11r : rC k38_11 (.t 53) k38_10 .skip := zC rfl
@[simp, simp ↓] theorem k38_12r : sD k38_12 k38_o6 [] k38_11 := yD rfl
@[simp, simp ↓] theorem k38_14r : sR k38_14 k38_o8 .ret := yR rfl
@[simp, simp ↓] theorem k38_15r : rS k38_15 k38_12 k38_14 := zS rfl
@[simp, simp ↓] theorem k38_16r : sR k38_16 k38_o5 k38_15 := yR rfl
@[simp, simp ↓] theorem k38_17r : sR k38_17 k38_o4 k38_16 := yR rfl
@[simp, simp ↓] theorem k38_18r : rS k38_18 k38_5 k38_17 := zS rfl
@[simp, simp ↓] theorem k38_19r : sR k38_19 k38_o1 k38_18 := yR rfl
@[simp, simp ↓] theorem k38_20r : sR k38_20 k38_o0 k38_19 := yR rfl
noncomputable abbrev k38_C : Orc → Cx := mkC Try.prog [] 38 62 [.tmp 2]
theorem k38_of0 : OfP0 Try.prog Try.f38 38 62 k38_C k38_20 := @ofP0 _ _ _ _ _ _ _ _ Try.func38 (by decide +kernel) rfl (by kernel_rfl) rfl (by kernel_rfl)
theorem next_w (id : Nat) (code : List UInt8) (at0 seed : Int) (pre h : Heap) (hp : id ∉ dom pre) (hat : 0 ≤ at0 ∧ at0 ≤ 1000000) (hs : 0 ≤ seed ∧ seed < 18446744073709551616) (hl : code.length ≤ 1048576) :
    ACalls Try.prog 38 [.ptr id 3 0 0] (pre ++ (id, ⟨3, [.agg [.snap 1 (code.map bv), .int .i64 at0, .int .u64 seed]]⟩) :: h)
      (fun v h' => ∃ b seed', v = .int .i64 b ∧ (0 ≤ b ∧ b ≤ 255) ∧ (0 ≤ seed' ∧ seed' < 18446744073709551616) ∧ h' = pre ++ (id, ⟨3, [.agg [.snap 1 (code.map bv), .int .i64 (at0 + 1), .int .u64 seed']]⟩) :: h) := by
  obtain ⟨R, hR⟩ : ∃ R, R = fun (v : AV) (h' : Heap) => ∃ b seed', v = .int .i64 b ∧ (0 ≤ b ∧ b ≤ 255) ∧ (0 ≤ seed' ∧ seed' < 18446744073709551616) ∧ h' = pre ++ (id, ⟨3, [.agg [.snap 1 (code.map bv), .int .i64 (at0 + 1), .int .u64 seed']]⟩) :: h := ⟨_, rfl⟩
  rw [← hR]
  have leaf : ∀ b seed', (0 ≤ b ∧ b ≤ 255) → (0 ≤ seed' ∧ seed' < 18446744073709551616) → R (.int .i64 b) (pre ++ (id, ⟨3, [.agg [.snap 1 (code.map bv), .int .i64 (at0 + 1), .int .u64 seed']]⟩) :: h) := fun b s h1 h2 => by
    rw [hR]; exact ⟨b, s, rfl, h1, h2, rfl⟩
  clear hR
  refine k38_of0 rfl noPure fun I => ?_
  by_cases hlt : at0 < code.length
  · obtain ⟨a, ha⟩ : ∃ a : Nat, at0 = (a : Int) := ⟨at0.toNat, by omega⟩
    subst ha
    have hal : a < code.length := by omega
    refine Run2.of I 1000 ?_
    simp -implicitDefEqProofs [hget_app hp, hset_app hp, hlt, hal, bv]
    have hb := bv_rng code[a]
    refine ⟨by omega, by omega, fun h1 => leaf _ _ hb (wrap64 _), fun h1 => ⟨?_, leaf _ _ (and255 _) (wrap64 _)⟩⟩
    have := and255 ((IntKind.u64.wrap (IntKind.u64.wrap (IntKind.u64.wrap (seed * 6364136223846793005) + IntKind.u64.wrap ↑code[a].toNat) + 1442695040888963407)).fdiv (2 ^ min 40 IntKind.u64.bits))
    exact ⟨by omega, by omega⟩
  · refine Run2.of I 1000 ?_
    simp -implicitDefEqProofs [hget_app hp, hset_app hp, hlt]
    refine ⟨by omega, fun h1 => leaf _ _ (by omega) (wrap64 _), fun h1 => ⟨?_, leaf _ _ (and255 _) (wrap64 _)⟩⟩
    have := and255 ((IntKind.u64.wrap (IntKind.u64.wrap (IntKind.u64.wrap (seed * 6364136223846793005) + IntKind.u64.wrap 0) + 1442695040888963407)).fdiv (2 ^ min 40 IntKind.u64.bits))
    exact ⟨by omega, by omega⟩
abbrev k24_o0 : List AJ := [.o ⟨(some 4), none, false, .mv (.c (.int .i64 0)), (some [0, 1])⟩]
abbrev k24_o1 : List AJ := [.o ⟨(some 6), none, false, .mv (.t 1), none⟩, .o ⟨(some 7), none, false, .bin .leq (.t 6) (.c (.int .i64 1)), (some [0, 1, 7])⟩]
abbrev k24_o2 : List AJ := [.o ⟨(some 4), none, false, .mv (.c (.int .i64 0)), (some [4])⟩]
def k24_3 : ACode := .seq (.region k24_o2) .ret
def k24_4 : ACode := .cond (.t 7) k24_3 .skip
def k24_5 : ACode := .seq (.region k24_o1) k24_4
abbrev k24_o3 : List AJ := [.o ⟨(some 8), none, false, .mv (.t 0), none⟩, .o ⟨(some 9), none, false, .call 38 [(.t 8)], none⟩, .o ⟨(some 5), none, false, .mv (.t 9), (some [0, 1, 5])⟩]
abbrev k24_o4 : List AJ := [.o ⟨(some 10), none, false, .mv (.t 1), none⟩, .o ⟨(some 11), none, false, .bin .gtr (.t 10) (.c (.int .i64 200)), (some [0, 1, 5, 11])⟩]
abbrev k24_o5 : List AJ := [.o ⟨(some 12), none, false, .mv (.t 5), none⟩, .o ⟨(some 13), none, true, .bin .mul (.t 12) (.c (.int .i64 256)), none⟩, .o ⟨(some 14), none, false, .mv (.t 0), none⟩, .o ⟨(some 15), none, false, .call 38 [(.t 14)], none⟩, .o ⟨(some 16), none, true, .bin .add (.t 13) (.t 15), none⟩, .o ⟨(some 5), none, false, .mv (.t 16), (some [1, 5])⟩]
def k24_8 : ACode := .region k24_o5
def k24_9 : ACode := .cond (.t 11) k24_8 .skip
def k24_10 : ACode := .seq (.region k24_o4) k24_9
abbrev k24_o6 : List AJ := [.o ⟨(some 17), none, false, .mv (.t 5), none⟩, .o ⟨(some 18), none, false, .mv (.t 1), none⟩, .o ⟨(some 19), none, false, .bin .rem (.t 17) (.t 18), none⟩, .o ⟨(some 4), none, false, .mv (.t 19), (some [4])⟩]
def k24_12 : ACode := .seq (.region k24_o6) .ret
def k24_13 : ACode := .seq k24_10 k24_12
def k24_14 : ACode := .seq (.region k24_o3) k24_13
def k24_15 : ACode := .seq k24_5 k24_14
def k24_16 : ACode := .seq (.region k24_o0) k24_15
@[simp, simp ↓] theorem k24_3r : sR k24_3 k24_o2 .ret := yR rfl
@[simp, simp ↓] theorem k24_4r : rC k24_4 (.t 7) k24_3 .skip := zC rfl
@[simp, simp ↓] theorem k24_5r : sR k24_5 k24_o1 k24_4 := yR rfl
@[simp, simp ↓] theorem k24_8r : rR k24_8 k24_o5 := zR rfl
@[simp, simp ↓] theorem k24_9r : rC k24_9 (.t 11) k24_8 .skip := zC rfl
@[simp, simp ↓] theorem k24_10r : sR k24_10 k24_o4 k24_9 := yR rfl
@[simp, simp ↓] theorem k24_12r : sR k24_12 k24_o6 .ret := yR rfl
@[simp, simp ↓] theorem k24_13r : rS k24_13 k24_10 k24_12 := zS rfl
@[simp, simp ↓] theorem k24_14r : sR k24_14 k24_o3 k24_13 := yR rfl
@[simp, simp ↓] theorem k24_15r : rS k24_15 k24_5 k24_14 := zS rfl
@[simp, simp ↓] theorem k24_16r : sR k24_16 k24_o0 k24_15 := yR rfl
noncomputable abbrev k24_C : Orc → Cx := mkC Try.prog [] 24 20 [.tmp 4]
theorem k24_of0 : OfP0 Try.prog Try.f24 24 20 k24_C k24_16 := @ofP0 _ _ _ _ _ _ _ _ Try.func24 (by decide +kernel) rfl (by kernel_rfl) rfl (by kernel_rfl)
theorem pick_w (id : Nat) (code : List UInt8) (at0 seed n : Int) (pre h : Heap) (hp : id ∉ dom pre) (hat : 0 ≤ at0 ∧ at0 ≤ 900000) (hs : 0 ≤ seed ∧ seed < 18446744073709551616) (hl : code.length ≤ 1048576) (hn : 1 ≤ n ∧ n ≤ 1000000) :
    ACalls Try.prog 24 [.ptr id 3 0 0, .int .i64 n] (pre ++ (id, ⟨3, [.agg [.snap 1 (code.map bv), .int .i64 at0, .int .u64 seed]]⟩) :: h)
      (fun v h' => ∃ b at' seed', v = .int .i64 b ∧ (0 ≤ b ∧ b < n) ∧ (at0 ≤ at' ∧ at' ≤ at0 + 2) ∧ (0 ≤ seed' ∧ seed' < 18446744073709551616) ∧ h' = pre ++ (id, ⟨3, [.agg [.snap 1 (code.map bv), .int .i64 at', .int .u64 seed']]⟩) :: h) := by
  obtain ⟨R, hR⟩ : ∃ R, R = fun (v : AV) (h' : Heap) => ∃ b at' seed', v = .int .i64 b ∧ (0 ≤ b ∧ b < n) ∧ (at0 ≤ at' ∧ at' ≤ at0 + 2) ∧ (0 ≤ seed' ∧ seed' < 18446744073709551616) ∧ h' = pre ++ (id, ⟨3, [.agg [.snap 1 (code.map bv), .int .i64 at', .int .u64 seed']]⟩) :: h := ⟨_, rfl⟩
  rw [← hR]
  have leaf : ∀ b at' seed', (0 ≤ b ∧ b < n) → (at0 ≤ at' ∧ at' ≤ at0 + 2) → (0 ≤ seed' ∧ seed' < 18446744073709551616) → R (.int .i64 b) (pre ++ (id, ⟨3, [.agg [.snap 1 (code.map bv), .int .i64 at', .int .u64 seed']]⟩) :: h) := fun b a s h1 h2 h3 => by
    rw [hR]; exact ⟨b, a, s, rfl, h1, h2, h3, rfl⟩
  clear hR
  have hmod : ∀ b : Int, 0 ≤ b → 0 ≤ b.tmod n ∧ b.tmod n < n := fun b hb => by
    rw [Int.tmod_eq_emod_of_nonneg hb]
    exact ⟨Int.emod_nonneg _ (by omega), Int.emod_lt_of_pos _ (by omega)⟩
  refine k24_of0 rfl noPure fun I => ?_
  refine Run2.of I 1000 ?_
  simp -implicitDefEqProofs
  refine ⟨fun h1 => leaf _ _ _ (by omega) (by omega) hs, fun h1 => ?_⟩
  refine (next_w id code at0 seed pre h hp (by omega) hs hl).mono ?_
  rintro v h' ⟨b, s, rfl, hb, hs', rfl⟩
  refine gK.go ?_
  simp -implicitDefEqProofs
  refine ⟨fun h2 => ⟨by omega, ?_⟩, fun h2 => ⟨by omega, ?_⟩⟩
  · refine (next_w id code (at0 + 1) s pre h hp (by omega) hs' hl).mono ?_
    rintro v h' ⟨b2, s2, rfl, hb2, hs2, rfl⟩
    refine gK.go ?_
    simp -implicitDefEqProofs
    refine ⟨by omega, by omega, leaf _ _ _ (hmod _ (by omega)) (by omega) hs2⟩
  · exact leaf _ _ _ (hmod _ (by omega)) (by omega) hs'
abbrev k23_o0 : List AJ := [.o ⟨(some 4), none, false, .mv (.c (.bool false)), (some [0, 1])⟩]
abbrev k23_o1 : List AJ := [.o ⟨(some 5), none, false, .mv (.t 0), none⟩, .o ⟨(some 6), none, false, .mv (.t 1), none⟩, .o ⟨(some 7), none, false, .call 24 [(.t 5), (.t 6)], none⟩, .o ⟨(some 8), none, false, .bin .eql (.t 7) (.c (.int .i64 0)), none⟩, .o ⟨(some 4), none, false, .mv (.t 8), (some [4])⟩]
def k23_2 : ACode := .seq (.region k23_o1) .ret
def k23_3 : ACode := .seq (.region k23_o0) k23_2
@[simp, simp ↓] theorem k23_2r : sR k23_2 k23_o1 .ret := yR rfl
@[simp, simp ↓] theorem k23_3r : sR k23_3 k23_o0 k23_2 := yR rfl
noncomputable abbrev k23_C : Orc → Cx := mkC Try.prog [] 23 9 [.tmp 4]
theorem k23_of0 : OfP0 Try.prog Try.f23 23 9 k23_C k23_3 := @ofP0 _ _ _ _ _ _ _ _ Try.func23 (by decide +kernel) rfl (by kernel_rfl) rfl (by kernel_rfl)
theorem one_w (id : Nat) (code : List UInt8) (at0 seed n : Int) (pre h : Heap) (hp : id ∉ dom pre) (hat : 0 ≤ at0 ∧ at0 ≤ 900000) (hs : 0 ≤ seed ∧ seed < 18446744073709551616) (hl : code.length ≤ 1048576) (hn : 1 ≤ n ∧ n ≤ 1000000) :
    ACalls Try.prog 23 [.ptr id 3 0 0, .int .i64 n] (pre ++ (id, ⟨3, [.agg [.snap 1 (code.map bv), .int .i64 at0, .int .u64 seed]]⟩) :: h)
      (fun v h' => ∃ (c : Bool) (at' seed' : Int), v = .bool c ∧ (at0 ≤ at' ∧ at' ≤ at0 + 2) ∧ (0 ≤ seed' ∧ seed' < 18446744073709551616) ∧ h' = pre ++ (id, ⟨3, [.agg [.snap 1 (code.map bv), .int .i64 at', .int .u64 seed']]⟩) :: h) := by
  refine k23_of0 rfl noPure fun I => ?_
  refine Run2.of I 1000 ?_
  simp -implicitDefEqProofs
  refine (pick_w id code at0 seed n pre h hp hat hs hl hn).mono ?_
  rintro v h' ⟨b, a, s, rfl, hb, ha, hs', rfl⟩
  refine gK.go ?_
  simp -implicitDefEqProofs
  exact ⟨by omega, ha, hs'⟩
abbrev k20_o0 : List AJ := [.o ⟨(some 4), none, false, .mv (.c (.int .i64 0)), (some [0, 1])⟩]
abbrev k20_o1 : List AJ := [.o ⟨(some 5), none, false, .mv (.t 1), none⟩, .o ⟨(some 6), none, false, .mv (.t 0), none⟩, .o ⟨(some 7), none, false, .mv (.t 1), none⟩, .o ⟨(some 8), none, false, .len (.t 7), none⟩, .o ⟨(some 9), none, false, .call 24 [(.t 6), (.t 8)], none⟩, .o ⟨(some 10), none, false, .idxA 1 (.t 5) (.t 9), none⟩, .o ⟨(some 11), none, false, .load 1 false (.t 10), none⟩, .o ⟨(some 4), none, false, .mv (.t 11), (some [4])⟩]
def k20_2 : ACode := .seq (.region k20_o1) .ret
def k20_3 : ACode := .seq (.region k20_o0) k20_2
@[simp, simp ↓] theorem k20_2r : sR k20_2 k20_o1 .ret := yR rfl
@[simp, simp ↓] theorem k20_3r : sR k20_3 k20_o0 k20_2 := yR rfl
noncomputable abbrev k20_C : Orc → Cx := mkC Try.prog [] 20 12 [.tmp 4]
theorem k20_of0 : OfP0 Try.prog Try.f20 20 12 k20_C k20_3 := @ofP0 _ _ _ _ _ _ _ _ Try.func20 (by decide +kernel) rfl (by kernel_rfl) rfl (by kernel_rfl)
theorem among_w (id : Nat) (code : List UInt8) (at0 seed : Int) (l : List Int) (pre h : Heap) (hp : id ∉ dom pre) (hat : 0 ≤ at0 ∧ at0 ≤ 900000) (hs : 0 ≤ seed ∧ seed < 18446744073709551616) (hl : code.length ≤ 1048576) (hn : 1 ≤ l.length ∧ l.length ≤ 1000000) :
    ACalls Try.prog 20 [.ptr id 3 0 0, .snap 1 (l.map iv)] (pre ++ (id, ⟨3, [.agg [.snap 1 (code.map bv), .int .i64 at0, .int .u64 seed]]⟩) :: h)
      (fun v h' => ∃ c at' seed', v = .int .i64 c ∧ c ∈ l ∧ (at0 ≤ at' ∧ at' ≤ at0 + 2) ∧ (0 ≤ seed' ∧ seed' < 18446744073709551616) ∧ h' = pre ++ (id, ⟨3, [.agg [.snap 1 (code.map bv), .int .i64 at', .int .u64 seed']]⟩) :: h) := by
  refine k20_of0 rfl noPure fun I => ?_
  refine Run2.of I 1000 ?_
  simp -implicitDefEqProofs
  refine (pick_w id code at0 seed l.length pre h hp hat hs hl (by omega)).mono ?_
  rintro v h' ⟨b, a, s, rfl, hb, ha, hs', rfl⟩
  obtain ⟨i, rfl⟩ : ∃ i : Nat, b = (i : Int) := ⟨b.toNat, by omega⟩
  have hil : i < l.length := by omega
  refine gK.go ?_
  simp -implicitDefEqProofs [hil]
  exact ⟨ha, hs'⟩
end Go.AG
