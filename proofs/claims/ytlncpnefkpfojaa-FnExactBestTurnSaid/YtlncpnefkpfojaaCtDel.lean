/- Lists of numbers out of which some are taken. No statement is made here. -/
import Derived.Test.YtlncpnefkpfojaaCtR2
namespace Go.AG
open Go.Proofs Go.Proofs.Ytlncpnefkpfojaa
set_option linter.unusedSimpArgs false
set_option linter.unusedVariables false
set_option maxRecDepth 4000
abbrev c_slices_Clone_int64_int64_o0 : List AJ := [.o ⟨(some 2), none, false, .mv (.c .nilsl), (some [0])⟩]
def c_slices_Clone_int64_int64_0 : ACode := .region c_slices_Clone_int64_int64_o0
abbrev c_slices_Clone_int64_int64_o1 : List AJ := [.o ⟨(some 3), none, false, .mv (.t 0), none⟩, .o ⟨(some 4), none, false, .eqn 0 false (.t 3), (some [0, 4])⟩]
def c_slices_Clone_int64_int64_1 : ACode := .region c_slices_Clone_int64_int64_o1
abbrev c_slices_Clone_int64_int64_o2 : List AJ := [.o ⟨(some 2), none, false, .mv (.c .nilsl), (some [2])⟩]
def c_slices_Clone_int64_int64_2 : ACode := .region c_slices_Clone_int64_int64_o2
def c_slices_Clone_int64_int64_3 : ACode := .seq c_slices_Clone_int64_int64_2 .ret
def c_slices_Clone_int64_int64_4 : ACode := .cond (.t 4) c_slices_Clone_int64_int64_3 .skip
def c_slices_Clone_int64_int64_5 : ACode := .seq c_slices_Clone_int64_int64_1 c_slices_Clone_int64_int64_4
abbrev c_slices_Clone_int64_int64_o3 : List AJ := [.e 5 1 none, .o ⟨(some 6), none, false, .mv (.t 0), none⟩, .o ⟨(some 7), none, false, .append 1 8 (.t 5) (.t 6), none⟩, .o ⟨(some 2), none, false, .mv (.t 7), (some [2])⟩]
def c_slices_Clone_int64_int64_6 : ACode := .region c_slices_Clone_int64_int64_o3
def c_slices_Clone_int64_int64_7 : ACode := .seq c_slices_Clone_int64_int64_6 .ret
def c_slices_Clone_int64_int64_8 : ACode := .seq c_slices_Clone_int64_int64_5 c_slices_Clone_int64_int64_7
def c_slices_Clone_int64_int64_9 : ACode := .seq c_slices_Clone_int64_int64_0 c_slices_Clone_int64_int64_8
section
variable (C : Cx) (n : Nat) (sk : List AItem) (e : Env) (h : Heap) (R : AV → Heap → Prop)
@[simp, simp ↓] theorem c_slices_Clone_int64_int64_0_r : vc2 C (n + 1) [] (.code c_slices_Clone_int64_int64_0 :: sk) e h R = (vc2 C n c_slices_Clone_int64_int64_o0 sk e h R) := nr rfl
@[simp, simp ↓] theorem c_slices_Clone_int64_int64_1_r : vc2 C (n + 1) [] (.code c_slices_Clone_int64_int64_1 :: sk) e h R = (vc2 C n c_slices_Clone_int64_int64_o1 sk e h R) := nr rfl
@[simp, simp ↓] theorem c_slices_Clone_int64_int64_2_r : vc2 C (n + 1) [] (.code c_slices_Clone_int64_int64_2 :: sk) e h R = (vc2 C n c_slices_Clone_int64_int64_o2 sk e h R) := nr rfl
@[simp, simp ↓] theorem c_slices_Clone_int64_int64_3_r : vc2 C (n + 1) [] (.code c_slices_Clone_int64_int64_3 :: sk) e h R = (vc2 C n [] (.code c_slices_Clone_int64_int64_2 :: .code .ret :: sk) e h R) := nr rfl
@[simp, simp ↓] theorem c_slices_Clone_int64_int64_4_r : vc2 C (n + 1) [] (.code c_slices_Clone_int64_int64_4 :: sk) e h R = (condK (ev e (.t 4)) (vc2 C n [] (.code c_slices_Clone_int64_int64_3 :: sk) e h R) (vc2 C n [] (.code .skip :: sk) e h R)) := nr rfl
@[simp, simp ↓] theorem c_slices_Clone_int64_int64_5_r : vc2 C (n + 1) [] (.code c_slices_Clone_int64_int64_5 :: sk) e h R = (vc2 C n [] (.code c_slices_Clone_int64_int64_1 :: .code c_slices_Clone_int64_int64_4 :: sk) e h R) := nr rfl
@[simp, simp ↓] theorem c_slices_Clone_int64_int64_6_r : vc2 C (n + 1) [] (.code c_slices_Clone_int64_int64_6 :: sk) e h R = (vc2 C n c_slices_Clone_int64_int64_o3 sk e h R) := nr rfl
@[simp, simp ↓] theorem c_slices_Clone_int64_int64_7_r : vc2 C (n + 1) [] (.code c_slices_Clone_int64_int64_7 :: sk) e h R = (vc2 C n [] (.code c_slices_Clone_int64_int64_6 :: .code .ret :: sk) e h R) := nr rfl
@[simp, simp ↓] theorem c_slices_Clone_int64_int64_8_r : vc2 C (n + 1) [] (.code c_slices_Clone_int64_int64_8 :: sk) e h R = (vc2 C n [] (.code c_slices_Clone_int64_int64_5 :: .code c_slices_Clone_int64_int64_7 :: sk) e h R) := nr rfl
@[simp, simp ↓] theorem c_slices_Clone_int64_int64_9_r : vc2 C (n + 1) [] (.code c_slices_Clone_int64_int64_9 :: sk) e h R = (vc2 C n [] (.code c_slices_Clone_int64_int64_0 :: .code c_slices_Clone_int64_int64_8 :: sk) e h R) := nr rfl
end
noncomputable def c_slices_Clone_int64_int64_C (orc : Orc) : Cx := ⟨Try.prog, [5], 111, 8, [.tmp 2], orc⟩
@[simp] theorem c_slices_Clone_int64_int64_C_P (orc : Orc) : (c_slices_Clone_int64_int64_C orc).P = Try.prog := nr rfl
@[simp] theorem c_slices_Clone_int64_int64_C_o (orc : Orc) : (c_slices_Clone_int64_int64_C orc).orc = orc := nr rfl
@[simp] theorem c_slices_Clone_int64_int64_C_r (orc : Orc) : (c_slices_Clone_int64_int64_C orc).res = [.tmp 2] := nr rfl
theorem c_slices_Clone_int64_int64_of {args : List AV} {h : Heap} {R : AV → Heap → Prop} {k : Nat} (ha : args.length = k) {orc : Orc} (hp : Pure Try.prog orc) (hk : Is (c_slices_Clone_int64_int64_C orc) Try.f111 → Run2 (c_slices_Clone_int64_int64_C orc) [.code c_slices_Clone_int64_int64_9] (argEnv 0 args) h (Post R)) (hle : k ≤ 8 := by simp) : ACalls Try.prog 111 args h R :=
  contract2 [5] c_slices_Clone_int64_int64_9 [.tmp 2] Try.func111 (by decide +kernel) rfl (by kernel_rfl) (by rw [ha]; exact hle) (by kernel_rfl) hp hk
theorem c_slices_Clone_int64_int64_of0 {args : List AV} {h : Heap} {R : AV → Heap → Prop} {k : Nat} (ha : args.length = k) {orc : Orc} (hp : Pure Try.prog orc) (hk : Is (c_slices_Clone_int64_int64_C orc) Try.f111 → Run2 (c_slices_Clone_int64_int64_C orc) [.code c_slices_Clone_int64_int64_9] (argEnv 0 args) h R) (hle : k ≤ 8 := by simp) : ACalls Try.prog 111 args h R :=
  contract20 [5] c_slices_Clone_int64_int64_9 [.tmp 2] Try.func111 (by decide +kernel) rfl (by kernel_rfl) (by rw [ha]; exact hle) (by kernel_rfl) hp hk
theorem Clone_w (l : List Int) (h : Heap) (hl : l.length ≤ 1048576) : ACalls Try.prog 111 [.snap 1 (l.map iv)] h (fun v h' => ∃ hp, Grow 1 v (l.map iv) hp ∧ h' = hp ++ h) := by
  refine c_slices_Clone_int64_int64_of0 rfl noPure fun I => ?_
  cases l with
  | nil =>
    refine Run2.of I 1000 ?_
    simp -implicitDefEqProofs
    exact ⟨.nil, .emp⟩
  | cons a l =>
    refine Run2.of I 1000 ?_
    simp -implicitDefEqProofs
    refine ⟨by simp at hl; omega, fun id hid => ⟨[(id, _)], .sl id _ _ (by simp), rfl⟩⟩
theorem idxf_cases (q : Int → Bool) (l : List Int) : (idxf q l = -1 ∧ l.filter (fun x => !q x) = l) ∨ ∃ (i : Nat) (hi : i < l.length), idxf q l = i ∧ q l[i] = true ∧ (l.take (i + 1)).filter (fun x => !q x) = l.take i := by
  unfold idxf
  cases h : l.findIdx? q with
  | none =>
    rw [List.findIdx?_eq_none_iff] at h
    exact .inl ⟨rfl, List.filter_eq_self.2 fun a ha => by simp [h a ha]⟩
  | some i =>
    obtain ⟨hi, hq, hb⟩ := List.findIdx?_eq_some_iff_getElem.1 h
    refine .inr ⟨i, hi, rfl, hq, ?_⟩
    rw [List.take_succ_eq_append_getElem hi, List.filter_append]
    have : (l.take i).filter (fun x => !q x) = l.take i := List.filter_eq_self.2 fun a ha => by
      obtain ⟨j, hj, rfl⟩ := List.mem_iff_getElem.1 ha
      simp only [List.length_take] at hj
      simp only [List.getElem_take]
      simpa using hb j (by omega)
    rw [this]
    simp [hq]
abbrev c_slices_DeleteFunc_int64_int64_o0 : List AJ := [.o ⟨(some 4), none, false, .mv (.c .nilsl), (some [0, 1])⟩]
def c_slices_DeleteFunc_int64_int64_0 : ACode := .region c_slices_DeleteFunc_int64_int64_o0
abbrev c_slices_DeleteFunc_int64_int64_o1 : List AJ := [.o ⟨(some 8), none, false, .mv (.t 0), none⟩, .o ⟨(some 9), none, false, .mv (.t 1), none⟩, .o ⟨(some 10), none, false, .call 141 [(.t 8), (.t 9)], none⟩, .o ⟨(some 5), none, false, .mv (.t 10), (some [0, 1, 5])⟩]
def c_slices_DeleteFunc_int64_int64_1 : ACode := .region c_slices_DeleteFunc_int64_int64_o1
abbrev c_slices_DeleteFunc_int64_int64_o2 : List AJ := [.o ⟨(some 11), none, false, .mv (.t 5), none⟩, .o ⟨(some 12), none, false, .bin .eql (.t 11) (.c (.int .i64 (-1))), (some [0, 1, 5, 12])⟩]
def c_slices_DeleteFunc_int64_int64_2 : ACode := .region c_slices_DeleteFunc_int64_int64_o2
abbrev c_slices_DeleteFunc_int64_int64_o3 : List AJ := [.o ⟨(some 13), none, false, .mv (.t 0), none⟩, .o ⟨(some 4), none, false, .mv (.t 13), (some [4])⟩]
def c_slices_DeleteFunc_int64_int64_3 : ACode := .region c_slices_DeleteFunc_int64_int64_o3
def c_slices_DeleteFunc_int64_int64_4 : ACode := .seq c_slices_DeleteFunc_int64_int64_3 .ret
def c_slices_DeleteFunc_int64_int64_5 : ACode := .cond (.t 12) c_slices_DeleteFunc_int64_int64_4 .skip
def c_slices_DeleteFunc_int64_int64_6 : ACode := .seq c_slices_DeleteFunc_int64_int64_2 c_slices_DeleteFunc_int64_int64_5
abbrev c_slices_DeleteFunc_int64_int64_o4 : List AJ := [.o ⟨(some 14), none, false, .mv (.t 5), none⟩, .o ⟨(some 15), none, true, .bin .add (.t 14) (.c (.int .i64 1)), none⟩, .o ⟨(some 6), none, false, .mv (.t 15), (some [0, 1, 5, 6])⟩]
def c_slices_DeleteFunc_int64_int64_7 : ACode := .region c_slices_DeleteFunc_int64_int64_o4
abbrev c_slices_DeleteFunc_int64_int64_o5 : List AJ := [.o ⟨(some 16), none, false, .mv (.t 6), none⟩, .o ⟨(some 17), none, false, .mv (.t 0), none⟩, .o ⟨(some 18), none, false, .len (.t 17), none⟩, .o ⟨(some 19), none, false, .bin .lss (.t 16) (.t 18), (some [0, 1, 5, 6, 19])⟩]
def c_slices_DeleteFunc_int64_int64_8 : ACode := .region c_slices_DeleteFunc_int64_int64_o5
def c_slices_DeleteFunc_int64_int64_9 : ACode := .cond (.t 19) .skip (.exit 0)
def c_slices_DeleteFunc_int64_int64_10 : ACode := .seq c_slices_DeleteFunc_int64_int64_8 c_slices_DeleteFunc_int64_int64_9
abbrev c_slices_DeleteFunc_int64_int64_o6 : List AJ := [.o ⟨(some 22), none, false, .mv (.t 0), none⟩, .o ⟨(some 23), none, false, .mv (.t 6), none⟩, .o ⟨(some 24), none, false, .idxA 1 (.t 22) (.t 23), none⟩, .o ⟨(some 25), none, false, .load 1 false (.t 24), none⟩, .o ⟨(some 7), none, false, .mv (.t 25), (some [0, 1, 5, 6, 7])⟩]
def c_slices_DeleteFunc_int64_int64_11 : ACode := .region c_slices_DeleteFunc_int64_int64_o6
abbrev c_slices_DeleteFunc_int64_int64_o7 : List AJ := [.o ⟨(some 26), none, false, .mv (.t 1), none⟩, .o ⟨(some 27), none, false, .mv (.t 7), none⟩, .o ⟨(some 28), none, false, .callv (.t 26) [(.t 27)], none⟩, .o ⟨(some 29), none, false, .un .not (.t 28), (some [0, 1, 5, 6, 7, 29])⟩]
def c_slices_DeleteFunc_int64_int64_12 : ACode := .region c_slices_DeleteFunc_int64_int64_o7
abbrev c_slices_DeleteFunc_int64_int64_o8 : List AJ := [.o ⟨(some 30), none, false, .mv (.t 0), none⟩, .o ⟨(some 31), none, false, .mv (.t 5), none⟩, .o ⟨(some 32), none, false, .mv (.t 7), none⟩, .o ⟨(some 33), none, false, .idxA 1 (.t 30) (.t 31), none⟩, .o ⟨none, none, false, .store 1 (.t 33) (.t 32), (some [0, 1, 5, 6])⟩]
def c_slices_DeleteFunc_int64_int64_13 : ACode := .region c_slices_DeleteFunc_int64_int64_o8
abbrev c_slices_DeleteFunc_int64_int64_o9 : List AJ := [.o ⟨(some 34), none, false, .mv (.t 5), none⟩, .o ⟨(some 35), none, true, .bin .add (.t 34) (.c (.int .i64 1)), none⟩, .o ⟨(some 5), none, false, .mv (.t 35), (some [0, 1, 5, 6])⟩]
def c_slices_DeleteFunc_int64_int64_14 : ACode := .region c_slices_DeleteFunc_int64_int64_o9
def c_slices_DeleteFunc_int64_int64_15 : ACode := .seq c_slices_DeleteFunc_int64_int64_13 c_slices_DeleteFunc_int64_int64_14
def c_slices_DeleteFunc_int64_int64_16 : ACode := .cond (.t 29) c_slices_DeleteFunc_int64_int64_15 .skip
def c_slices_DeleteFunc_int64_int64_17 : ACode := .seq c_slices_DeleteFunc_int64_int64_12 c_slices_DeleteFunc_int64_int64_16
def c_slices_DeleteFunc_int64_int64_18 : ACode := .seq c_slices_DeleteFunc_int64_int64_11 c_slices_DeleteFunc_int64_int64_17
def c_slices_DeleteFunc_int64_int64_19 : ACode := .block 1 c_slices_DeleteFunc_int64_int64_18
abbrev c_slices_DeleteFunc_int64_int64_o10 : List AJ := [.o ⟨(some 20), none, false, .mv (.t 6), none⟩, .o ⟨(some 21), none, true, .bin .add (.t 20) (.c (.int .i64 1)), none⟩, .o ⟨(some 6), none, false, .mv (.t 21), (some [0, 1, 5, 6])⟩]
def c_slices_DeleteFunc_int64_int64_20 : ACode := .region c_slices_DeleteFunc_int64_int64_o10
def c_slices_DeleteFunc_int64_int64_21 : ACode := .seq c_slices_DeleteFunc_int64_int64_19 c_slices_DeleteFunc_int64_int64_20
def c_slices_DeleteFunc_int64_int64_22 : ACode := .seq c_slices_DeleteFunc_int64_int64_10 c_slices_DeleteFunc_int64_int64_21
def c_slices_DeleteFunc_int64_int64_23 : ACode := .loop c_slices_DeleteFunc_int64_int64_22
def c_slices_DeleteFunc_int64_int64_24 : ACode := .block 0 c_slices_DeleteFunc_int64_int64_23
def c_slices_DeleteFunc_int64_int64_25 : ACode := .seq c_slices_DeleteFunc_int64_int64_7 c_slices_DeleteFunc_int64_int64_24
abbrev c_slices_DeleteFunc_int64_int64_o11 : List AJ := [.o ⟨(some 36), none, false, .mv (.t 0), none⟩, .o ⟨(some 37), none, false, .mv (.t 5), none⟩, .o ⟨(some 38), none, false, .slice 1 (.t 36) (some (.t 37)) none none, none⟩, .o ⟨none, none, false, .clear 1 (.int .i64 0) (.t 38), (some [0, 5])⟩]
def c_slices_DeleteFunc_int64_int64_26 : ACode := .region c_slices_DeleteFunc_int64_int64_o11
abbrev c_slices_DeleteFunc_int64_int64_o12 : List AJ := [.o ⟨(some 39), none, false, .mv (.t 0), none⟩, .o ⟨(some 40), none, false, .mv (.t 5), none⟩, .o ⟨(some 41), none, false, .slice 1 (.t 39) none (some (.t 40)) none, none⟩, .o ⟨(some 4), none, false, .mv (.t 41), (some [4])⟩]
def c_slices_DeleteFunc_int64_int64_27 : ACode := .region c_slices_DeleteFunc_int64_int64_o12
def c_slices_DeleteFunc_int64_int64_28 : ACode := .seq c_slices_DeleteFunc_int64_int64_27 .ret
def c_slices_DeleteFunc_int64_int64_29 : ACode := .seq c_slices_DeleteFunc_int64_int64_26 c_slices_DeleteFunc_int64_int64_28
def c_slices_DeleteFunc_int64_int64_30 : ACode := .seq c_slices_DeleteFunc_int64_int64_25 c_slices_DeleteFunc_int64_int64_29
def c_slices_DeleteFunc_int64_int64_31 : ACode := .seq c_slices_DeleteFunc_int64_int64_6 c_slices_DeleteFunc_int64_int64_30
def c_slices_DeleteFunc_int64_int64_32 : ACode := .seq c_slices_DeleteFunc_int64_int64_1 c_slices_DeleteFunc_int64_int64_31
def c_slices_DeleteFunc_int64_int64_33 : ACode := .seq c_slices_DeleteFunc_int64_int64_0 c_slices_DeleteFunc_int64_int64_32
section
variable (C : Cx) (n : Nat) (sk : List AItem) (e : Env) (h : Heap) (R : AV → Heap → Prop)
@[simp, simp ↓] theorem c_slices_DeleteFunc_int64_int64_0_r : vc2 C (n + 1) [] (.code c_slices_DeleteFunc_int64_int64_0 :: sk) e h R = (vc2 C n c_slices_DeleteFunc_int64_int64_o0 sk e h R) := nr rfl
@[simp, simp ↓] theorem c_slices_DeleteFunc_int64_int64_1_r : vc2 C (n + 1) [] (.code c_slices_DeleteFunc_int64_int64_1 :: sk) e h R = (vc2 C n c_slices_DeleteFunc_int64_int64_o1 sk e h R) := nr rfl
@[simp, simp ↓] theorem c_slices_DeleteFunc_int64_int64_2_r : vc2 C (n + 1) [] (.code c_slices_DeleteFunc_int64_int64_2 :: sk) e h R = (vc2 C n c_slices_DeleteFunc_int64_int64_o2 sk e h R) := nr rfl
@[simp, simp ↓] theorem c_slices_DeleteFunc_int64_int64_3_r : vc2 C (n + 1) [] (.code c_slices_DeleteFunc_int64_int64_3 :: sk) e h R = (vc2 C n c_slices_DeleteFunc_int64_int64_o3 sk e h R) := nr rfl
@[simp, simp ↓] theorem c_slices_DeleteFunc_int64_int64_4_r : vc2 C (n + 1) [] (.code c_slices_DeleteFunc_int64_int64_4 :: sk) e h R = (vc2 C n [] (.code c_slices_DeleteFunc_int64_int64_3 :: .code .ret :: sk) e h R) := nr rfl
@[simp, simp ↓] theorem c_slices_DeleteFunc_int64_int64_5_r : vc2 C (n + 1) [] (.code c_slices_DeleteFunc_int64_int64_5 :: sk) e h R = (condK (ev e (.t 12)) (vc2 C n [] (.code c_slices_DeleteFunc_int64_int64_4 :: sk) e h R) (vc2 C n [] (.code .skip :: sk) e h R)) := nr rfl
@[simp, simp ↓] theorem c_slices_DeleteFunc_int64_int64_6_r : vc2 C (n + 1) [] (.code c_slices_DeleteFunc_int64_int64_6 :: sk) e h R = (vc2 C n [] (.code c_slices_DeleteFunc_int64_int64_2 :: .code c_slices_DeleteFunc_int64_int64_5 :: sk) e h R) := nr rfl
@[simp, simp ↓] theorem c_slices_DeleteFunc_int64_int64_7_r : vc2 C (n + 1) [] (.code c_slices_DeleteFunc_int64_int64_7 :: sk) e h R = (vc2 C n c_slices_DeleteFunc_int64_int64_o4 sk e h R) := nr rfl
@[simp, simp ↓] theorem c_slices_DeleteFunc_int64_int64_8_r : vc2 C (n + 1) [] (.code c_slices_DeleteFunc_int64_int64_8 :: sk) e h R = (vc2 C n c_slices_DeleteFunc_int64_int64_o5 sk e h R) := nr rfl
@[simp, simp ↓] theorem c_slices_DeleteFunc_int64_int64_9_r : vc2 C (n + 1) [] (.code c_slices_DeleteFunc_int64_int64_9 :: sk) e h R = (condK (ev e (.t 19)) (vc2 C n [] (.code .skip :: sk) e h R) (vc2 C n [] (.code (.exit 0) :: sk) e h R)) := nr rfl
@[simp, simp ↓] theorem c_slices_DeleteFunc_int64_int64_10_r : vc2 C (n + 1) [] (.code c_slices_DeleteFunc_int64_int64_10 :: sk) e h R = (vc2 C n [] (.code c_slices_DeleteFunc_int64_int64_8 :: .code c_slices_DeleteFunc_int64_int64_9 :: sk) e h R) := nr rfl
@[simp, simp ↓] theorem c_slices_DeleteFunc_int64_int64_11_r : vc2 C (n + 1) [] (.code c_slices_DeleteFunc_int64_int64_11 :: sk) e h R = (vc2 C n c_slices_DeleteFunc_int64_int64_o6 sk e h R) := nr rfl
@[simp, simp ↓] theorem c_slices_DeleteFunc_int64_int64_12_r : vc2 C (n + 1) [] (.code c_slices_DeleteFunc_int64_int64_12 :: sk) e h R = (vc2 C n c_slices_DeleteFunc_int64_int64_o7 sk e h R) := nr rfl
@[simp, simp ↓] theorem c_slices_DeleteFunc_int64_int64_13_r : vc2 C (n + 1) [] (.code c_slices_DeleteFunc_int64_int64_13 :: sk) e h R = (vc2 C n c_slices_DeleteFunc_int64_int64_o8 sk e h R) := nr rfl
@[simp, simp ↓] theorem c_slices_DeleteFunc_int64_int64_14_r : vc2 C (n + 1) [] (.code c_slices_DeleteFunc_int64_int64_14 :: sk) e h R = (vc2 C n c_slices_DeleteFunc_int64_int64_o9 sk e h R) := nr rfl
@[simp, simp ↓] theorem c_slices_DeleteFunc_int64_int64_15_r : vc2 C (n + 1) [] (.code c_slices_DeleteFunc_int64_int64_15 :: sk) e h R = (vc2 C n [] (.code c_slices_DeleteFunc_int64_int64_13 :: .code c_slices_DeleteFunc_int64_int64_14 :: sk) e h R) := nr rfl
@[simp, simp ↓] theorem c_slices_DeleteFunc_int64_int64_16_r : vc2 C (n + 1) [] (.code c_slices_DeleteFunc_int64_int64_16 :: sk) e h R = (condK (ev e (.t 29)) (vc2 C n [] (.code c_slices_DeleteFunc_int64_int64_15 :: sk) e h R) (vc2 C n [] (.code .skip :: sk) e h R)) := nr rfl
@[simp, simp ↓] theorem c_slices_DeleteFunc_int64_int64_17_r : vc2 C (n + 1) [] (.code c_slices_DeleteFunc_int64_int64_17 :: sk) e h R = (vc2 C n [] (.code c_slices_DeleteFunc_int64_int64_12 :: .code c_slices_DeleteFunc_int64_int64_16 :: sk) e h R) := nr rfl
@[simp, simp ↓] theorem c_slices_DeleteFunc_int64_int64_18_r : vc2 C (n + 1) [] (.code c_slices_DeleteFunc_int64_int64_18 :: sk) e h R = (vc2 C n [] (.code c_slices_DeleteFunc_int64_int64_11 :: .code c_slices_DeleteFunc_int64_int64_17 :: sk) e h R) := nr rfl
@[simp, simp ↓] theorem c_slices_DeleteFunc_int64_int64_19_r : vc2 C (n + 1) [] (.code c_slices_DeleteFunc_int64_int64_19 :: sk) e h R = (vc2 C n [] (.code c_slices_DeleteFunc_int64_int64_18 :: .inBlock 1 :: sk) e h R) := nr rfl
@[simp, simp ↓] theorem c_slices_DeleteFunc_int64_int64_20_r : vc2 C (n + 1) [] (.code c_slices_DeleteFunc_int64_int64_20 :: sk) e h R = (vc2 C n c_slices_DeleteFunc_int64_int64_o10 sk e h R) := nr rfl
@[simp, simp ↓] theorem c_slices_DeleteFunc_int64_int64_21_r : vc2 C (n + 1) [] (.code c_slices_DeleteFunc_int64_int64_21 :: sk) e h R = (vc2 C n [] (.code c_slices_DeleteFunc_int64_int64_19 :: .code c_slices_DeleteFunc_int64_int64_20 :: sk) e h R) := nr rfl
@[simp, simp ↓] theorem c_slices_DeleteFunc_int64_int64_22_r : vc2 C (n + 1) [] (.code c_slices_DeleteFunc_int64_int64_22 :: sk) e h R = (vc2 C n [] (.code c_slices_DeleteFunc_int64_int64_10 :: .code c_slices_DeleteFunc_int64_int64_21 :: sk) e h R) := nr rfl
@[simp, simp ↓] theorem c_slices_DeleteFunc_int64_int64_23_r : vc2 C (n + 1) [] (.code c_slices_DeleteFunc_int64_int64_23 :: sk) e h R = (Run2 C (.code c_slices_DeleteFunc_int64_int64_22 :: .inLoop c_slices_DeleteFunc_int64_int64_22 :: sk) e h R) := nr rfl
@[simp, simp ↓] theorem c_slices_DeleteFunc_int64_int64_24_r : vc2 C (n + 1) [] (.code c_slices_DeleteFunc_int64_int64_24 :: sk) e h R = (vc2 C n [] (.code c_slices_DeleteFunc_int64_int64_23 :: .inBlock 0 :: sk) e h R) := nr rfl
@[simp, simp ↓] theorem c_slices_DeleteFunc_int64_int64_25_r : vc2 C (n + 1) [] (.code c_slices_DeleteFunc_int64_int64_25 :: sk) e h R = (vc2 C n [] (.code c_slices_DeleteFunc_int64_int64_7 :: .code c_slices_DeleteFunc_int64_int64_24 :: sk) e h R) := nr rfl
@[simp, simp ↓] theorem c_slices_DeleteFunc_int64_int64_26_r : vc2 C (n + 1) [] (.code c_slices_DeleteFunc_int64_int64_26 :: sk) e h R = (vc2 C n c_slices_DeleteFunc_int64_int64_o11 sk e h R) := nr rfl
@[simp, simp ↓] theorem c_slices_DeleteFunc_int64_int64_27_r : vc2 C (n + 1) [] (.code c_slices_DeleteFunc_int64_int64_27 :: sk) e h R = (vc2 C n c_slices_DeleteFunc_int64_int64_o12 sk e h R) := nr rfl
@[simp, simp ↓] theorem c_slices_DeleteFunc_int64_int64_28_r : vc2 C (n + 1) [] (.code c_slices_DeleteFunc_int64_int64_28 :: sk) e h R = (vc2 C n [] (.code c_slices_DeleteFunc_int64_int64_27 :: .code .ret :: sk) e h R) := nr rfl
@[simp, simp ↓] theorem c_slices_DeleteFunc_int64_int64_29_r : vc2 C (n + 1) [] (.code c_slices_DeleteFunc_int64_int64_29 :: sk) e h R = (vc2 C n [] (.code c_slices_DeleteFunc_int64_int64_26 :: .code c_slices_DeleteFunc_int64_int64_28 :: sk) e h R) := nr rfl
@[simp, simp ↓] theorem c_slices_DeleteFunc_int64_int64_30_r : vc2 C (n + 1) [] (.code c_slices_DeleteFunc_int64_int64_30 :: sk) e h R = (vc2 C n [] (.code c_slices_DeleteFunc_int64_int64_25 :: .code c_slices_DeleteFunc_int64_int64_29 :: sk) e h R) := nr rfl
@[simp, simp ↓] theorem c_slices_DeleteFunc_int64_int64_31_r : vc2 C (n + 1) [] (.code c_slices_DeleteFunc_int64_int64_31 :: sk) e h R = (vc2 C n [] (.code c_slices_DeleteFunc_int64_int64_6 :: .code c_slices_DeleteFunc_int64_int64_30 :: sk) e h R) := nr rfl
@[simp, simp ↓] theorem c_slices_DeleteFunc_int64_int64_32_r : vc2 C (n + 1) [] (.code c_slices_DeleteFunc_int64_int64_32 :: sk) e h R = (vc2 C n [] (.code c_slices_DeleteFunc_int64_int64_1 :: .code c_slices_DeleteFunc_int64_int64_31 :: sk) e h R) := nr rfl
@[simp, simp ↓] theorem c_slices_DeleteFunc_int64_int64_33_r : vc2 C (n + 1) [] (.code c_slices_DeleteFunc_int64_int64_33 :: sk) e h R = (vc2 C n [] (.code c_slices_DeleteFunc_int64_int64_0 :: .code c_slices_DeleteFunc_int64_int64_32 :: sk) e h R) := nr rfl
end
noncomputable def c_slices_DeleteFunc_int64_int64_C (orc : Orc) : Cx := ⟨Try.prog, [], 122, 42, [.tmp 4], orc⟩
@[simp] theorem c_slices_DeleteFunc_int64_int64_C_P (orc : Orc) : (c_slices_DeleteFunc_int64_int64_C orc).P = Try.prog := nr rfl
@[simp] theorem c_slices_DeleteFunc_int64_int64_C_o (orc : Orc) : (c_slices_DeleteFunc_int64_int64_C orc).orc = orc := nr rfl
@[simp] theorem c_slices_DeleteFunc_int64_int64_C_r (orc : Orc) : (c_slices_DeleteFunc_int64_int64_C orc).res = [.tmp 4] := nr rfl
theorem c_slices_DeleteFunc_int64_int64_of {args : List AV} {h : Heap} {R : AV → Heap → Prop} {k : Nat} (ha : args.length = k) {orc : Orc} (hp : Pure Try.prog orc) (hk : Is (c_slices_DeleteFunc_int64_int64_C orc) Try.f122 → Run2 (c_slices_DeleteFunc_int64_int64_C orc) [.code c_slices_DeleteFunc_int64_int64_33] (argEnv 0 args) h (Post R)) (hle : k ≤ 42 := by simp) : ACalls Try.prog 122 args h R :=
  contract2 [] c_slices_DeleteFunc_int64_int64_33 [.tmp 4] Try.func122 (by decide +kernel) rfl (by kernel_rfl) (by rw [ha]; exact hle) (by kernel_rfl) hp hk
theorem c_slices_DeleteFunc_int64_int64_of0 {args : List AV} {h : Heap} {R : AV → Heap → Prop} {k : Nat} (ha : args.length = k) {orc : Orc} (hp : Pure Try.prog orc) (hk : Is (c_slices_DeleteFunc_int64_int64_C orc) Try.f122 → Run2 (c_slices_DeleteFunc_int64_int64_C orc) [.code c_slices_DeleteFunc_int64_int64_33] (argEnv 0 args) h R) (hle : k ≤ 42 := by simp) : ACalls Try.prog 122 args h R :=
  contract20 [] c_slices_DeleteFunc_int64_int64_33 [.tmp 4] Try.func122 (by decide +kernel) rfl (by kernel_rfl) (by rw [ha]; exact hle) (by kernel_rfl) hp hk
/-- What is left of the first j when those are taken out. -/
theorem filt_succ (q : Int → Bool) (l : List Int) {j : Nat} (hj : j < l.length) : (l.take (j + 1)).filter (fun x => !q x) = (l.take j).filter (fun x => !q x) ++ if q l[j] then [] else [l[j]] := by
  rw [List.take_succ_eq_append_getElem hj, List.filter_append]
  congr 1
  by_cases h : q l[j] = true <;> simp [h]
/-- What stands in the block while those are taken out: i of the first j are left. -/
structure DInv (q : Int → Bool) (l A : List Int) (i j : Nat) : Prop where
  lt : i < j
  le : j ≤ l.length
  len : A.length = l.length
  left : A.take i = (l.take j).filter (fun x => !q x)
  rest : ∀ k, j ≤ k → A[k]? = l[k]?
theorem DInv.skip {q : Int → Bool} {l A : List Int} {i j : Nat} (D : DInv q l A i j) (hj : j < l.length) (h : q l[j] = true) : DInv q l A i (j + 1) :=
  ⟨by have := D.lt; omega, hj, D.len, by rw [D.left, filt_succ q l hj, h]; simp, fun k hk => D.rest k (by omega)⟩
theorem DInv.put {q : Int → Bool} {l A : List Int} {i j : Nat} (D : DInv q l A i j) (hj : j < l.length) (h : q l[j] = false) : DInv q l (A.set i l[j]) (i + 1) (j + 1) := by
  have h1 := D.lt
  have h2 := D.len
  refine ⟨by omega, hj, by simp [D.len], ?_, fun k hk => ?_⟩
  · rw [filt_succ q l hj, h, ← D.left]
    have hi : i < (A.set i l[j]).length := by simp; omega
    rw [List.take_succ_eq_append_getElem hi, List.take_set_of_le (Nat.le_refl _)]
    simp
  · rw [List.getElem?_set_ne (by omega)]
    exact D.rest k (by omega)
theorem DeleteFunc_o {w : AV} {l : List Int} {hp : Heap} (G : Grow 1 w (l.map iv) hp) (g : FuncId) (caps : List AV) (q : Int → Bool) (hl : l.length ≤ 1048576) (hc : colds caps = true) (hq : ∀ a ∈ l, ∀ h, ACalls Try.prog g (.int .i64 a :: caps) h (fun v h' => v = .bool (q a) ∧ h' = h)) :
    ACalls Try.prog 122 [w, .fn g caps] hp (fun v h' => OwnL iv 1 v (l.filter fun x => !q x) h') := by
  have hO := G.own
  have hfn : cold (.fn g caps) = true := by simpa [cold] using hc
  refine c_slices_DeleteFunc_int64_int64_of0 rfl noPure fun I => ?_
  refine Run2.of I 1000 ?_
  simp -implicitDefEqProofs
  refine (ACalls.reads hp (fun p hp => hp) (v0 := .int .i64 (idxf q l)) ?_ rfl).mono ?_
  · rw [lend_cons, lend_cons, lend_nil', lend1_cold hp hfn]
    exact ACalls.wk (.cons hO.lent.wk (.refl _)) (IndexFunc_s l g caps q [] hl fun a ha => hq a ha [])
  rintro v h' ⟨rfl, rfl⟩
  refine gK.go ?_
  rcases idxf_cases q l with ⟨e1, e2⟩ | ⟨i0, hi0, e1, e2, e3⟩
  · simp -implicitDefEqProofs [e1]
    rw [e2]; exact hO
  · rw [e1]
    generalize hm : l.map iv = m at G
    cases G with
    | nil => simp at hm; subst hm; simp at hi0
    | emp => simp at hm; subst hm; simp at hi0
    | sl id m n hn =>
      subst hm
      simp only [List.length_map] at hn
      subst hn
      simp -implicitDefEqProofs
      refine ⟨by omega, ?_⟩
      refine Run2.loopE (α := Nat × Nat × List Int) (fun s => [(0, .sl id 1 0 l.length none), (1, .fn g caps), (5, .int .i64 (s.1 : Nat)), (6, .int .i64 (s.2.1 : Nat))]) (fun s => [(id, ⟨1, s.2.2.map iv⟩)]) (fun s => l.length - s.2.1) (fun s => DInv q l s.2.2 s.1 s.2.1) (i0, i0 + 1, l) (by simp) rfl ⟨by simp, by simp; omega, rfl, e3.symm, fun _ _ => rfl⟩ ?_
      rintro ⟨i, j, A⟩ D ih
      have d1 := D.lt
      have d2 := D.len
      have d3 := D.le
      simp only at d1 d2 d3
      by_cases hlt : j < l.length
      · have go1 := fun h => ih (i, j + 1, A) (D.skip hlt h) (by simp; omega)
        have go2 := fun h => ih (i + 1, j + 1, A.set i l[j]) (D.put hlt h) (by simp; omega)
        clear ih
        have hAj : j < A.length := by omega
        have hA : A[j] = l[j] := by
          have := D.rest j (Nat.le_refl _)
          simp only at this
          rwa [List.getElem?_eq_getElem hAj, List.getElem?_eq_getElem hlt, Option.some_inj] at this
        have hq' := hq _ (List.getElem_mem hlt) [(id, ⟨1, A.map iv⟩)]
        have hAi : i < A.length := by omega
        have hil : i < l.length := by omega
        refine Run2.of I 1000 ?_
        simp -implicitDefEqProofs [hlt, hAj, hA, hAi, hil]
        refine ACalls.mono (by simpa using hq') ?_
        rintro v h' ⟨rfl, rfl⟩
        refine gK.go ?_
        simp -implicitDefEqProofs [hlt, hAj, hA, hAi, hil]
        refine ⟨fun h => ⟨by omega, by omega, ?_⟩, fun h => ⟨by omega, ?_⟩⟩
        · simpa [List.map_set] using go2 h
        · simpa using go1 h
      · have hj : j = l.length := by omega
        subst hj
        have hleft := D.left
        simp only [List.take_length] at hleft
        have hlen : (l.filter fun x => !q x).length = i := by rw [← hleft]; simp; omega
        refine Run2.of I 1000 ?_
        simp -implicitDefEqProofs [d2]
        refine ⟨by omega, by omega, by omega, ?_⟩
        have := OwnL.sl (enc := iv) (sz := 1) (l := l.filter fun x => !q x) id none (List.replicate (l.length - i) (iv 0)) (by simp; exact .inr rfl)
        rw [hlen] at this
        rw [← List.map_take, hleft, List.drop_of_length_le (by simp; omega), List.append_nil]
        exact this
end Go.AG
