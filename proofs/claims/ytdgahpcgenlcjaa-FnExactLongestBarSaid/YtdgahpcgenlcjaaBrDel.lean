/- Lists of bars out of which some are taken. No statement is made here. -/
import Derived.Test.YtdgahpcgenlcjaaBrVal
namespace Go.AG
open Go.Proofs Go.Proofs.Ytdgahpcgenlcjaa
set_option linter.unusedSimpArgs false
set_option linter.unusedVariables false
set_option maxRecDepth 4000
abbrev c_slices_Clone_impl_Bar_impl_Bar_o0 : List AJ := [.o ⟨(some 2), none, false, .mv (.c .nilsl), (some [0])⟩]
def c_slices_Clone_impl_Bar_impl_Bar_0 : ACode := .region c_slices_Clone_impl_Bar_impl_Bar_o0
abbrev c_slices_Clone_impl_Bar_impl_Bar_o1 : List AJ := [.o ⟨(some 3), none, false, .mv (.t 0), none⟩, .o ⟨(some 4), none, false, .eqn 0 false (.t 3), (some [0, 4])⟩]
def c_slices_Clone_impl_Bar_impl_Bar_1 : ACode := .region c_slices_Clone_impl_Bar_impl_Bar_o1
abbrev c_slices_Clone_impl_Bar_impl_Bar_o2 : List AJ := [.o ⟨(some 2), none, false, .mv (.c .nilsl), (some [2])⟩]
def c_slices_Clone_impl_Bar_impl_Bar_2 : ACode := .region c_slices_Clone_impl_Bar_impl_Bar_o2
def c_slices_Clone_impl_Bar_impl_Bar_3 : ACode := .seq c_slices_Clone_impl_Bar_impl_Bar_2 .ret
def c_slices_Clone_impl_Bar_impl_Bar_4 : ACode := .cond (.t 4) c_slices_Clone_impl_Bar_impl_Bar_3 .skip
def c_slices_Clone_impl_Bar_impl_Bar_5 : ACode := .seq c_slices_Clone_impl_Bar_impl_Bar_1 c_slices_Clone_impl_Bar_impl_Bar_4
abbrev c_slices_Clone_impl_Bar_impl_Bar_o3 : List AJ := [.e 5 3 none, .o ⟨(some 6), none, false, .mv (.t 0), none⟩, .o ⟨(some 7), none, false, .append 3 24 (.t 5) (.t 6), none⟩, .o ⟨(some 2), none, false, .mv (.t 7), (some [2])⟩]
def c_slices_Clone_impl_Bar_impl_Bar_6 : ACode := .region c_slices_Clone_impl_Bar_impl_Bar_o3
def c_slices_Clone_impl_Bar_impl_Bar_7 : ACode := .seq c_slices_Clone_impl_Bar_impl_Bar_6 .ret
def c_slices_Clone_impl_Bar_impl_Bar_8 : ACode := .seq c_slices_Clone_impl_Bar_impl_Bar_5 c_slices_Clone_impl_Bar_impl_Bar_7
def c_slices_Clone_impl_Bar_impl_Bar_9 : ACode := .seq c_slices_Clone_impl_Bar_impl_Bar_0 c_slices_Clone_impl_Bar_impl_Bar_8
section
variable (C : Cx) (n : Nat) (sk : List AItem) (e : Env) (h : Heap) (R : AV → Heap → Prop)
@[simp, simp ↓] theorem c_slices_Clone_impl_Bar_impl_Bar_0_r : vc2 C (n + 1) [] (.code c_slices_Clone_impl_Bar_impl_Bar_0 :: sk) e h R = (vc2 C n c_slices_Clone_impl_Bar_impl_Bar_o0 sk e h R) := nr rfl
@[simp, simp ↓] theorem c_slices_Clone_impl_Bar_impl_Bar_1_r : vc2 C (n + 1) [] (.code c_slices_Clone_impl_Bar_impl_Bar_1 :: sk) e h R = (vc2 C n c_slices_Clone_impl_Bar_impl_Bar_o1 sk e h R) := nr rfl
@[simp, simp ↓] theorem c_slices_Clone_impl_Bar_impl_Bar_2_r : vc2 C (n + 1) [] (.code c_slices_Clone_impl_Bar_impl_Bar_2 :: sk) e h R = (vc2 C n c_slices_Clone_impl_Bar_impl_Bar_o2 sk e h R) := nr rfl
@[simp, simp ↓] theorem c_slices_Clone_impl_Bar_impl_Bar_3_r : vc2 C (n + 1) [] (.code c_slices_Clone_impl_Bar_impl_Bar_3 :: sk) e h R = (vc2 C n [] (.code c_slices_Clone_impl_Bar_impl_Bar_2 :: .code .ret :: sk) e h R) := nr rfl
@[simp, simp ↓] theorem c_slices_Clone_impl_Bar_impl_Bar_4_r : vc2 C (n + 1) [] (.code c_slices_Clone_impl_Bar_impl_Bar_4 :: sk) e h R = (condK (ev e (.t 4)) (vc2 C n [] (.code c_slices_Clone_impl_Bar_impl_Bar_3 :: sk) e h R) (vc2 C n [] (.code .skip :: sk) e h R)) := nr rfl
@[simp, simp ↓] theorem c_slices_Clone_impl_Bar_impl_Bar_5_r : vc2 C (n + 1) [] (.code c_slices_Clone_impl_Bar_impl_Bar_5 :: sk) e h R = (vc2 C n [] (.code c_slices_Clone_impl_Bar_impl_Bar_1 :: .code c_slices_Clone_impl_Bar_impl_Bar_4 :: sk) e h R) := nr rfl
@[simp, simp ↓] theorem c_slices_Clone_impl_Bar_impl_Bar_6_r : vc2 C (n + 1) [] (.code c_slices_Clone_impl_Bar_impl_Bar_6 :: sk) e h R = (vc2 C n c_slices_Clone_impl_Bar_impl_Bar_o3 sk e h R) := nr rfl
@[simp, simp ↓] theorem c_slices_Clone_impl_Bar_impl_Bar_7_r : vc2 C (n + 1) [] (.code c_slices_Clone_impl_Bar_impl_Bar_7 :: sk) e h R = (vc2 C n [] (.code c_slices_Clone_impl_Bar_impl_Bar_6 :: .code .ret :: sk) e h R) := nr rfl
@[simp, simp ↓] theorem c_slices_Clone_impl_Bar_impl_Bar_8_r : vc2 C (n + 1) [] (.code c_slices_Clone_impl_Bar_impl_Bar_8 :: sk) e h R = (vc2 C n [] (.code c_slices_Clone_impl_Bar_impl_Bar_5 :: .code c_slices_Clone_impl_Bar_impl_Bar_7 :: sk) e h R) := nr rfl
@[simp, simp ↓] theorem c_slices_Clone_impl_Bar_impl_Bar_9_r : vc2 C (n + 1) [] (.code c_slices_Clone_impl_Bar_impl_Bar_9 :: sk) e h R = (vc2 C n [] (.code c_slices_Clone_impl_Bar_impl_Bar_0 :: .code c_slices_Clone_impl_Bar_impl_Bar_8 :: sk) e h R) := nr rfl
end
noncomputable def c_slices_Clone_impl_Bar_impl_Bar_C (orc : Orc) : Cx := ⟨Try.prog, [5], 41, 8, [.tmp 2], orc⟩
@[simp] theorem c_slices_Clone_impl_Bar_impl_Bar_C_P (orc : Orc) : (c_slices_Clone_impl_Bar_impl_Bar_C orc).P = Try.prog := nr rfl
@[simp] theorem c_slices_Clone_impl_Bar_impl_Bar_C_o (orc : Orc) : (c_slices_Clone_impl_Bar_impl_Bar_C orc).orc = orc := nr rfl
@[simp] theorem c_slices_Clone_impl_Bar_impl_Bar_C_r (orc : Orc) : (c_slices_Clone_impl_Bar_impl_Bar_C orc).res = [.tmp 2] := nr rfl
theorem c_slices_Clone_impl_Bar_impl_Bar_of {args : List AV} {h : Heap} {R : AV → Heap → Prop} {k : Nat} (ha : args.length = k) {orc : Orc} (hp : Pure Try.prog orc) (hk : Is (c_slices_Clone_impl_Bar_impl_Bar_C orc) Try.f41 → Run2 (c_slices_Clone_impl_Bar_impl_Bar_C orc) [.code c_slices_Clone_impl_Bar_impl_Bar_9] (argEnv 0 args) h (Post R)) (hle : k ≤ 8 := by simp) : ACalls Try.prog 41 args h R :=
  contract2 [5] c_slices_Clone_impl_Bar_impl_Bar_9 [.tmp 2] Try.func41 (by decide +kernel) rfl (by kernel_rfl) (by rw [ha]; exact hle) (by kernel_rfl) hp hk
theorem c_slices_Clone_impl_Bar_impl_Bar_of0 {args : List AV} {h : Heap} {R : AV → Heap → Prop} {k : Nat} (ha : args.length = k) {orc : Orc} (hp : Pure Try.prog orc) (hk : Is (c_slices_Clone_impl_Bar_impl_Bar_C orc) Try.f41 → Run2 (c_slices_Clone_impl_Bar_impl_Bar_C orc) [.code c_slices_Clone_impl_Bar_impl_Bar_9] (argEnv 0 args) h R) (hle : k ≤ 8 := by simp) : ACalls Try.prog 41 args h R :=
  contract20 [5] c_slices_Clone_impl_Bar_impl_Bar_9 [.tmp 2] Try.func41 (by decide +kernel) rfl (by kernel_rfl) (by rw [ha]; exact hle) (by kernel_rfl) hp hk
theorem CloneB_w (l : List T) (h : Heap) (hl : l.length ≤ 1048576) : ACalls Try.prog 41 [.snap 3 (l.map T.av)] h (fun v h' => ∃ hp, Grow 3 v (l.map T.av) hp ∧ h' = hp ++ h) := by
  refine c_slices_Clone_impl_Bar_impl_Bar_of0 rfl noPure fun I => ?_
  cases l with
  | nil =>
    refine Run2.of I 1000 ?_
    simp -implicitDefEqProofs
    exact ⟨.nil, .emp⟩
  | cons a l =>
    refine Run2.of I 1000 ?_
    simp -implicitDefEqProofs
    refine ⟨by simp at hl; omega, fun id hid => ⟨[(id, _)], .sl id _ _ (by simp), rfl⟩⟩
abbrev c_slices_IndexFunc_impl_Bar_impl_Bar_o0 : List AJ := [.o ⟨(some 4), none, false, .mv (.c (.int .i64 0)), (some [0, 1])⟩]
def c_slices_IndexFunc_impl_Bar_impl_Bar_0 : ACode := .region c_slices_IndexFunc_impl_Bar_impl_Bar_o0
abbrev c_slices_IndexFunc_impl_Bar_impl_Bar_o1 : List AJ := [.o ⟨(some 6), none, false, .mv (.t 0), none⟩, .o ⟨(some 7), none, false, .len (.t 6), none⟩, .o ⟨(some 8), none, false, .mv (.c (.int .i64 0)), (some [0, 1, 7, 8])⟩]
def c_slices_IndexFunc_impl_Bar_impl_Bar_1 : ACode := .region c_slices_IndexFunc_impl_Bar_impl_Bar_o1
abbrev c_slices_IndexFunc_impl_Bar_impl_Bar_o2 : List AJ := [.o ⟨(some 9), none, false, .bin .lss (.t 8) (.t 7), (some [0, 1, 7, 8, 9])⟩]
def c_slices_IndexFunc_impl_Bar_impl_Bar_2 : ACode := .region c_slices_IndexFunc_impl_Bar_impl_Bar_o2
def c_slices_IndexFunc_impl_Bar_impl_Bar_3 : ACode := .cond (.t 9) .skip (.exit 0)
abbrev c_slices_IndexFunc_impl_Bar_impl_Bar_o3 : List AJ := [.o ⟨(some 10), none, false, .mv (.t 8), none⟩, .o ⟨(some 5), none, false, .mv (.t 10), (some [0, 1, 5, 7, 8])⟩]
def c_slices_IndexFunc_impl_Bar_impl_Bar_4 : ACode := .region c_slices_IndexFunc_impl_Bar_impl_Bar_o3
abbrev c_slices_IndexFunc_impl_Bar_impl_Bar_o4 : List AJ := [.o ⟨(some 11), none, false, .mv (.t 1), none⟩, .o ⟨(some 12), none, false, .mv (.t 0), none⟩, .o ⟨(some 13), none, false, .mv (.t 5), none⟩, .o ⟨(some 14), none, false, .idxA 3 (.t 12) (.t 13), none⟩, .o ⟨(some 15), none, false, .load 3 true (.t 14), none⟩, .o ⟨(some 16), none, false, .callv (.t 11) [(.t 15)], (some [0, 1, 5, 7, 8, 16])⟩]
def c_slices_IndexFunc_impl_Bar_impl_Bar_5 : ACode := .region c_slices_IndexFunc_impl_Bar_impl_Bar_o4
abbrev c_slices_IndexFunc_impl_Bar_impl_Bar_o5 : List AJ := [.o ⟨(some 17), none, false, .mv (.t 5), none⟩, .o ⟨(some 4), none, false, .mv (.t 17), (some [4])⟩]
def c_slices_IndexFunc_impl_Bar_impl_Bar_6 : ACode := .region c_slices_IndexFunc_impl_Bar_impl_Bar_o5
def c_slices_IndexFunc_impl_Bar_impl_Bar_7 : ACode := .seq c_slices_IndexFunc_impl_Bar_impl_Bar_6 .ret
def c_slices_IndexFunc_impl_Bar_impl_Bar_8 : ACode := .cond (.t 16) c_slices_IndexFunc_impl_Bar_impl_Bar_7 .skip
def c_slices_IndexFunc_impl_Bar_impl_Bar_9 : ACode := .seq c_slices_IndexFunc_impl_Bar_impl_Bar_5 c_slices_IndexFunc_impl_Bar_impl_Bar_8
def c_slices_IndexFunc_impl_Bar_impl_Bar_10 : ACode := .seq c_slices_IndexFunc_impl_Bar_impl_Bar_4 c_slices_IndexFunc_impl_Bar_impl_Bar_9
def c_slices_IndexFunc_impl_Bar_impl_Bar_11 : ACode := .block 1 c_slices_IndexFunc_impl_Bar_impl_Bar_10
abbrev c_slices_IndexFunc_impl_Bar_impl_Bar_o6 : List AJ := [.o ⟨(some 18), none, true, .bin .add (.t 8) (.c (.int .i64 1)), none⟩, .o ⟨(some 8), none, false, .mv (.t 18), (some [0, 1, 7, 8])⟩]
def c_slices_IndexFunc_impl_Bar_impl_Bar_12 : ACode := .region c_slices_IndexFunc_impl_Bar_impl_Bar_o6
def c_slices_IndexFunc_impl_Bar_impl_Bar_13 : ACode := .seq c_slices_IndexFunc_impl_Bar_impl_Bar_11 c_slices_IndexFunc_impl_Bar_impl_Bar_12
def c_slices_IndexFunc_impl_Bar_impl_Bar_14 : ACode := .seq c_slices_IndexFunc_impl_Bar_impl_Bar_3 c_slices_IndexFunc_impl_Bar_impl_Bar_13
def c_slices_IndexFunc_impl_Bar_impl_Bar_15 : ACode := .seq c_slices_IndexFunc_impl_Bar_impl_Bar_2 c_slices_IndexFunc_impl_Bar_impl_Bar_14
def c_slices_IndexFunc_impl_Bar_impl_Bar_16 : ACode := .loop c_slices_IndexFunc_impl_Bar_impl_Bar_15
def c_slices_IndexFunc_impl_Bar_impl_Bar_17 : ACode := .block 0 c_slices_IndexFunc_impl_Bar_impl_Bar_16
def c_slices_IndexFunc_impl_Bar_impl_Bar_18 : ACode := .seq c_slices_IndexFunc_impl_Bar_impl_Bar_1 c_slices_IndexFunc_impl_Bar_impl_Bar_17
abbrev c_slices_IndexFunc_impl_Bar_impl_Bar_o7 : List AJ := [.o ⟨(some 4), none, false, .mv (.c (.int .i64 (-1))), (some [4])⟩]
def c_slices_IndexFunc_impl_Bar_impl_Bar_19 : ACode := .region c_slices_IndexFunc_impl_Bar_impl_Bar_o7
def c_slices_IndexFunc_impl_Bar_impl_Bar_20 : ACode := .seq c_slices_IndexFunc_impl_Bar_impl_Bar_19 .ret
def c_slices_IndexFunc_impl_Bar_impl_Bar_21 : ACode := .seq c_slices_IndexFunc_impl_Bar_impl_Bar_18 c_slices_IndexFunc_impl_Bar_impl_Bar_20
def c_slices_IndexFunc_impl_Bar_impl_Bar_22 : ACode := .seq c_slices_IndexFunc_impl_Bar_impl_Bar_0 c_slices_IndexFunc_impl_Bar_impl_Bar_21
section
variable (C : Cx) (n : Nat) (sk : List AItem) (e : Env) (h : Heap) (R : AV → Heap → Prop)
@[simp, simp ↓] theorem c_slices_IndexFunc_impl_Bar_impl_Bar_0_r : vc2 C (n + 1) [] (.code c_slices_IndexFunc_impl_Bar_impl_Bar_0 :: sk) e h R = (vc2 C n c_slices_IndexFunc_impl_Bar_impl_Bar_o0 sk e h R) := nr rfl
@[simp, simp ↓] theorem c_slices_IndexFunc_impl_Bar_impl_Bar_1_r : vc2 C (n + 1) [] (.code c_slices_IndexFunc_impl_Bar_impl_Bar_1 :: sk) e h R = (vc2 C n c_slices_IndexFunc_impl_Bar_impl_Bar_o1 sk e h R) := nr rfl
@[simp, simp ↓] theorem c_slices_IndexFunc_impl_Bar_impl_Bar_2_r : vc2 C (n + 1) [] (.code c_slices_IndexFunc_impl_Bar_impl_Bar_2 :: sk) e h R = (vc2 C n c_slices_IndexFunc_impl_Bar_impl_Bar_o2 sk e h R) := nr rfl
@[simp, simp ↓] theorem c_slices_IndexFunc_impl_Bar_impl_Bar_3_r : vc2 C (n + 1) [] (.code c_slices_IndexFunc_impl_Bar_impl_Bar_3 :: sk) e h R = (condK (ev e (.t 9)) (vc2 C n [] (.code .skip :: sk) e h R) (vc2 C n [] (.code (.exit 0) :: sk) e h R)) := nr rfl
@[simp, simp ↓] theorem c_slices_IndexFunc_impl_Bar_impl_Bar_4_r : vc2 C (n + 1) [] (.code c_slices_IndexFunc_impl_Bar_impl_Bar_4 :: sk) e h R = (vc2 C n c_slices_IndexFunc_impl_Bar_impl_Bar_o3 sk e h R) := nr rfl
@[simp, simp ↓] theorem c_slices_IndexFunc_impl_Bar_impl_Bar_5_r : vc2 C (n + 1) [] (.code c_slices_IndexFunc_impl_Bar_impl_Bar_5 :: sk) e h R = (vc2 C n c_slices_IndexFunc_impl_Bar_impl_Bar_o4 sk e h R) := nr rfl
@[simp, simp ↓] theorem c_slices_IndexFunc_impl_Bar_impl_Bar_6_r : vc2 C (n + 1) [] (.code c_slices_IndexFunc_impl_Bar_impl_Bar_6 :: sk) e h R = (vc2 C n c_slices_IndexFunc_impl_Bar_impl_Bar_o5 sk e h R) := nr rfl
@[simp, simp ↓] theorem c_slices_IndexFunc_impl_Bar_impl_Bar_7_r : vc2 C (n + 1) [] (.code c_slices_IndexFunc_impl_Bar_impl_Bar_7 :: sk) e h R = (vc2 C n [] (.code c_slices_IndexFunc_impl_Bar_impl_Bar_6 :: .code .ret :: sk) e h R) := nr rfl
@[simp, simp ↓] theorem c_slices_IndexFunc_impl_Bar_impl_Bar_8_r : vc2 C (n + 1) [] (.code c_slices_IndexFunc_impl_Bar_impl_Bar_8 :: sk) e h R = (condK (ev e (.t 16)) (vc2 C n [] (.code c_slices_IndexFunc_impl_Bar_impl_Bar_7 :: sk) e h R) (vc2 C n [] (.code .skip :: sk) e h R)) := nr rfl
@[simp, simp ↓] theorem c_slices_IndexFunc_impl_Bar_impl_Bar_9_r : vc2 C (n + 1) [] (.code c_slices_IndexFunc_impl_Bar_impl_Bar_9 :: sk) e h R = (vc2 C n [] (.code c_slices_IndexFunc_impl_Bar_impl_Bar_5 :: .code c_slices_IndexFunc_impl_Bar_impl_Bar_8 :: sk) e h R) := nr rfl
@[simp, simp ↓] theorem c_slices_IndexFunc_impl_Bar_impl_Bar_10_r : vc2 C (n + 1) [] (.code c_slices_IndexFunc_impl_Bar_impl_Bar_10 :: sk) e h R = (vc2 C n [] (.code c_slices_IndexFunc_impl_Bar_impl_Bar_4 :: .code c_slices_IndexFunc_impl_Bar_impl_Bar_9 :: sk) e h R) := nr rfl
@[simp, simp ↓] theorem c_slices_IndexFunc_impl_Bar_impl_Bar_11_r : vc2 C (n + 1) [] (.code c_slices_IndexFunc_impl_Bar_impl_Bar_11 :: sk) e h R = (vc2 C n [] (.code c_slices_IndexFunc_impl_Bar_impl_Bar_10 :: .inBlock 1 :: sk) e h R) := nr rfl
@[simp, simp ↓] theorem c_slices_IndexFunc_impl_Bar_impl_Bar_12_r : vc2 C (n + 1) [] (.code c_slices_IndexFunc_impl_Bar_impl_Bar_12 :: sk) e h R = (vc2 C n c_slices_IndexFunc_impl_Bar_impl_Bar_o6 sk e h R) := nr rfl
@[simp, simp ↓] theorem c_slices_IndexFunc_impl_Bar_impl_Bar_13_r : vc2 C (n + 1) [] (.code c_slices_IndexFunc_impl_Bar_impl_Bar_13 :: sk) e h R = (vc2 C n [] (.code c_slices_IndexFunc_impl_Bar_impl_Bar_11 :: .code c_slices_IndexFunc_impl_Bar_impl_Bar_12 :: sk) e h R) := nr rfl
@[simp, simp ↓] theorem c_slices_IndexFunc_impl_Bar_impl_Bar_14_r : vc2 C (n + 1) [] (.code c_slices_IndexFunc_impl_Bar_impl_Bar_14 :: sk) e h R = (vc2 C n [] (.code c_slices_IndexFunc_impl_Bar_impl_Bar_3 :: .code c_slices_IndexFunc_impl_Bar_impl_Bar_13 :: sk) e h R) := nr rfl
@[simp, simp ↓] theorem c_slices_IndexFunc_impl_Bar_impl_Bar_15_r : vc2 C (n + 1) [] (.code c_slices_IndexFunc_impl_Bar_impl_Bar_15 :: sk) e h R = (vc2 C n [] (.code c_slices_IndexFunc_impl_Bar_impl_Bar_2 :: .code c_slices_IndexFunc_impl_Bar_impl_Bar_14 :: sk) e h R) := nr rfl
@[simp, simp ↓] theorem c_slices_IndexFunc_impl_Bar_impl_Bar_16_r : vc2 C (n + 1) [] (.code c_slices_IndexFunc_impl_Bar_impl_Bar_16 :: sk) e h R = (Run2 C (.code c_slices_IndexFunc_impl_Bar_impl_Bar_15 :: .inLoop c_slices_IndexFunc_impl_Bar_impl_Bar_15 :: sk) e h R) := nr rfl
@[simp, simp ↓] theorem c_slices_IndexFunc_impl_Bar_impl_Bar_17_r : vc2 C (n + 1) [] (.code c_slices_IndexFunc_impl_Bar_impl_Bar_17 :: sk) e h R = (vc2 C n [] (.code c_slices_IndexFunc_impl_Bar_impl_Bar_16 :: .inBlock 0 :: sk) e h R) := nr rfl
@[simp, simp ↓] theorem c_slices_IndexFunc_impl_Bar_impl_Bar_18_r : vc2 C (n + 1) [] (.code c_slices_IndexFunc_impl_Bar_impl_Bar_18 :: sk) e h R = (vc2 C n [] (.code c_slices_IndexFunc_impl_Bar_impl_Bar_1 :: .code c_slices_IndexFunc_impl_Bar_impl_Bar_17 :: sk) e h R) := nr rfl
@[simp, simp ↓] theorem c_slices_IndexFunc_impl_Bar_impl_Bar_19_r : vc2 C (n + 1) [] (.code c_slices_IndexFunc_impl_Bar_impl_Bar_19 :: sk) e h R = (vc2 C n c_slices_IndexFunc_impl_Bar_impl_Bar_o7 sk e h R) := nr rfl
@[simp, simp ↓] theorem c_slices_IndexFunc_impl_Bar_impl_Bar_20_r : vc2 C (n + 1) [] (.code c_slices_IndexFunc_impl_Bar_impl_Bar_20 :: sk) e h R = (vc2 C n [] (.code c_slices_IndexFunc_impl_Bar_impl_Bar_19 :: .code .ret :: sk) e h R) := nr rfl
@[simp, simp ↓] theorem c_slices_IndexFunc_impl_Bar_impl_Bar_21_r : vc2 C (n + 1) [] (.code c_slices_IndexFunc_impl_Bar_impl_Bar_21 :: sk) e h R = (vc2 C n [] (.code c_slices_IndexFunc_impl_Bar_impl_Bar_18 :: .code c_slices_IndexFunc_impl_Bar_impl_Bar_20 :: sk) e h R) := nr rfl
@[simp, simp ↓] theorem c_slices_IndexFunc_impl_Bar_impl_Bar_22_r : vc2 C (n + 1) [] (.code c_slices_IndexFunc_impl_Bar_impl_Bar_22 :: sk) e h R = (vc2 C n [] (.code c_slices_IndexFunc_impl_Bar_impl_Bar_0 :: .code c_slices_IndexFunc_impl_Bar_impl_Bar_21 :: sk) e h R) := nr rfl
end
noncomputable def c_slices_IndexFunc_impl_Bar_impl_Bar_C (orc : Orc) : Cx := ⟨Try.prog, [], 58, 19, [.tmp 4], orc⟩
@[simp] theorem c_slices_IndexFunc_impl_Bar_impl_Bar_C_P (orc : Orc) : (c_slices_IndexFunc_impl_Bar_impl_Bar_C orc).P = Try.prog := nr rfl
@[simp] theorem c_slices_IndexFunc_impl_Bar_impl_Bar_C_o (orc : Orc) : (c_slices_IndexFunc_impl_Bar_impl_Bar_C orc).orc = orc := nr rfl
@[simp] theorem c_slices_IndexFunc_impl_Bar_impl_Bar_C_r (orc : Orc) : (c_slices_IndexFunc_impl_Bar_impl_Bar_C orc).res = [.tmp 4] := nr rfl
theorem c_slices_IndexFunc_impl_Bar_impl_Bar_of {args : List AV} {h : Heap} {R : AV → Heap → Prop} {k : Nat} (ha : args.length = k) {orc : Orc} (hp : Pure Try.prog orc) (hk : Is (c_slices_IndexFunc_impl_Bar_impl_Bar_C orc) Try.f58 → Run2 (c_slices_IndexFunc_impl_Bar_impl_Bar_C orc) [.code c_slices_IndexFunc_impl_Bar_impl_Bar_22] (argEnv 0 args) h (Post R)) (hle : k ≤ 19 := by simp) : ACalls Try.prog 58 args h R :=
  contract2 [] c_slices_IndexFunc_impl_Bar_impl_Bar_22 [.tmp 4] Try.func58 (by decide +kernel) rfl (by kernel_rfl) (by rw [ha]; exact hle) (by kernel_rfl) hp hk
theorem c_slices_IndexFunc_impl_Bar_impl_Bar_of0 {args : List AV} {h : Heap} {R : AV → Heap → Prop} {k : Nat} (ha : args.length = k) {orc : Orc} (hp : Pure Try.prog orc) (hk : Is (c_slices_IndexFunc_impl_Bar_impl_Bar_C orc) Try.f58 → Run2 (c_slices_IndexFunc_impl_Bar_impl_Bar_C orc) [.code c_slices_IndexFunc_impl_Bar_impl_Bar_22] (argEnv 0 args) h R) (hle : k ≤ 19 := by simp) : ACalls Try.prog 58 args h R :=
  contract20 [] c_slices_IndexFunc_impl_Bar_impl_Bar_22 [.tmp 4] Try.func58 (by decide +kernel) rfl (by kernel_rfl) (by rw [ha]; exact hle) (by kernel_rfl) hp hk
/-- The first place where q holds. -/
def idxf (q : T → Bool) (l : List T) : Int := match l.findIdx? q with
  | some i => i
  | none => -1
theorem idxf_at {q : T → Bool} {l : List T} {i : Nat} (h : i < l.length) (hb : ∀ j (hj : j < l.length), j < i → q l[j] = false) (ht : q l[i] = true) : idxf q l = i := by
  have : l.findIdx? q = some i := List.findIdx?_eq_some_iff_getElem.2 ⟨h, ht, fun j hj => by simp [hb j (by omega) hj]⟩
  unfold idxf; rw [this]
theorem idxf_none {q : T → Bool} {l : List T} (hb : ∀ j (hj : j < l.length), q l[j] = false) : idxf q l = -1 := by
  have : l.findIdx? q = none := List.findIdx?_eq_none_iff.2 fun a ha => by
    obtain ⟨j, hj, rfl⟩ := List.mem_iff_getElem.1 ha
    simp [hb j hj]
  unfold idxf; rw [this]
theorem idxf_cases (q : T → Bool) (l : List T) : (idxf q l = -1 ∧ l.filter (fun x => !q x) = l) ∨ ∃ (i : Nat) (hi : i < l.length), idxf q l = i ∧ q l[i] = true ∧ (l.take (i + 1)).filter (fun x => !q x) = l.take i := by
  unfold idxf
  cases h : l.findIdx? q with
  | none =>
    rw [List.findIdx?_eq_none_iff] at h
    exact .inl ⟨rfl, List.filter_eq_self.2 fun a ha => by simp [h a ha]⟩
  | some i =>
    obtain ⟨hi, hq, hb⟩ := List.findIdx?_eq_some_iff_getElem.1 h
    refine .inr ⟨i, hi, rfl, hq, ?_⟩
    rw [List.take_succ_eq_append_getElem hi, List.filter_append]
    have : (l.take i).filter (fun x => !q x) = l.take i := List.filter_eq_self.2 fun a ha => by
      obtain ⟨j, hj, rfl⟩ := List.mem_iff_getElem.1 ha
      simp only [List.length_take] at hj
      simp only [List.getElem_take]
      simpa using hb j (by omega)
    rw [this]
    simp [hq]
theorem IndexFuncB_s (l : List T) (g : FuncId) (caps : List AV) (q : T → Bool) (h : Heap) (hl : l.length ≤ 1048576) (hq : ∀ a ∈ l, ACalls Try.prog g (a.av :: caps) h (fun v h' => v = .bool (q a) ∧ h' = h)) :
    ACalls Try.prog 58 [.snap 3 (l.map T.av), .fn g caps] h (fun v h' => v = .int .i64 (idxf q l) ∧ h' = h) := by
  refine c_slices_IndexFunc_impl_Bar_impl_Bar_of0 rfl noPure fun I => ?_
  refine Run2.of I 1000 ?_
  simp -implicitDefEqProofs
  refine Run2.loopE (fun i => [(0, .snap 3 (l.map T.av)), (1, .fn g caps), (7, .int .i64 l.length), (8, .int .i64 (i : Nat))]) (fun i => h) (fun i => l.length - i) (fun i => i ≤ l.length ∧ ∀ j (hj : j < l.length), j < i → q l[j] = false) 0 (by simp) rfl ⟨Nat.zero_le _, fun _ _ h => absurd h (Nat.not_lt_zero _)⟩ fun i hi ih => ?_
  by_cases hlt : i < l.length
  · have go := fun (h1 : q l[i] = false) => ih (i + 1) ⟨by omega, fun j hj hji => by
      rcases Nat.lt_or_ge j i with h | h
      · exact hi.2 j hj h
      · obtain rfl : j = i := by omega
        exact h1⟩ (by omega)
    have hat := idxf_at (q := q) hlt hi.2
    clear ih
    have hq' := hq _ (List.getElem_mem hlt)
    refine Run2.of I 1000 ?_
    simp -implicitDefEqProofs [hlt]
    refine ACalls.mono (by simpa using hq') ?_
    rintro v h' ⟨rfl, rfl⟩
    refine gK.go ?_
    simp -implicitDefEqProofs
    refine ⟨fun h => (hat h).symm, fun h => ⟨by omega, ?_⟩⟩
    simpa using go h
  · obtain rfl : i = l.length := by omega
    have := idxf_none (q := q) (l := l) fun j hj => hi.2 j hj hj
    refine Run2.of I 1000 ?_
    simp -implicitDefEqProofs
    exact this.symm
abbrev c_slices_DeleteFunc_impl_Bar_impl_Bar_o0 : List AJ := [.o ⟨(some 4), none, false, .mv (.c .nilsl), (some [0, 1])⟩]
def c_slices_DeleteFunc_impl_Bar_impl_Bar_0 : ACode := .region c_slices_DeleteFunc_impl_Bar_impl_Bar_o0
abbrev c_slices_DeleteFunc_impl_Bar_impl_Bar_o1 : List AJ := [.o ⟨(some 8), none, false, .mv (.t 0), none⟩, .o ⟨(some 9), none, false, .mv (.t 1), none⟩, .o ⟨(some 10), none, false, .call 58 [(.t 8), (.t 9)], none⟩, .o ⟨(some 5), none, false, .mv (.t 10), (some [0, 1, 5])⟩]
def c_slices_DeleteFunc_impl_Bar_impl_Bar_1 : ACode := .region c_slices_DeleteFunc_impl_Bar_impl_Bar_o1
abbrev c_slices_DeleteFunc_impl_Bar_impl_Bar_o2 : List AJ := [.o ⟨(some 11), none, false, .mv (.t 5), none⟩, .o ⟨(some 12), none, false, .bin .eql (.t 11) (.c (.int .i64 (-1))), (some [0, 1, 5, 12])⟩]
def c_slices_DeleteFunc_impl_Bar_impl_Bar_2 : ACode := .region c_slices_DeleteFunc_impl_Bar_impl_Bar_o2
abbrev c_slices_DeleteFunc_impl_Bar_impl_Bar_o3 : List AJ := [.o ⟨(some 13), none, false, .mv (.t 0), none⟩, .o ⟨(some 4), none, false, .mv (.t 13), (some [4])⟩]
def c_slices_DeleteFunc_impl_Bar_impl_Bar_3 : ACode := .region c_slices_DeleteFunc_impl_Bar_impl_Bar_o3
def c_slices_DeleteFunc_impl_Bar_impl_Bar_4 : ACode := .seq c_slices_DeleteFunc_impl_Bar_impl_Bar_3 .ret
def c_slices_DeleteFunc_impl_Bar_impl_Bar_5 : ACode := .cond (.t 12) c_slices_DeleteFunc_impl_Bar_impl_Bar_4 .skip
def c_slices_DeleteFunc_impl_Bar_impl_Bar_6 : ACode := .seq c_slices_DeleteFunc_impl_Bar_impl_Bar_2 c_slices_DeleteFunc_impl_Bar_impl_Bar_5
abbrev c_slices_DeleteFunc_impl_Bar_impl_Bar_o4 : List AJ := [.o ⟨(some 14), none, false, .mv (.t 5), none⟩, .o ⟨(some 15), none, true, .bin .add (.t 14) (.c (.int .i64 1)), none⟩, .o ⟨(some 6), none, false, .mv (.t 15), (some [0, 1, 5, 6])⟩]
def c_slices_DeleteFunc_impl_Bar_impl_Bar_7 : ACode := .region c_slices_DeleteFunc_impl_Bar_impl_Bar_o4
abbrev c_slices_DeleteFunc_impl_Bar_impl_Bar_o5 : List AJ := [.o ⟨(some 16), none, false, .mv (.t 6), none⟩, .o ⟨(some 17), none, false, .mv (.t 0), none⟩, .o ⟨(some 18), none, false, .len (.t 17), none⟩, .o ⟨(some 19), none, false, .bin .lss (.t 16) (.t 18), (some [0, 1, 5, 6, 19])⟩]
def c_slices_DeleteFunc_impl_Bar_impl_Bar_8 : ACode := .region c_slices_DeleteFunc_impl_Bar_impl_Bar_o5
def c_slices_DeleteFunc_impl_Bar_impl_Bar_9 : ACode := .cond (.t 19) .skip (.exit 0)
def c_slices_DeleteFunc_impl_Bar_impl_Bar_10 : ACode := .seq c_slices_DeleteFunc_impl_Bar_impl_Bar_8 c_slices_DeleteFunc_impl_Bar_impl_Bar_9
abbrev c_slices_DeleteFunc_impl_Bar_impl_Bar_o6 : List AJ := [.o ⟨(some 22), none, false, .mv (.t 0), none⟩, .o ⟨(some 23), none, false, .mv (.t 6), none⟩, .o ⟨(some 24), none, false, .idxA 3 (.t 22) (.t 23), none⟩, .o ⟨(some 25), none, false, .load 3 true (.t 24), none⟩, .v 7 3 (.agg [(.int .i64 0), (.int .i64 0), (.int .i64 0)]) [] (.t 25) (some [0, 1, 5, 6, 7])]
def c_slices_DeleteFunc_impl_Bar_impl_Bar_11 : ACode := .region c_slices_DeleteFunc_impl_Bar_impl_Bar_o6
abbrev c_slices_DeleteFunc_impl_Bar_impl_Bar_o7 : List AJ := [.o ⟨(some 26), none, false, .mv (.t 1), none⟩, .o ⟨(some 27), none, false, .load 3 true (.t 7), none⟩, .o ⟨(some 28), none, false, .callv (.t 26) [(.t 27)], none⟩, .o ⟨(some 29), none, false, .un .not (.t 28), (some [0, 1, 5, 6, 7, 29])⟩]
def c_slices_DeleteFunc_impl_Bar_impl_Bar_12 : ACode := .region c_slices_DeleteFunc_impl_Bar_impl_Bar_o7
abbrev c_slices_DeleteFunc_impl_Bar_impl_Bar_o8 : List AJ := [.o ⟨(some 30), none, false, .mv (.t 0), none⟩, .o ⟨(some 31), none, false, .mv (.t 5), none⟩, .o ⟨(some 32), none, false, .load 3 true (.t 7), none⟩, .o ⟨(some 33), none, false, .idxA 3 (.t 30) (.t 31), none⟩, .o ⟨none, none, false, .store 3 (.t 33) (.t 32), (some [0, 1, 5, 6])⟩]
def c_slices_DeleteFunc_impl_Bar_impl_Bar_13 : ACode := .region c_slices_DeleteFunc_impl_Bar_impl_Bar_o8
abbrev c_slices_DeleteFunc_impl_Bar_impl_Bar_o9 : List AJ := [.o ⟨(some 34), none, false, .mv (.t 5), none⟩, .o ⟨(some 35), none, true, .bin .add (.t 34) (.c (.int .i64 1)), none⟩, .o ⟨(some 5), none, false, .mv (.t 35), (some [0, 1, 5, 6])⟩]
def c_slices_DeleteFunc_impl_Bar_impl_Bar_14 : ACode := .region c_slices_DeleteFunc_impl_Bar_impl_Bar_o9
def c_slices_DeleteFunc_impl_Bar_impl_Bar_15 : ACode := .seq c_slices_DeleteFunc_impl_Bar_impl_Bar_13 c_slices_DeleteFunc_impl_Bar_impl_Bar_14
def c_slices_DeleteFunc_impl_Bar_impl_Bar_16 : ACode := .cond (.t 29) c_slices_DeleteFunc_impl_Bar_impl_Bar_15 .skip
def c_slices_DeleteFunc_impl_Bar_impl_Bar_17 : ACode := .seq c_slices_DeleteFunc_impl_Bar_impl_Bar_12 c_slices_DeleteFunc_impl_Bar_impl_Bar_16
def c_slices_DeleteFunc_impl_Bar_impl_Bar_18 : ACode := .seq c_slices_DeleteFunc_impl_Bar_impl_Bar_11 c_slices_DeleteFunc_impl_Bar_impl_Bar_17
def c_slices_DeleteFunc_impl_Bar_impl_Bar_19 : ACode := .block 1 c_slices_DeleteFunc_impl_Bar_impl_Bar_18
abbrev c_slices_DeleteFunc_impl_Bar_impl_Bar_o10 : List AJ := [.o ⟨(some 20), none, false, .mv (.t 6), none⟩, .o ⟨(some 21), none, true, .bin .add (.t 20) (.c (.int .i64 1)), none⟩, .o ⟨(some 6), none, false, .mv (.t 21), (some [0, 1, 5, 6])⟩]
def c_slices_DeleteFunc_impl_Bar_impl_Bar_20 : ACode := .region c_slices_DeleteFunc_impl_Bar_impl_Bar_o10
def c_slices_DeleteFunc_impl_Bar_impl_Bar_21 : ACode := .seq c_slices_DeleteFunc_impl_Bar_impl_Bar_19 c_slices_DeleteFunc_impl_Bar_impl_Bar_20
def c_slices_DeleteFunc_impl_Bar_impl_Bar_22 : ACode := .seq c_slices_DeleteFunc_impl_Bar_impl_Bar_10 c_slices_DeleteFunc_impl_Bar_impl_Bar_21
def c_slices_DeleteFunc_impl_Bar_impl_Bar_23 : ACode := .loop c_slices_DeleteFunc_impl_Bar_impl_Bar_22
def c_slices_DeleteFunc_impl_Bar_impl_Bar_24 : ACode := .block 0 c_slices_DeleteFunc_impl_Bar_impl_Bar_23
def c_slices_DeleteFunc_impl_Bar_impl_Bar_25 : ACode := .seq c_slices_DeleteFunc_impl_Bar_impl_Bar_7 c_slices_DeleteFunc_impl_Bar_impl_Bar_24
abbrev c_slices_DeleteFunc_impl_Bar_impl_Bar_o11 : List AJ := [.o ⟨(some 36), none, false, .mv (.t 0), none⟩, .o ⟨(some 37), none, false, .mv (.t 5), none⟩, .o ⟨(some 38), none, false, .slice 3 (.t 36) (some (.t 37)) none none, none⟩, .o ⟨none, none, false, .clear 3 (.agg [(.int .i64 0), (.int .i64 0), (.int .i64 0)]) (.t 38), (some [0, 5])⟩]
def c_slices_DeleteFunc_impl_Bar_impl_Bar_26 : ACode := .region c_slices_DeleteFunc_impl_Bar_impl_Bar_o11
abbrev c_slices_DeleteFunc_impl_Bar_impl_Bar_o12 : List AJ := [.o ⟨(some 39), none, false, .mv (.t 0), none⟩, .o ⟨(some 40), none, false, .mv (.t 5), none⟩, .o ⟨(some 41), none, false, .slice 3 (.t 39) none (some (.t 40)) none, none⟩, .o ⟨(some 4), none, false, .mv (.t 41), (some [4])⟩]
def c_slices_DeleteFunc_impl_Bar_impl_Bar_27 : ACode := .region c_slices_DeleteFunc_impl_Bar_impl_Bar_o12
def c_slices_DeleteFunc_impl_Bar_impl_Bar_28 : ACode := .seq c_slices_DeleteFunc_impl_Bar_impl_Bar_27 .ret
def c_slices_DeleteFunc_impl_Bar_impl_Bar_29 : ACode := .seq c_slices_DeleteFunc_impl_Bar_impl_Bar_26 c_slices_DeleteFunc_impl_Bar_impl_Bar_28
def c_slices_DeleteFunc_impl_Bar_impl_Bar_30 : ACode := .seq c_slices_DeleteFunc_impl_Bar_impl_Bar_25 c_slices_DeleteFunc_impl_Bar_impl_Bar_29
def c_slices_DeleteFunc_impl_Bar_impl_Bar_31 : ACode := .seq c_slices_DeleteFunc_impl_Bar_impl_Bar_6 c_slices_DeleteFunc_impl_Bar_impl_Bar_30
def c_slices_DeleteFunc_impl_Bar_impl_Bar_32 : ACode := .seq c_slices_DeleteFunc_impl_Bar_impl_Bar_1 c_slices_DeleteFunc_impl_Bar_impl_Bar_31
def c_slices_DeleteFunc_impl_Bar_impl_Bar_33 : ACode := .seq c_slices_DeleteFunc_impl_Bar_impl_Bar_0 c_slices_DeleteFunc_impl_Bar_impl_Bar_32
section
variable (C : Cx) (n : Nat) (sk : List AItem) (e : Env) (h : Heap) (R : AV → Heap → Prop)
@[simp, simp ↓] theorem c_slices_DeleteFunc_impl_Bar_impl_Bar_0_r : vc2 C (n + 1) [] (.code c_slices_DeleteFunc_impl_Bar_impl_Bar_0 :: sk) e h R = (vc2 C n c_slices_DeleteFunc_impl_Bar_impl_Bar_o0 sk e h R) := nr rfl
@[simp, simp ↓] theorem c_slices_DeleteFunc_impl_Bar_impl_Bar_1_r : vc2 C (n + 1) [] (.code c_slices_DeleteFunc_impl_Bar_impl_Bar_1 :: sk) e h R = (vc2 C n c_slices_DeleteFunc_impl_Bar_impl_Bar_o1 sk e h R) := nr rfl
@[simp, simp ↓] theorem c_slices_DeleteFunc_impl_Bar_impl_Bar_2_r : vc2 C (n + 1) [] (.code c_slices_DeleteFunc_impl_Bar_impl_Bar_2 :: sk) e h R = (vc2 C n c_slices_DeleteFunc_impl_Bar_impl_Bar_o2 sk e h R) := nr rfl
@[simp, simp ↓] theorem c_slices_DeleteFunc_impl_Bar_impl_Bar_3_r : vc2 C (n + 1) [] (.code c_slices_DeleteFunc_impl_Bar_impl_Bar_3 :: sk) e h R = (vc2 C n c_slices_DeleteFunc_impl_Bar_impl_Bar_o3 sk e h R) := nr rfl
@[simp, simp ↓] theorem c_slices_DeleteFunc_impl_Bar_impl_Bar_4_r : vc2 C (n + 1) [] (.code c_slices_DeleteFunc_impl_Bar_impl_Bar_4 :: sk) e h R = (vc2 C n [] (.code c_slices_DeleteFunc_impl_Bar_impl_Bar_3 :: .code .ret :: sk) e h R) := nr rfl
@[simp, simp ↓] theorem c_slices_DeleteFunc_impl_Bar_impl_Bar_5_r : vc2 C (n + 1) [] (.code c_slices_DeleteFunc_impl_Bar_impl_Bar_5 :: sk) e h R = (condK (ev e (.t 12)) (vc2 C n [] (.code c_slices_DeleteFunc_impl_Bar_impl_Bar_4 :: sk) e h R) (vc2 C n [] (.code .skip :: sk) e h R)) := nr rfl
@[simp, simp ↓] theorem c_slices_DeleteFunc_impl_Bar_impl_Bar_6_r : vc2 C (n + 1) [] (.code c_slices_DeleteFunc_impl_Bar_impl_Bar_6 :: sk) e h R = (vc2 C n [] (.code c_slices_DeleteFunc_impl_Bar_impl_Bar_2 :: .code c_slices_DeleteFunc_impl_Bar_impl_Bar_5 :: sk) e h R) := nr rfl
@[simp, simp ↓] theorem c_slices_DeleteFunc_impl_Bar_impl_Bar_7_r : vc2 C (n + 1) [] (.code c_slices_DeleteFunc_impl_Bar_impl_Bar_7 :: sk) e h R = (vc2 C n c_slices_DeleteFunc_impl_Bar_impl_Bar_o4 sk e h R) := nr rfl
@[simp, simp ↓] theorem c_slices_DeleteFunc_impl_Bar_impl_Bar_8_r : vc2 C (n + 1) [] (.code c_slices_DeleteFunc_impl_Bar_impl_Bar_8 :: sk) e h R = (vc2 C n c_slices_DeleteFunc_impl_Bar_impl_Bar_o5 sk e h R) := nr rfl
@[simp, simp ↓] theorem c_slices_DeleteFunc_impl_Bar_impl_Bar_9_r : vc2 C (n + 1) [] (.code c_slices_DeleteFunc_impl_Bar_impl_Bar_9 :: sk) e h R = (condK (ev e (.t 19)) (vc2 C n [] (.code .skip :: sk) e h R) (vc2 C n [] (.code (.exit 0) :: sk) e h R)) := nr rfl
@[simp, simp ↓] theorem c_slices_DeleteFunc_impl_Bar_impl_Bar_10_r : vc2 C (n + 1) [] (.code c_slices_DeleteFunc_impl_Bar_impl_Bar_10 :: sk) e h R = (vc2 C n [] (.code c_slices_DeleteFunc_impl_Bar_impl_Bar_8 :: .code c_slices_DeleteFunc_impl_Bar_impl_Bar_9 :: sk) e h R) := nr rfl
@[simp, simp ↓] theorem c_slices_DeleteFunc_impl_Bar_impl_Bar_11_r : vc2 C (n + 1) [] (.code c_slices_DeleteFunc_impl_Bar_impl_Bar_11 :: sk) e h R = (vc2 C n c_slices_DeleteFunc_impl_Bar_impl_Bar_o6 sk e h R) := nr rfl
@[simp, simp ↓] theorem c_slices_DeleteFunc_impl_Bar_impl_Bar_12_r : vc2 C (n + 1) [] (.code c_slices_DeleteFunc_impl_Bar_impl_Bar_12 :: sk) e h R = (vc2 C n c_slices_DeleteFunc_impl_Bar_impl_Bar_o7 sk e h R) := nr rfl
@[simp, simp ↓] theorem c_slices_DeleteFunc_impl_Bar_impl_Bar_13_r : vc2 C (n + 1) [] (.code c_slices_DeleteFunc_impl_Bar_impl_Bar_13 :: sk) e h R = (vc2 C n c_slices_DeleteFunc_impl_Bar_impl_Bar_o8 sk e h R) := nr rfl
@[simp, simp ↓] theorem c_slices_DeleteFunc_impl_Bar_impl_Bar_14_r : vc2 C (n + 1) [] (.code c_slices_DeleteFunc_impl_Bar_impl_Bar_14 :: sk) e h R = (vc2 C n c_slices_DeleteFunc_impl_Bar_impl_Bar_o9 sk e h R) := nr rfl
@[simp, simp ↓] theorem c_slices_DeleteFunc_impl_Bar_impl_Bar_15_r : vc2 C (n + 1) [] (.code c_slices_DeleteFunc_impl_Bar_impl_Bar_15 :: sk) e h R = (vc2 C n [] (.code c_slices_DeleteFunc_impl_Bar_impl_Bar_13 :: .code c_slices_DeleteFunc_impl_Bar_impl_Bar_14 :: sk) e h R) := nr rfl
@[simp, simp ↓] theorem c_slices_DeleteFunc_impl_Bar_impl_Bar_16_r : vc2 C (n + 1) [] (.code c_slices_DeleteFunc_impl_Bar_impl_Bar_16 :: sk) e h R = (condK (ev e (.t 29)) (vc2 C n [] (.code c_slices_DeleteFunc_impl_Bar_impl_Bar_15 :: sk) e h R) (vc2 C n [] (.code .skip :: sk) e h R)) := nr rfl
@[simp, simp ↓] theorem c_slices_DeleteFunc_impl_Bar_impl_Bar_17_r : vc2 C (n + 1) [] (.code c_slices_DeleteFunc_impl_Bar_impl_Bar_17 :: sk) e h R = (vc2 C n [] (.code c_slices_DeleteFunc_impl_Bar_impl_Bar_12 :: .code c_slices_DeleteFunc_impl_Bar_impl_Bar_16 :: sk) e h R) := nr rfl
@[simp, simp ↓] theorem c_slices_DeleteFunc_impl_Bar_impl_Bar_18_r : vc2 C (n + 1) [] (.code c_slices_DeleteFunc_impl_Bar_impl_Bar_18 :: sk) e h R = (vc2 C n [] (.code c_slices_DeleteFunc_impl_Bar_impl_Bar_11 :: .code c_slices_DeleteFunc_impl_Bar_impl_Bar_17 :: sk) e h R) := nr rfl
@[simp, simp ↓] theorem c_slices_DeleteFunc_impl_Bar_impl_Bar_19_r : vc2 C (n + 1) [] (.code c_slices_DeleteFunc_impl_Bar_impl_Bar_19 :: sk) e h R = (vc2 C n [] (.code c_slices_DeleteFunc_impl_Bar_impl_Bar_18 :: .inBlock 1 :: sk) e h R) := nr rfl
@[simp, simp ↓] theorem c_slices_DeleteFunc_impl_Bar_impl_Bar_20_r : vc2 C (n + 1) [] (.code c_slices_DeleteFunc_impl_Bar_impl_Bar_20 :: sk) e h R = (vc2 C n c_slices_DeleteFunc_impl_Bar_impl_Bar_o10 sk e h R) := nr rfl
@[simp, simp ↓] theorem c_slices_DeleteFunc_impl_Bar_impl_Bar_21_r : vc2 C (n + 1) [] (.code c_slices_DeleteFunc_impl_Bar_impl_Bar_21 :: sk) e h R = (vc2 C n [] (.code c_slices_DeleteFunc_impl_Bar_impl_Bar_19 :: .code c_slices_DeleteFunc_impl_Bar_impl_Bar_20 :: sk) e h R) := nr rfl
@[simp, simp ↓] theorem c_slices_DeleteFunc_impl_Bar_impl_Bar_22_r : vc2 C (n + 1) [] (.code c_slices_DeleteFunc_impl_Bar_impl_Bar_22 :: sk) e h R = (vc2 C n [] (.code c_slices_DeleteFunc_impl_Bar_impl_Bar_10 :: .code c_slices_DeleteFunc_impl_Bar_impl_Bar_21 :: sk) e h R) := nr rfl
@[simp, simp ↓] theorem c_slices_DeleteFunc_impl_Bar_impl_Bar_23_r : vc2 C (n + 1) [] (.code c_slices_DeleteFunc_impl_Bar_impl_Bar_23 :: sk) e h R = (Run2 C (.code c_slices_DeleteFunc_impl_Bar_impl_Bar_22 :: .inLoop c_slices_DeleteFunc_impl_Bar_impl_Bar_22 :: sk) e h R) := nr rfl
@[simp, simp ↓] theorem c_slices_DeleteFunc_impl_Bar_impl_Bar_24_r : vc2 C (n + 1) [] (.code c_slices_DeleteFunc_impl_Bar_impl_Bar_24 :: sk) e h R = (vc2 C n [] (.code c_slices_DeleteFunc_impl_Bar_impl_Bar_23 :: .inBlock 0 :: sk) e h R) := nr rfl
@[simp, simp ↓] theorem c_slices_DeleteFunc_impl_Bar_impl_Bar_25_r : vc2 C (n + 1) [] (.code c_slices_DeleteFunc_impl_Bar_impl_Bar_25 :: sk) e h R = (vc2 C n [] (.code c_slices_DeleteFunc_impl_Bar_impl_Bar_7 :: .code c_slices_DeleteFunc_impl_Bar_impl_Bar_24 :: sk) e h R) := nr rfl
@[simp, simp ↓] theorem c_slices_DeleteFunc_impl_Bar_impl_Bar_26_r : vc2 C (n + 1) [] (.code c_slices_DeleteFunc_impl_Bar_impl_Bar_26 :: sk) e h R = (vc2 C n c_slices_DeleteFunc_impl_Bar_impl_Bar_o11 sk e h R) := nr rfl
@[simp, simp ↓] theorem c_slices_DeleteFunc_impl_Bar_impl_Bar_27_r : vc2 C (n + 1) [] (.code c_slices_DeleteFunc_impl_Bar_impl_Bar_27 :: sk) e h R = (vc2 C n c_slices_DeleteFunc_impl_Bar_impl_Bar_o12 sk e h R) := nr rfl
@[simp, simp ↓] theorem c_slices_DeleteFunc_impl_Bar_impl_Bar_28_r : vc2 C (n + 1) [] (.code c_slices_DeleteFunc_impl_Bar_impl_Bar_28 :: sk) e h R = (vc2 C n [] (.code c_slices_DeleteFunc_impl_Bar_impl_Bar_27 :: .code .ret :: sk) e h R) := nr rfl
@[simp, simp ↓] theorem c_slices_DeleteFunc_impl_Bar_impl_Bar_29_r : vc2 C (n + 1) [] (.code c_slices_DeleteFunc_impl_Bar_impl_Bar_29 :: sk) e h R = (vc2 C n [] (.code c_slices_DeleteFunc_impl_Bar_impl_Bar_26 :: .code c_slices_DeleteFunc_impl_Bar_impl_Bar_28 :: sk) e h R) := nr rfl
@[simp, simp ↓] theorem c_slices_DeleteFunc_impl_Bar_impl_Bar_30_r : vc2 C (n + 1) [] (.code c_slices_DeleteFunc_impl_Bar_impl_Bar_30 :: sk) e h R = (vc2 C n [] (.code c_slices_DeleteFunc_impl_Bar_impl_Bar_25 :: .code c_slices_DeleteFunc_impl_Bar_impl_Bar_29 :: sk) e h R) := nr rfl
@[simp, simp ↓] theorem c_slices_DeleteFunc_impl_Bar_impl_Bar_31_r : vc2 C (n + 1) [] (.code c_slices_DeleteFunc_impl_Bar_impl_Bar_31 :: sk) e h R = (vc2 C n [] (.code c_slices_DeleteFunc_impl_Bar_impl_Bar_6 :: .code c_slices_DeleteFunc_impl_Bar_impl_Bar_30 :: sk) e h R) := nr rfl
@[simp, simp ↓] theorem c_slices_DeleteFunc_impl_Bar_impl_Bar_32_r : vc2 C (n + 1) [] (.code c_slices_DeleteFunc_impl_Bar_impl_Bar_32 :: sk) e h R = (vc2 C n [] (.code c_slices_DeleteFunc_impl_Bar_impl_Bar_1 :: .code c_slices_DeleteFunc_impl_Bar_impl_Bar_31 :: sk) e h R) := nr rfl
@[simp, simp ↓] theorem c_slices_DeleteFunc_impl_Bar_impl_Bar_33_r : vc2 C (n + 1) [] (.code c_slices_DeleteFunc_impl_Bar_impl_Bar_33 :: sk) e h R = (vc2 C n [] (.code c_slices_DeleteFunc_impl_Bar_impl_Bar_0 :: .code c_slices_DeleteFunc_impl_Bar_impl_Bar_32 :: sk) e h R) := nr rfl
end
noncomputable def c_slices_DeleteFunc_impl_Bar_impl_Bar_C (orc : Orc) : Cx := ⟨Try.prog, [7], 40, 42, [.tmp 4], orc⟩
@[simp] theorem c_slices_DeleteFunc_impl_Bar_impl_Bar_C_P (orc : Orc) : (c_slices_DeleteFunc_impl_Bar_impl_Bar_C orc).P = Try.prog := nr rfl
@[simp] theorem c_slices_DeleteFunc_impl_Bar_impl_Bar_C_o (orc : Orc) : (c_slices_DeleteFunc_impl_Bar_impl_Bar_C orc).orc = orc := nr rfl
@[simp] theorem c_slices_DeleteFunc_impl_Bar_impl_Bar_C_r (orc : Orc) : (c_slices_DeleteFunc_impl_Bar_impl_Bar_C orc).res = [.tmp 4] := nr rfl
theorem c_slices_DeleteFunc_impl_Bar_impl_Bar_of {args : List AV} {h : Heap} {R : AV → Heap → Prop} {k : Nat} (ha : args.length = k) {orc : Orc} (hp : Pure Try.prog orc) (hk : Is (c_slices_DeleteFunc_impl_Bar_impl_Bar_C orc) Try.f40 → Run2 (c_slices_DeleteFunc_impl_Bar_impl_Bar_C orc) [.code c_slices_DeleteFunc_impl_Bar_impl_Bar_33] (argEnv 0 args) h (Post R)) (hle : k ≤ 42 := by simp) : ACalls Try.prog 40 args h R :=
  contract2 [7] c_slices_DeleteFunc_impl_Bar_impl_Bar_33 [.tmp 4] Try.func40 (by decide +kernel) rfl (by kernel_rfl) (by rw [ha]; exact hle) (by kernel_rfl) hp hk
theorem c_slices_DeleteFunc_impl_Bar_impl_Bar_of0 {args : List AV} {h : Heap} {R : AV → Heap → Prop} {k : Nat} (ha : args.length = k) {orc : Orc} (hp : Pure Try.prog orc) (hk : Is (c_slices_DeleteFunc_impl_Bar_impl_Bar_C orc) Try.f40 → Run2 (c_slices_DeleteFunc_impl_Bar_impl_Bar_C orc) [.code c_slices_DeleteFunc_impl_Bar_impl_Bar_33] (argEnv 0 args) h R) (hle : k ≤ 42 := by simp) : ACalls Try.prog 40 args h R :=
  contract20 [7] c_slices_DeleteFunc_impl_Bar_impl_Bar_33 [.tmp 4] Try.func40 (by decide +kernel) rfl (by kernel_rfl) (by rw [ha]; exact hle) (by kernel_rfl) hp hk
/-- What is left of the first j when those are taken out. -/
theorem filt_succ (q : T → Bool) (l : List T) {j : Nat} (hj : j < l.length) : (l.take (j + 1)).filter (fun x => !q x) = (l.take j).filter (fun x => !q x) ++ if q l[j] then [] else [l[j]] := by
  rw [List.take_succ_eq_append_getElem hj, List.filter_append]
  congr 1
  by_cases h : q l[j] = true <;> simp [h]
/-- What stands in the block while those are taken out: i of the first j are left. -/
structure DInv (q : T → Bool) (l A : List T) (i j : Nat) : Prop where
  lt : i < j
  le : j ≤ l.length
  len : A.length = l.length
  left : A.take i = (l.take j).filter (fun x => !q x)
  rest : ∀ k, j ≤ k → A[k]? = l[k]?
theorem DInv.skip {q : T → Bool} {l A : List T} {i j : Nat} (D : DInv q l A i j) (hj : j < l.length) (h : q l[j] = true) : DInv q l A i (j + 1) :=
  ⟨by have := D.lt; omega, hj, D.len, by rw [D.left, filt_succ q l hj, h]; simp, fun k hk => D.rest k (by omega)⟩
theorem DInv.put {q : T → Bool} {l A : List T} {i j : Nat} (D : DInv q l A i j) (hj : j < l.length) (h : q l[j] = false) : DInv q l (A.set i l[j]) (i + 1) (j + 1) := by
  have h1 := D.lt
  have h2 := D.len
  refine ⟨by omega, hj, by simp [D.len], ?_, fun k hk => ?_⟩
  · rw [filt_succ q l hj, h, ← D.left]
    have hi : i < (A.set i l[j]).length := by simp; omega
    rw [List.take_succ_eq_append_getElem hi, List.take_set_of_le (Nat.le_refl _)]
    simp
  · rw [List.getElem?_set_ne (by omega)]
    exact D.rest k (by omega)
theorem DeleteFuncB_o {w : AV} {l : List T} {hp : Heap} (G : Grow 3 w (l.map T.av) hp) (g : FuncId) (caps : List AV) (q : T → Bool) (hl : l.length ≤ 1048576) (hc : colds caps = true) (hq : ∀ a ∈ l, ∀ h, ACalls Try.prog g (a.av :: caps) h (fun v h' => v = .bool (q a) ∧ h' = h)) :
    ACalls Try.prog 40 [w, .fn g caps] hp (fun v h' => OwnL T.av 3 v (l.filter fun x => !q x) h') := by
  have hO := G.own
  have hfn : cold (.fn g caps) = true := by simpa [cold] using hc
  refine c_slices_DeleteFunc_impl_Bar_impl_Bar_of0 rfl noPure fun I => ?_
  refine Run2.of I 1000 ?_
  simp -implicitDefEqProofs
  refine (ACalls.reads hp (fun p hp => hp) (v0 := .int .i64 (idxf q l)) ?_ rfl).mono ?_
  · rw [lend_cons, lend_cons, lend_nil', lend1_cold hp hfn]
    exact ACalls.wk (.cons hO.lent.wk (.refl _)) (IndexFuncB_s l g caps q [] hl fun a ha => hq a ha [])
  rintro v h' ⟨rfl, rfl⟩
  refine gK.go ?_
  rcases idxf_cases q l with ⟨e1, e2⟩ | ⟨i0, hi0, e1, e2, e3⟩
  · simp -implicitDefEqProofs [e1]
    rw [e2]; exact hO
  · rw [e1]
    generalize hm : l.map T.av = m at G
    cases G with
    | nil => simp at hm; subst hm; simp at hi0
    | emp => simp at hm; subst hm; simp at hi0
    | sl id m n hn =>
      subst hm
      simp only [List.length_map] at hn
      subst hn
      simp -implicitDefEqProofs
      refine ⟨by omega, ?_⟩
      refine Run2.loopE (α := Nat × Nat × List T) (fun s => [(0, .sl id 3 0 l.length none), (1, .fn g caps), (5, .int .i64 (s.1 : Nat)), (6, .int .i64 (s.2.1 : Nat))]) (fun s => [(id, ⟨3, s.2.2.map T.av⟩)]) (fun s => l.length - s.2.1) (fun s => DInv q l s.2.2 s.1 s.2.1) (i0, i0 + 1, l) (by simp) rfl ⟨by simp, by simp; omega, rfl, e3.symm, fun _ _ => rfl⟩ ?_
      rintro ⟨i, j, A⟩ D ih
      have d1 := D.lt
      have d2 := D.len
      have d3 := D.le
      simp only at d1 d2 d3
      by_cases hlt : j < l.length
      · have go1 := fun h => ih (i, j + 1, A) (D.skip hlt h) (by simp; omega)
        have go2 := fun h => ih (i + 1, j + 1, A.set i l[j]) (D.put hlt h) (by simp; omega)
        clear ih
        have hAj : j < A.length := by omega
        have hA : A[j] = l[j] := by
          have := D.rest j (Nat.le_refl _)
          simp only at this
          rwa [List.getElem?_eq_getElem hAj, List.getElem?_eq_getElem hlt, Option.some_inj] at this
        have hq' := hq _ (List.getElem_mem hlt) [(id, ⟨3, A.map T.av⟩)]
        have hAi : i < A.length := by omega
        have hil : i < l.length := by omega
        refine Run2.of I 1000 ?_
        simp -implicitDefEqProofs [hlt, hAj, hA, hAi, hil]
        refine ACalls.mono (by simpa using hq') ?_
        rintro v h' ⟨rfl, rfl⟩
        refine gK.go ?_
        simp -implicitDefEqProofs [hlt, hAj, hA, hAi, hil]
        refine ⟨fun h => ⟨by omega, by omega, ?_⟩, fun h => ⟨by omega, ?_⟩⟩
        · simpa [List.map_set] using go2 h
        · simpa using go1 h
      · have hj : j = l.length := by omega
        subst hj
        have hleft := D.left
        simp only [List.take_length] at hleft
        have hlen : (l.filter fun x => !q x).length = i := by rw [← hleft]; simp; omega
        refine Run2.of I 1000 ?_
        simp -implicitDefEqProofs [d2]
        refine ⟨by omega, by omega, by omega, ?_⟩
        have := OwnL.sl (enc := T.av) (sz := 3) (l := l.filter fun x => !q x) id none (List.replicate (l.length - i) tz) (by simp; exact .inr rfl)
        rw [hlen] at this
        rw [← List.map_take, hleft, List.drop_of_length_le (by simp; omega), List.append_nil]
        exact this
/-- A function on bars that only reads. -/
def Tells (P : Program) (f : AV) (k : T → Bool) : Prop := ∃ g caps, f = .fn g caps ∧ colds caps = true ∧ ∀ a h, ACalls P g (a.av :: caps) h (fun v h' => v = .bool (k a) ∧ h' = h)
abbrev c_impl_isFinite_o0 : List AJ := [.o ⟨(some 1), none, false, .box false 3 (.t 0), none⟩, .o ⟨(some 2), none, false, .mv (.c (.bool false)), (some [1])⟩]
def c_impl_isFinite_0 : ACode := .region c_impl_isFinite_o0
abbrev c_impl_isFinite_o1 : List AJ := [.o ⟨(some 3), none, false, .fieldA 2 (.t 1), none⟩, .o ⟨(some 4), none, false, .load 1 false (.t 3), none⟩, .o ⟨(some 5), none, false, .bin .neq (.t 4) (.c (.int .i64 (-1))), none⟩, .o ⟨(some 2), none, false, .mv (.t 5), (some [2])⟩]
def c_impl_isFinite_1 : ACode := .region c_impl_isFinite_o1
def c_impl_isFinite_2 : ACode := .seq c_impl_isFinite_1 .ret
def c_impl_isFinite_3 : ACode := .seq c_impl_isFinite_0 c_impl_isFinite_2
section
variable (C : Cx) (n : Nat) (sk : List AItem) (e : Env) (h : Heap) (R : AV → Heap → Prop)
@[simp, simp ↓] theorem c_impl_isFinite_0_r : vc2 C (n + 1) [] (.code c_impl_isFinite_0 :: sk) e h R = (vc2 C n c_impl_isFinite_o0 sk e h R) := nr rfl
@[simp, simp ↓] theorem c_impl_isFinite_1_r : vc2 C (n + 1) [] (.code c_impl_isFinite_1 :: sk) e h R = (vc2 C n c_impl_isFinite_o1 sk e h R) := nr rfl
@[simp, simp ↓] theorem c_impl_isFinite_2_r : vc2 C (n + 1) [] (.code c_impl_isFinite_2 :: sk) e h R = (vc2 C n [] (.code c_impl_isFinite_1 :: .code .ret :: sk) e h R) := nr rfl
@[simp, simp ↓] theorem c_impl_isFinite_3_r : vc2 C (n + 1) [] (.code c_impl_isFinite_3 :: sk) e h R = (vc2 C n [] (.code c_impl_isFinite_0 :: .code c_impl_isFinite_2 :: sk) e h R) := nr rfl
end
noncomputable def c_impl_isFinite_C (orc : Orc) : Cx := ⟨Try.prog, [], 39, 6, [.tmp 2], orc⟩
@[simp] theorem c_impl_isFinite_C_P (orc : Orc) : (c_impl_isFinite_C orc).P = Try.prog := nr rfl
@[simp] theorem c_impl_isFinite_C_o (orc : Orc) : (c_impl_isFinite_C orc).orc = orc := nr rfl
@[simp] theorem c_impl_isFinite_C_r (orc : Orc) : (c_impl_isFinite_C orc).res = [.tmp 2] := nr rfl
theorem c_impl_isFinite_of {args : List AV} {h : Heap} {R : AV → Heap → Prop} {k : Nat} (ha : args.length = k) {orc : Orc} (hp : Pure Try.prog orc) (hk : Is (c_impl_isFinite_C orc) Try.f39 → Run2 (c_impl_isFinite_C orc) [.code c_impl_isFinite_3] (argEnv 0 args) h (Post R)) (hle : k ≤ 6 := by simp) : ACalls Try.prog 39 args h R :=
  contract2 [] c_impl_isFinite_3 [.tmp 2] Try.func39 (by decide +kernel) rfl (by kernel_rfl) (by rw [ha]; exact hle) (by kernel_rfl) hp hk
theorem c_impl_isFinite_of0 {args : List AV} {h : Heap} {R : AV → Heap → Prop} {k : Nat} (ha : args.length = k) {orc : Orc} (hp : Pure Try.prog orc) (hk : Is (c_impl_isFinite_C orc) Try.f39 → Run2 (c_impl_isFinite_C orc) [.code c_impl_isFinite_3] (argEnv 0 args) h R) (hle : k ≤ 6 := by simp) : ACalls Try.prog 39 args h R :=
  contract20 [] c_impl_isFinite_3 [.tmp 2] Try.func39 (by decide +kernel) rfl (by kernel_rfl) (by rw [ha]; exact hle) (by kernel_rfl) hp hk
theorem isFinite_c (x : T) (h : Heap) : ACalls Try.prog 39 [x.av] h (fun v h' => v = .bool (!decide (x.s = -1)) ∧ h' = h) := by
  refine c_impl_isFinite_of0 rfl noPure fun I => ?_
  refine Run2.of I 1000 ?_
  simp -implicitDefEqProofs
theorem isFinite_t : Tells Try.prog (.fn 39 []) (fun x => !decide (x.s = -1)) := ⟨_, _, rfl, rfl, isFinite_c⟩
noncomputable def o_isFinite : List AV → Option (Prop × AV) := tab (fun (x : Int × Int × Int) => match x with | (f, t, s) => [.agg [.int .i64 f, .int .i64 t, .int .i64 s]]) (fun x => match x with | (f, t, s) => True) (fun x => match x with | (f, t, s) => .bool (!decide (s = -1)))
@[simp] theorem o_isFinite_e (f : Int) (t : Int) (s : Int) : o_isFinite [.agg [.int .i64 f, .int .i64 t, .int .i64 s]] = some (True, .bool (!decide (s = -1))) := tab_at (enc := fun (x : Int × Int × Int) => match x with | (f, t, s) => [.agg [.int .i64 f, .int .i64 t, .int .i64 s]]) (fun x y h => by
  obtain ⟨f1, t1, s1⟩ := x; obtain ⟨f2, t2, s2⟩ := y; simp at h; simp [h]) _ _ (f, t, s)
theorem o_isFinite_k : Knows Try.prog 39 o_isFinite := tab_knows fun x hx h => by
  obtain ⟨f, t, s⟩ := x; exact isFinite_c ⟨f, t, s⟩ h
abbrev c_impl_isForever_o0 : List AJ := [.o ⟨(some 1), none, false, .box false 3 (.t 0), none⟩, .o ⟨(some 2), none, false, .mv (.c (.bool false)), (some [1])⟩]
def c_impl_isForever_0 : ACode := .region c_impl_isForever_o0
abbrev c_impl_isForever_o1 : List AJ := [.o ⟨(some 3), none, false, .fieldA 2 (.t 1), none⟩, .o ⟨(some 4), none, false, .load 1 false (.t 3), none⟩, .o ⟨(some 5), none, false, .bin .eql (.t 4) (.c (.int .i64 (-1))), none⟩, .o ⟨(some 2), none, false, .mv (.t 5), (some [2])⟩]
def c_impl_isForever_1 : ACode := .region c_impl_isForever_o1
def c_impl_isForever_2 : ACode := .seq c_impl_isForever_1 .ret
def c_impl_isForever_3 : ACode := .seq c_impl_isForever_0 c_impl_isForever_2
section
variable (C : Cx) (n : Nat) (sk : List AItem) (e : Env) (h : Heap) (R : AV → Heap → Prop)
@[simp, simp ↓] theorem c_impl_isForever_0_r : vc2 C (n + 1) [] (.code c_impl_isForever_0 :: sk) e h R = (vc2 C n c_impl_isForever_o0 sk e h R) := nr rfl
@[simp, simp ↓] theorem c_impl_isForever_1_r : vc2 C (n + 1) [] (.code c_impl_isForever_1 :: sk) e h R = (vc2 C n c_impl_isForever_o1 sk e h R) := nr rfl
@[simp, simp ↓] theorem c_impl_isForever_2_r : vc2 C (n + 1) [] (.code c_impl_isForever_2 :: sk) e h R = (vc2 C n [] (.code c_impl_isForever_1 :: .code .ret :: sk) e h R) := nr rfl
@[simp, simp ↓] theorem c_impl_isForever_3_r : vc2 C (n + 1) [] (.code c_impl_isForever_3 :: sk) e h R = (vc2 C n [] (.code c_impl_isForever_0 :: .code c_impl_isForever_2 :: sk) e h R) := nr rfl
end
noncomputable def c_impl_isForever_C (orc : Orc) : Cx := ⟨Try.prog, [], 50, 6, [.tmp 2], orc⟩
@[simp] theorem c_impl_isForever_C_P (orc : Orc) : (c_impl_isForever_C orc).P = Try.prog := nr rfl
@[simp] theorem c_impl_isForever_C_o (orc : Orc) : (c_impl_isForever_C orc).orc = orc := nr rfl
@[simp] theorem c_impl_isForever_C_r (orc : Orc) : (c_impl_isForever_C orc).res = [.tmp 2] := nr rfl
theorem c_impl_isForever_of {args : List AV} {h : Heap} {R : AV → Heap → Prop} {k : Nat} (ha : args.length = k) {orc : Orc} (hp : Pure Try.prog orc) (hk : Is (c_impl_isForever_C orc) Try.f50 → Run2 (c_impl_isForever_C orc) [.code c_impl_isForever_3] (argEnv 0 args) h (Post R)) (hle : k ≤ 6 := by simp) : ACalls Try.prog 50 args h R :=
  contract2 [] c_impl_isForever_3 [.tmp 2] Try.func50 (by decide +kernel) rfl (by kernel_rfl) (by rw [ha]; exact hle) (by kernel_rfl) hp hk
theorem c_impl_isForever_of0 {args : List AV} {h : Heap} {R : AV → Heap → Prop} {k : Nat} (ha : args.length = k) {orc : Orc} (hp : Pure Try.prog orc) (hk : Is (c_impl_isForever_C orc) Try.f50 → Run2 (c_impl_isForever_C orc) [.code c_impl_isForever_3] (argEnv 0 args) h R) (hle : k ≤ 6 := by simp) : ACalls Try.prog 50 args h R :=
  contract20 [] c_impl_isForever_3 [.tmp 2] Try.func50 (by decide +kernel) rfl (by kernel_rfl) (by rw [ha]; exact hle) (by kernel_rfl) hp hk
theorem isForever_c (x : T) (h : Heap) : ACalls Try.prog 50 [x.av] h (fun v h' => v = .bool (decide (x.s = -1)) ∧ h' = h) := by
  refine c_impl_isForever_of0 rfl noPure fun I => ?_
  refine Run2.of I 1000 ?_
  simp -implicitDefEqProofs
theorem isForever_t : Tells Try.prog (.fn 50 []) (fun x => decide (x.s = -1)) := ⟨_, _, rfl, rfl, isForever_c⟩
abbrev c_impl_ofDegree_1_o0 : List AJ := [.o ⟨(some 3), none, false, .box false 3 (.t 0), none⟩, .o ⟨(some 4), none, false, .mv (.c (.bool false)), (some [1, 2, 3])⟩]
def c_impl_ofDegree_1_0 : ACode := .region c_impl_ofDegree_1_o0
abbrev c_impl_ofDegree_1_o1 : List AJ := [.o ⟨(some 5), none, false, .fieldA 0 (.t 3), none⟩, .o ⟨(some 6), none, false, .load 1 false (.t 5), none⟩, .o ⟨(some 7), none, false, .load 1 false (.t 1), none⟩, .o ⟨(some 8), none, false, .bin .neq (.t 6) (.t 7), none⟩, .o ⟨(some 9), none, false, .mv (.t 8), none⟩, .o ⟨(some 10), (some (9, false)), false, .load 1 false (.t 2), none⟩, .o ⟨(some 11), (some (9, false)), false, .load 3 true (.t 3), none⟩, .o ⟨(some 12), (some (9, false)), false, .callv (.t 10) [(.t 11)], none⟩, .o ⟨(some 13), (some (9, false)), false, .un .not (.t 12), none⟩, .o ⟨(some 14), none, false, .pick (.t 9) (.c (.bool true)) (.t 13), (some [14])⟩, .o ⟨(some 4), none, false, .mv (.t 14), (some [4])⟩]
def c_impl_ofDegree_1_1 : ACode := .region c_impl_ofDegree_1_o1
def c_impl_ofDegree_1_2 : ACode := .seq c_impl_ofDegree_1_1 .ret
def c_impl_ofDegree_1_3 : ACode := .seq c_impl_ofDegree_1_0 c_impl_ofDegree_1_2
section
variable (C : Cx) (n : Nat) (sk : List AItem) (e : Env) (h : Heap) (R : AV → Heap → Prop)
@[simp, simp ↓] theorem c_impl_ofDegree_1_0_r : vc2 C (n + 1) [] (.code c_impl_ofDegree_1_0 :: sk) e h R = (vc2 C n c_impl_ofDegree_1_o0 sk e h R) := nr rfl
@[simp, simp ↓] theorem c_impl_ofDegree_1_1_r : vc2 C (n + 1) [] (.code c_impl_ofDegree_1_1 :: sk) e h R = (vc2 C n c_impl_ofDegree_1_o1 sk e h R) := nr rfl
@[simp, simp ↓] theorem c_impl_ofDegree_1_2_r : vc2 C (n + 1) [] (.code c_impl_ofDegree_1_2 :: sk) e h R = (vc2 C n [] (.code c_impl_ofDegree_1_1 :: .code .ret :: sk) e h R) := nr rfl
@[simp, simp ↓] theorem c_impl_ofDegree_1_3_r : vc2 C (n + 1) [] (.code c_impl_ofDegree_1_3 :: sk) e h R = (vc2 C n [] (.code c_impl_ofDegree_1_0 :: .code c_impl_ofDegree_1_2 :: sk) e h R) := nr rfl
end
noncomputable def c_impl_ofDegree_1_C (orc : Orc) : Cx := ⟨Try.prog, [], 57, 15, [.tmp 4], orc⟩
@[simp] theorem c_impl_ofDegree_1_C_P (orc : Orc) : (c_impl_ofDegree_1_C orc).P = Try.prog := nr rfl
@[simp] theorem c_impl_ofDegree_1_C_o (orc : Orc) : (c_impl_ofDegree_1_C orc).orc = orc := nr rfl
@[simp] theorem c_impl_ofDegree_1_C_r (orc : Orc) : (c_impl_ofDegree_1_C orc).res = [.tmp 4] := nr rfl
theorem c_impl_ofDegree_1_of {args : List AV} {h : Heap} {R : AV → Heap → Prop} {k : Nat} (ha : args.length = k) {orc : Orc} (hp : Pure Try.prog orc) (hk : Is (c_impl_ofDegree_1_C orc) Try.f57 → Run2 (c_impl_ofDegree_1_C orc) [.code c_impl_ofDegree_1_3] (argEnv 0 args) h (Post R)) (hle : k ≤ 15 := by simp) : ACalls Try.prog 57 args h R :=
  contract2 [] c_impl_ofDegree_1_3 [.tmp 4] Try.func57 (by decide +kernel) rfl (by kernel_rfl) (by rw [ha]; exact hle) (by kernel_rfl) hp hk
theorem c_impl_ofDegree_1_of0 {args : List AV} {h : Heap} {R : AV → Heap → Prop} {k : Nat} (ha : args.length = k) {orc : Orc} (hp : Pure Try.prog orc) (hk : Is (c_impl_ofDegree_1_C orc) Try.f57 → Run2 (c_impl_ofDegree_1_C orc) [.code c_impl_ofDegree_1_3] (argEnv 0 args) h R) (hle : k ≤ 15 := by simp) : ACalls Try.prog 57 args h R :=
  contract20 [] c_impl_ofDegree_1_3 [.tmp 4] Try.func57 (by decide +kernel) rfl (by kernel_rfl) (by rw [ha]; exact hle) (by kernel_rfl) hp hk
theorem ofDegree1_t (d : Int) {f : AV} {k : T → Bool} (hf : Tells Try.prog f k) : Tells Try.prog (.fn 57 [.ip [.int .i64 d], .ip [f]]) (fun x => !decide (x.f = d) || !k x) := by
  obtain ⟨g, caps, rfl, hc, hk⟩ := hf
  refine ⟨_, _, rfl, by simp [colds, cold, hc], fun a h => ?_⟩
  refine c_impl_ofDegree_1_of0 rfl noPure fun I => ?_
  have hk' := hk a h
  obtain ⟨f0, t0, s0⟩ := a
  by_cases h1 : f0 = d
  · subst h1
    refine Run2.of I 1000 ?_
    simp -implicitDefEqProofs
    refine ACalls.mono (by simpa using hk') ?_
    rintro v h' ⟨rfl, rfl⟩
    refine gK.go ?_
    simp -implicitDefEqProofs
  · refine Run2.of I 1000 ?_
    simp -implicitDefEqProofs [h1]
abbrev c_impl_ofDegree_o0 : List AJ := [.o ⟨(some 4), none, false, .box false 1 (.t 1), none⟩, .o ⟨(some 5), none, false, .box false 1 (.t 2), none⟩, .o ⟨(some 6), none, false, .mv (.c .nilsl), (some [0, 4, 5])⟩]
def c_impl_ofDegree_0 : ACode := .region c_impl_ofDegree_o0
abbrev c_impl_ofDegree_o1 : List AJ := [.o ⟨(some 7), none, false, .mv (.t 0), none⟩, .o ⟨(some 8), none, false, .call 41 [(.t 7)], none⟩, .o ⟨(some 9), none, false, .mkfn 57 [(.t 4), (.t 5)], none⟩, .o ⟨(some 10), none, false, .call 40 [(.t 8), (.t 9)], none⟩, .o ⟨(some 6), none, false, .mv (.t 10), (some [6])⟩]
def c_impl_ofDegree_1 : ACode := .region c_impl_ofDegree_o1
def c_impl_ofDegree_2 : ACode := .seq c_impl_ofDegree_1 .ret
def c_impl_ofDegree_3 : ACode := .seq c_impl_ofDegree_0 c_impl_ofDegree_2
section
variable (C : Cx) (n : Nat) (sk : List AItem) (e : Env) (h : Heap) (R : AV → Heap → Prop)
@[simp, simp ↓] theorem c_impl_ofDegree_0_r : vc2 C (n + 1) [] (.code c_impl_ofDegree_0 :: sk) e h R = (vc2 C n c_impl_ofDegree_o0 sk e h R) := nr rfl
@[simp, simp ↓] theorem c_impl_ofDegree_1_r : vc2 C (n + 1) [] (.code c_impl_ofDegree_1 :: sk) e h R = (vc2 C n c_impl_ofDegree_o1 sk e h R) := nr rfl
@[simp, simp ↓] theorem c_impl_ofDegree_2_r : vc2 C (n + 1) [] (.code c_impl_ofDegree_2 :: sk) e h R = (vc2 C n [] (.code c_impl_ofDegree_1 :: .code .ret :: sk) e h R) := nr rfl
@[simp, simp ↓] theorem c_impl_ofDegree_3_r : vc2 C (n + 1) [] (.code c_impl_ofDegree_3 :: sk) e h R = (vc2 C n [] (.code c_impl_ofDegree_0 :: .code c_impl_ofDegree_2 :: sk) e h R) := nr rfl
end
noncomputable def c_impl_ofDegree_C (orc : Orc) : Cx := ⟨Try.prog, [], 36, 11, [.tmp 6], orc⟩
@[simp] theorem c_impl_ofDegree_C_P (orc : Orc) : (c_impl_ofDegree_C orc).P = Try.prog := nr rfl
@[simp] theorem c_impl_ofDegree_C_o (orc : Orc) : (c_impl_ofDegree_C orc).orc = orc := nr rfl
@[simp] theorem c_impl_ofDegree_C_r (orc : Orc) : (c_impl_ofDegree_C orc).res = [.tmp 6] := nr rfl
theorem c_impl_ofDegree_of {args : List AV} {h : Heap} {R : AV → Heap → Prop} {k : Nat} (ha : args.length = k) {orc : Orc} (hp : Pure Try.prog orc) (hk : Is (c_impl_ofDegree_C orc) Try.f36 → Run2 (c_impl_ofDegree_C orc) [.code c_impl_ofDegree_3] (argEnv 0 args) h (Post R)) (hle : k ≤ 11 := by simp) : ACalls Try.prog 36 args h R :=
  contract2 [] c_impl_ofDegree_3 [.tmp 6] Try.func36 (by decide +kernel) rfl (by kernel_rfl) (by rw [ha]; exact hle) (by kernel_rfl) hp hk
theorem c_impl_ofDegree_of0 {args : List AV} {h : Heap} {R : AV → Heap → Prop} {k : Nat} (ha : args.length = k) {orc : Orc} (hp : Pure Try.prog orc) (hk : Is (c_impl_ofDegree_C orc) Try.f36 → Run2 (c_impl_ofDegree_C orc) [.code c_impl_ofDegree_3] (argEnv 0 args) h R) (hle : k ≤ 11 := by simp) : ACalls Try.prog 36 args h R :=
  contract20 [] c_impl_ofDegree_3 [.tmp 6] Try.func36 (by decide +kernel) rfl (by kernel_rfl) (by rw [ha]; exact hle) (by kernel_rfl) hp hk
theorem ofDegree_o (l : List T) (d : Int) {f : AV} {k : T → Bool} (hl : l.length ≤ 1048576) (hf : Tells Try.prog f k) : ACalls Try.prog 36 [.snap 3 (l.map T.av), .int .i64 d, f] [] (fun v h' => OwnL T.av 3 v (l.filter fun x => decide (x.f = d) && k x) h') := by
  obtain ⟨g, caps, hfe, hc, hk⟩ := ofDegree1_t d hf
  obtain ⟨g', caps', rfl, hc', hk'⟩ := hf
  refine c_impl_ofDegree_of0 rfl noPure fun I => ?_
  refine Run2.of I 1000 ?_
  simp -implicitDefEqProofs
  refine (CloneB_w l [] hl).mono ?_
  rintro v h' ⟨hp, G, rfl⟩
  refine gK.go ?_
  have hG := G.cell
  simp -implicitDefEqProofs [hG]
  have := DeleteFuncB_o G g caps _ hl hc fun a _ h => hk a h
  try simp only [List.append_nil]
  rw [← hfe] at this
  refine this.mono ?_
  intro v h' ho
  refine gK.go ?_
  simp -implicitDefEqProofs
  have e : (fun x : T => !(!decide (x.f = d) || !k x)) = fun x => decide (x.f = d) && k x := by funext x; simp
  rw [e] at ho
  exact ho
theorem ofDegree_w (l : List T) (d : Int) {f : AV} {k : T → Bool} (h : Heap) (hl : l.length ≤ 1048576) (hf : Tells Try.prog f k) : ACalls Try.prog 36 [.snap 3 (l.map T.av), .int .i64 d, f] h (fun v h'' => ∃ h', OwnL T.av 3 v (l.filter fun x => decide (x.f = d) && k x) h' ∧ (∀ i ∈ dom h', i ∉ dom h) ∧ h'' = h' ++ h) :=
  ACalls.gives [] (by simp) (by simpa [lend] using ofDegree_o l d hl hf) fun v h' o => o.own T.own
end Go.AG
