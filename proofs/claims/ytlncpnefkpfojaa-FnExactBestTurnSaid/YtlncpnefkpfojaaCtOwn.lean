/- A copy of numbers, as the reference makes it. No statement is made here. -/
import Derived.Test.YtlncpnefkpfojaaCtR2
namespace Go.AG
open Go.Proofs Go.Proofs.Ytlncpnefkpfojaa
set_option linter.unusedSimpArgs false
set_option linter.unusedVariables false
set_option maxRecDepth 4000
abbrev c_spec_l00Own_o0 : List AJ := [.o ⟨(some 2), none, false, .mv (.c .nilsl), (some [0])⟩]
def c_spec_l00Own_0 : ACode := .region c_spec_l00Own_o0
abbrev c_spec_l00Own_o1 : List AJ := [.e 3 1 none, .o ⟨(some 4), none, false, .mv (.t 0), none⟩, .o ⟨(some 5), none, false, .append 1 8 (.t 3) (.t 4), none⟩, .o ⟨(some 2), none, false, .mv (.t 5), (some [2])⟩]
def c_spec_l00Own_1 : ACode := .region c_spec_l00Own_o1
def c_spec_l00Own_2 : ACode := .seq c_spec_l00Own_1 .ret
def c_spec_l00Own_3 : ACode := .seq c_spec_l00Own_0 c_spec_l00Own_2
section
variable (C : Cx) (n : Nat) (sk : List AItem) (e : Env) (h : Heap) (R : AV → Heap → Prop)
@[simp, simp ↓] theorem c_spec_l00Own_0_r : vc2 C (n + 1) [] (.code c_spec_l00Own_0 :: sk) e h R = (vc2 C n c_spec_l00Own_o0 sk e h R) := nr rfl
@[simp, simp ↓] theorem c_spec_l00Own_1_r : vc2 C (n + 1) [] (.code c_spec_l00Own_1 :: sk) e h R = (vc2 C n c_spec_l00Own_o1 sk e h R) := nr rfl
@[simp, simp ↓] theorem c_spec_l00Own_2_r : vc2 C (n + 1) [] (.code c_spec_l00Own_2 :: sk) e h R = (vc2 C n [] (.code c_spec_l00Own_1 :: .code .ret :: sk) e h R) := nr rfl
@[simp, simp ↓] theorem c_spec_l00Own_3_r : vc2 C (n + 1) [] (.code c_spec_l00Own_3 :: sk) e h R = (vc2 C n [] (.code c_spec_l00Own_0 :: .code c_spec_l00Own_2 :: sk) e h R) := nr rfl
end
noncomputable def c_spec_l00Own_C (orc : Orc) : Cx := ⟨Try.prog, [3], 71, 6, [.tmp 2], orc⟩
@[simp] theorem c_spec_l00Own_C_P (orc : Orc) : (c_spec_l00Own_C orc).P = Try.prog := nr rfl
@[simp] theorem c_spec_l00Own_C_o (orc : Orc) : (c_spec_l00Own_C orc).orc = orc := nr rfl
@[simp] theorem c_spec_l00Own_C_r (orc : Orc) : (c_spec_l00Own_C orc).res = [.tmp 2] := nr rfl
theorem c_spec_l00Own_of {args : List AV} {h : Heap} {R : AV → Heap → Prop} {k : Nat} (ha : args.length = k) {orc : Orc} (hp : Pure Try.prog orc) (hk : Is (c_spec_l00Own_C orc) Try.f71 → Run2 (c_spec_l00Own_C orc) [.code c_spec_l00Own_3] (argEnv 0 args) h (Post R)) (hle : k ≤ 6 := by simp) : ACalls Try.prog 71 args h R :=
  contract2 [3] c_spec_l00Own_3 [.tmp 2] Try.func71 (by decide +kernel) rfl (by kernel_rfl) (by rw [ha]; exact hle) (by kernel_rfl) hp hk
theorem c_spec_l00Own_of0 {args : List AV} {h : Heap} {R : AV → Heap → Prop} {k : Nat} (ha : args.length = k) {orc : Orc} (hp : Pure Try.prog orc) (hk : Is (c_spec_l00Own_C orc) Try.f71 → Run2 (c_spec_l00Own_C orc) [.code c_spec_l00Own_3] (argEnv 0 args) h R) (hle : k ≤ 6 := by simp) : ACalls Try.prog 71 args h R :=
  contract20 [3] c_spec_l00Own_3 [.tmp 2] Try.func71 (by decide +kernel) rfl (by kernel_rfl) (by rw [ha]; exact hle) (by kernel_rfl) hp hk
theorem l00Own_g (l : List Int) (h : Heap) (hl : l.length ≤ 1048576) : ACalls Try.prog 71 [.snap 1 (l.map iv)] h (fun v h' => ∃ hp, Grow 1 v (l.map iv) hp ∧ h' = hp ++ h) := by
  refine c_spec_l00Own_of0 rfl noPure fun I => ?_
  cases l with
  | nil =>
    refine Run2.of I 1000 ?_
    simp -implicitDefEqProofs
    exact .emp
  | cons a l =>
    refine Run2.of I 1000 ?_
    simp -implicitDefEqProofs
    refine ⟨by simp at hl; omega, fun id hid => ⟨[(id, _)], .sl id _ _ (by simp), rfl⟩⟩
end Go.AG
