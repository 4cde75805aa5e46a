/- The law FnExactValidBars is true for every input: the program's ValidBars returns what the reference's returns. -/
import Derived.Test.YtdgahpcgenlcjaaBrVal
namespace Go.AG
open Go.Proofs Go.Proofs.Ytdgahpcgenlcjaa
set_option linter.unusedSimpArgs false
set_option linter.unusedVariables false
set_option maxRecDepth 4000
abbrev c_spec_ValidBars_o0 : List AJ := [.o ⟨(some 2), none, false, .mv (.c (.bool false)), (some [0])⟩]
def c_spec_ValidBars_0 : ACode := .region c_spec_ValidBars_o0
abbrev c_spec_ValidBars_o1 : List AJ := [.o ⟨(some 3), none, false, .mv (.t 0), none⟩, .o ⟨(some 4), none, false, .call 27 [(.t 3)], none⟩, .o ⟨(some 2), none, false, .mv (.t 4), (some [2])⟩]
def c_spec_ValidBars_1 : ACode := .region c_spec_ValidBars_o1
def c_spec_ValidBars_2 : ACode := .seq c_spec_ValidBars_1 .ret
def c_spec_ValidBars_3 : ACode := .seq c_spec_ValidBars_0 c_spec_ValidBars_2
section
variable (C : Cx) (n : Nat) (sk : List AItem) (e : Env) (h : Heap) (R : AV → Heap → Prop)
@[simp, simp ↓] theorem c_spec_ValidBars_0_r : vc2 C (n + 1) [] (.code c_spec_ValidBars_0 :: sk) e h R = (vc2 C n c_spec_ValidBars_o0 sk e h R) := nr rfl
@[simp, simp ↓] theorem c_spec_ValidBars_1_r : vc2 C (n + 1) [] (.code c_spec_ValidBars_1 :: sk) e h R = (vc2 C n c_spec_ValidBars_o1 sk e h R) := nr rfl
@[simp, simp ↓] theorem c_spec_ValidBars_2_r : vc2 C (n + 1) [] (.code c_spec_ValidBars_2 :: sk) e h R = (vc2 C n [] (.code c_spec_ValidBars_1 :: .code .ret :: sk) e h R) := nr rfl
@[simp, simp ↓] theorem c_spec_ValidBars_3_r : vc2 C (n + 1) [] (.code c_spec_ValidBars_3 :: sk) e h R = (vc2 C n [] (.code c_spec_ValidBars_0 :: .code c_spec_ValidBars_2 :: sk) e h R) := nr rfl
end
noncomputable def c_spec_ValidBars_C (orc : Orc) : Cx := ⟨Try.prog, [], 10, 5, [.tmp 2], orc⟩
@[simp] theorem c_spec_ValidBars_C_P (orc : Orc) : (c_spec_ValidBars_C orc).P = Try.prog := nr rfl
@[simp] theorem c_spec_ValidBars_C_o (orc : Orc) : (c_spec_ValidBars_C orc).orc = orc := nr rfl
@[simp] theorem c_spec_ValidBars_C_r (orc : Orc) : (c_spec_ValidBars_C orc).res = [.tmp 2] := nr rfl
theorem c_spec_ValidBars_of {args : List AV} {h : Heap} {R : AV → Heap → Prop} {k : Nat} (ha : args.length = k) {orc : Orc} (hp : Pure Try.prog orc) (hk : Is (c_spec_ValidBars_C orc) Try.f10 → Run2 (c_spec_ValidBars_C orc) [.code c_spec_ValidBars_3] (argEnv 0 args) h (Post R)) (hle : k ≤ 5 := by simp) : ACalls Try.prog 10 args h R :=
  contract2 [] c_spec_ValidBars_3 [.tmp 2] Try.func10 (by decide +kernel) rfl (by kernel_rfl) (by rw [ha]; exact hle) (by kernel_rfl) hp hk
theorem c_spec_ValidBars_of0 {args : List AV} {h : Heap} {R : AV → Heap → Prop} {k : Nat} (ha : args.length = k) {orc : Orc} (hp : Pure Try.prog orc) (hk : Is (c_spec_ValidBars_C orc) Try.f10 → Run2 (c_spec_ValidBars_C orc) [.code c_spec_ValidBars_3] (argEnv 0 args) h R) (hle : k ≤ 5 := by simp) : ACalls Try.prog 10 args h R :=
  contract20 [] c_spec_ValidBars_3 [.tmp 2] Try.func10 (by decide +kernel) rfl (by kernel_rfl) (by rw [ha]; exact hle) (by kernel_rfl) hp hk
theorem specValid_c (l : List T) (h : Heap) (hl : l.length ≤ 1048576) (ok : ∀ t ∈ l, t.ok) : ACalls Try.prog 10 [.snap 3 (l.map T.av)] h (fun v h' => v = .bool (decide (validB l)) ∧ h' = h) := by
  refine c_spec_ValidBars_of0 rfl orcV_p fun I => ?_
  refine Run2.of I 1000 ?_
  simp -implicitDefEqProofs [hl]
  exact ok
noncomputable def o_specValid : List AV → Option (Prop × AV) := tab (fun (x : List T) => match x with | l => [.snap 3 (l.map T.av)]) (fun x => match x with | l => (l.length ≤ 1048576 ∧ ∀ t ∈ l, t.ok)) (fun x => match x with | l => .bool (decide (validB l)))
@[simp] theorem o_specValid_e (l : List T) : o_specValid [.snap 3 (l.map T.av)] = some ((l.length ≤ 1048576 ∧ ∀ t ∈ l, t.ok), .bool (decide (validB l))) := tab_at (enc := fun (x : List T) => match x with | l => [.snap 3 (l.map T.av)]) (fun x y h => by
  simp at h; simp [h]) _ _ l
theorem o_specValid_k : Knows Try.prog 10 o_specValid := tab_knows fun x hx h => by
  exact specValid_c x h hx.1 hx.2
noncomputable def orcL : List (Nat × (List AV → Option (Prop × AV))) := (10, o_specValid) :: (12, o_valid) :: orcA
theorem orcL_p : Pure Try.prog (lk orcL) := (lk_pure o_specValid_k (lk_pure o_valid_k orcA_p))
@[simp] theorem orcL_l (g : FuncId) (l : List AV) : lk orcL g l = if g = 10 then o_specValid l else if g = 12 then o_valid l else lk orcA g l := nr rfl
abbrev c_laws_FnExactValidBars_o0 : List AJ := [.o ⟨(some 2), none, false, .mv (.c (.bool false)), (some [0])⟩]
def c_laws_FnExactValidBars_0 : ACode := .region c_laws_FnExactValidBars_o0
abbrev c_laws_FnExactValidBars_o1 : List AJ := [.o ⟨(some 3), none, false, .mv (.c (.int .i64 1048576)), (some [0, 3])⟩]
def c_laws_FnExactValidBars_1 : ACode := .region c_laws_FnExactValidBars_o1
abbrev c_laws_FnExactValidBars_o2 : List AJ := [.o ⟨(some 7), none, false, .mv (.t 0), none⟩, .o ⟨(some 8), none, false, .mv (.t 3), none⟩, .o ⟨(some 9), none, false, .call 9 [(.t 7), (.t 8)], none⟩, .o ⟨(some 3), none, false, .mv (.t 9), (some [0, 3])⟩]
def c_laws_FnExactValidBars_2 : ACode := .region c_laws_FnExactValidBars_o2
abbrev c_laws_FnExactValidBars_o3 : List AJ := [.o ⟨(some 10), none, false, .mv (.t 3), none⟩, .o ⟨(some 11), none, false, .bin .lss (.t 10) (.c (.int .i64 0)), (some [0, 11])⟩]
def c_laws_FnExactValidBars_3 : ACode := .region c_laws_FnExactValidBars_o3
abbrev c_laws_FnExactValidBars_o4 : List AJ := [.o ⟨(some 2), none, false, .mv (.c (.bool true)), (some [2])⟩]
def c_laws_FnExactValidBars_4 : ACode := .region c_laws_FnExactValidBars_o4
def c_laws_FnExactValidBars_5 : ACode := .seq c_laws_FnExactValidBars_4 .ret
def c_laws_FnExactValidBars_6 : ACode := .cond (.t 11) c_laws_FnExactValidBars_5 .skip
def c_laws_FnExactValidBars_7 : ACode := .seq c_laws_FnExactValidBars_3 c_laws_FnExactValidBars_6
abbrev c_laws_FnExactValidBars_o5 : List AJ := [.o ⟨(some 12), none, false, .mv (.t 0), none⟩, .o ⟨(some 13), none, false, .call 11 [(.t 12)], none⟩, .o ⟨(some 14), none, false, .call 10 [(.t 13)], none⟩, .o ⟨(some 4), none, false, .mv (.t 14), (some [0, 4])⟩]
def c_laws_FnExactValidBars_8 : ACode := .region c_laws_FnExactValidBars_o5
abbrev c_laws_FnExactValidBars_o6 : List AJ := [.o ⟨(some 15), none, false, .mv (.t 0), none⟩, .o ⟨(some 16), none, false, .call 11 [(.t 15)], none⟩, .o ⟨(some 5), none, false, .mv (.t 16), (some [0, 4, 5])⟩]
def c_laws_FnExactValidBars_9 : ACode := .region c_laws_FnExactValidBars_o6
abbrev c_laws_FnExactValidBars_o7 : List AJ := [.o ⟨(some 17), none, false, .mv (.t 5), none⟩, .o ⟨(some 18), none, false, .call 12 [(.t 17)], none⟩, .o ⟨(some 6), none, false, .mv (.t 18), (some [0, 4, 5, 6])⟩]
def c_laws_FnExactValidBars_10 : ACode := .region c_laws_FnExactValidBars_o7
abbrev c_laws_FnExactValidBars_o8 : List AJ := [.o ⟨(some 19), none, false, .mv (.t 6), none⟩, .o ⟨(some 20), none, false, .mv (.t 4), none⟩, .o ⟨(some 21), none, false, .beq true (.t 19) (.t 20), (some [0, 5, 21])⟩]
def c_laws_FnExactValidBars_11 : ACode := .region c_laws_FnExactValidBars_o8
abbrev c_laws_FnExactValidBars_o9 : List AJ := [.o ⟨(some 2), none, false, .mv (.c (.bool false)), (some [2])⟩]
def c_laws_FnExactValidBars_12 : ACode := .region c_laws_FnExactValidBars_o9
def c_laws_FnExactValidBars_13 : ACode := .seq c_laws_FnExactValidBars_12 .ret
def c_laws_FnExactValidBars_14 : ACode := .cond (.t 21) c_laws_FnExactValidBars_13 .skip
def c_laws_FnExactValidBars_15 : ACode := .seq c_laws_FnExactValidBars_11 c_laws_FnExactValidBars_14
abbrev c_laws_FnExactValidBars_o10 : List AJ := [.o ⟨(some 22), none, false, .mv (.t 5), none⟩, .o ⟨(some 23), none, false, .mv (.t 0), none⟩, .o ⟨(some 24), none, false, .call 11 [(.t 23)], none⟩, .o ⟨(some 25), none, false, .call 13 [(.t 22), (.t 24)], none⟩, .o ⟨(some 26), none, false, .un .not (.t 25), (some [26])⟩]
def c_laws_FnExactValidBars_16 : ACode := .region c_laws_FnExactValidBars_o10
abbrev c_laws_FnExactValidBars_o11 : List AJ := [.o ⟨(some 2), none, false, .mv (.c (.bool false)), (some [2])⟩]
def c_laws_FnExactValidBars_17 : ACode := .region c_laws_FnExactValidBars_o11
def c_laws_FnExactValidBars_18 : ACode := .seq c_laws_FnExactValidBars_17 .ret
def c_laws_FnExactValidBars_19 : ACode := .cond (.t 26) c_laws_FnExactValidBars_18 .skip
def c_laws_FnExactValidBars_20 : ACode := .seq c_laws_FnExactValidBars_16 c_laws_FnExactValidBars_19
abbrev c_laws_FnExactValidBars_o12 : List AJ := [.o ⟨(some 2), none, false, .mv (.c (.bool true)), (some [2])⟩]
def c_laws_FnExactValidBars_21 : ACode := .region c_laws_FnExactValidBars_o12
def c_laws_FnExactValidBars_22 : ACode := .seq c_laws_FnExactValidBars_21 .ret
def c_laws_FnExactValidBars_23 : ACode := .seq c_laws_FnExactValidBars_20 c_laws_FnExactValidBars_22
def c_laws_FnExactValidBars_24 : ACode := .seq c_laws_FnExactValidBars_15 c_laws_FnExactValidBars_23
def c_laws_FnExactValidBars_25 : ACode := .seq c_laws_FnExactValidBars_10 c_laws_FnExactValidBars_24
def c_laws_FnExactValidBars_26 : ACode := .seq c_laws_FnExactValidBars_9 c_laws_FnExactValidBars_25
def c_laws_FnExactValidBars_27 : ACode := .seq c_laws_FnExactValidBars_8 c_laws_FnExactValidBars_26
def c_laws_FnExactValidBars_28 : ACode := .seq c_laws_FnExactValidBars_7 c_laws_FnExactValidBars_27
def c_laws_FnExactValidBars_29 : ACode := .seq c_laws_FnExactValidBars_2 c_laws_FnExactValidBars_28
def c_laws_FnExactValidBars_30 : ACode := .seq c_laws_FnExactValidBars_1 c_laws_FnExactValidBars_29
def c_laws_FnExactValidBars_31 : ACode := .seq c_laws_FnExactValidBars_0 c_laws_FnExactValidBars_30
section
variable (C : Cx) (n : Nat) (sk : List AItem) (e : Env) (h : Heap) (R : AV → Heap → Prop)
@[simp, simp ↓] theorem c_laws_FnExactValidBars_0_r : vc2 C (n + 1) [] (.code c_laws_FnExactValidBars_0 :: sk) e h R = (vc2 C n c_laws_FnExactValidBars_o0 sk e h R) := nr rfl
@[simp, simp ↓] theorem c_laws_FnExactValidBars_1_r : vc2 C (n + 1) [] (.code c_laws_FnExactValidBars_1 :: sk) e h R = (vc2 C n c_laws_FnExactValidBars_o1 sk e h R) := nr rfl
@[simp, simp ↓] theorem c_laws_FnExactValidBars_2_r : vc2 C (n + 1) [] (.code c_laws_FnExactValidBars_2 :: sk) e h R = (vc2 C n c_laws_FnExactValidBars_o2 sk e h R) := nr rfl
@[simp, simp ↓] theorem c_laws_FnExactValidBars_3_r : vc2 C (n + 1) [] (.code c_laws_FnExactValidBars_3 :: sk) e h R = (vc2 C n c_laws_FnExactValidBars_o3 sk e h R) := nr rfl
@[simp, simp ↓] theorem c_laws_FnExactValidBars_4_r : vc2 C (n + 1) [] (.code c_laws_FnExactValidBars_4 :: sk) e h R = (vc2 C n c_laws_FnExactValidBars_o4 sk e h R) := nr rfl
@[simp, simp ↓] theorem c_laws_FnExactValidBars_5_r : vc2 C (n + 1) [] (.code c_laws_FnExactValidBars_5 :: sk) e h R = (vc2 C n [] (.code c_laws_FnExactValidBars_4 :: .code .ret :: sk) e h R) := nr rfl
@[simp, simp ↓] theorem c_laws_FnExactValidBars_6_r : vc2 C (n + 1) [] (.code c_laws_FnExactValidBars_6 :: sk) e h R = (condK (ev e (.t 11)) (vc2 C n [] (.code c_laws_FnExactValidBars_5 :: sk) e h R) (vc2 C n [] (.code .skip :: sk) e h R)) := nr rfl
@[simp, simp ↓] theorem c_laws_FnExactValidBars_7_r : vc2 C (n + 1) [] (.code c_laws_FnExactValidBars_7 :: sk) e h R = (vc2 C n [] (.code c_laws_FnExactValidBars_3 :: .code c_laws_FnExactValidBars_6 :: sk) e h R) := nr rfl
@[simp, simp ↓] theorem c_laws_FnExactValidBars_8_r : vc2 C (n + 1) [] (.code c_laws_FnExactValidBars_8 :: sk) e h R = (vc2 C n c_laws_FnExactValidBars_o5 sk e h R) := nr rfl
@[simp, simp ↓] theorem c_laws_FnExactValidBars_9_r : vc2 C (n + 1) [] (.code c_laws_FnExactValidBars_9 :: sk) e h R = (vc2 C n c_laws_FnExactValidBars_o6 sk e h R) := nr rfl
@[simp, simp ↓] theorem c_laws_FnExactValidBars_10_r : vc2 C (n + 1) [] (.code c_laws_FnExactValidBars_10 :: sk) e h R = (vc2 C n c_laws_FnExactValidBars_o7 sk e h R) := nr rfl
@[simp, simp ↓] theorem c_laws_FnExactValidBars_11_r : vc2 C (n + 1) [] (.code c_laws_FnExactValidBars_11 :: sk) e h R = (vc2 C n c_laws_FnExactValidBars_o8 sk e h R) := nr rfl
@[simp, simp ↓] theorem c_laws_FnExactValidBars_12_r : vc2 C (n + 1) [] (.code c_laws_FnExactValidBars_12 :: sk) e h R = (vc2 C n c_laws_FnExactValidBars_o9 sk e h R) := nr rfl
@[simp, simp ↓] theorem c_laws_FnExactValidBars_13_r : vc2 C (n + 1) [] (.code c_laws_FnExactValidBars_13 :: sk) e h R = (vc2 C n [] (.code c_laws_FnExactValidBars_12 :: .code .ret :: sk) e h R) := nr rfl
@[simp, simp ↓] theorem c_laws_FnExactValidBars_14_r : vc2 C (n + 1) [] (.code c_laws_FnExactValidBars_14 :: sk) e h R = (condK (ev e (.t 21)) (vc2 C n [] (.code c_laws_FnExactValidBars_13 :: sk) e h R) (vc2 C n [] (.code .skip :: sk) e h R)) := nr rfl
@[simp, simp ↓] theorem c_laws_FnExactValidBars_15_r : vc2 C (n + 1) [] (.code c_laws_FnExactValidBars_15 :: sk) e h R = (vc2 C n [] (.code c_laws_FnExactValidBars_11 :: .code c_laws_FnExactValidBars_14 :: sk) e h R) := nr rfl
@[simp, simp ↓] theorem c_laws_FnExactValidBars_16_r : vc2 C (n + 1) [] (.code c_laws_FnExactValidBars_16 :: sk) e h R = (vc2 C n c_laws_FnExactValidBars_o10 sk e h R) := nr rfl
@[simp, simp ↓] theorem c_laws_FnExactValidBars_17_r : vc2 C (n + 1) [] (.code c_laws_FnExactValidBars_17 :: sk) e h R = (vc2 C n c_laws_FnExactValidBars_o11 sk e h R) := nr rfl
@[simp, simp ↓] theorem c_laws_FnExactValidBars_18_r : vc2 C (n + 1) [] (.code c_laws_FnExactValidBars_18 :: sk) e h R = (vc2 C n [] (.code c_laws_FnExactValidBars_17 :: .code .ret :: sk) e h R) := nr rfl
@[simp, simp ↓] theorem c_laws_FnExactValidBars_19_r : vc2 C (n + 1) [] (.code c_laws_FnExactValidBars_19 :: sk) e h R = (condK (ev e (.t 26)) (vc2 C n [] (.code c_laws_FnExactValidBars_18 :: sk) e h R) (vc2 C n [] (.code .skip :: sk) e h R)) := nr rfl
@[simp, simp ↓] theorem c_laws_FnExactValidBars_20_r : vc2 C (n + 1) [] (.code c_laws_FnExactValidBars_20 :: sk) e h R = (vc2 C n [] (.code c_laws_FnExactValidBars_16 :: .code c_laws_FnExactValidBars_19 :: sk) e h R) := nr rfl
@[simp, simp ↓] theorem c_laws_FnExactValidBars_21_r : vc2 C (n + 1) [] (.code c_laws_FnExactValidBars_21 :: sk) e h R = (vc2 C n c_laws_FnExactValidBars_o12 sk e h R) := nr rfl
@[simp, simp ↓] theorem c_laws_FnExactValidBars_22_r : vc2 C (n + 1) [] (.code c_laws_FnExactValidBars_22 :: sk) e h R = (vc2 C n [] (.code c_laws_FnExactValidBars_21 :: .code .ret :: sk) e h R) := nr rfl
@[simp, simp ↓] theorem c_laws_FnExactValidBars_23_r : vc2 C (n + 1) [] (.code c_laws_FnExactValidBars_23 :: sk) e h R = (vc2 C n [] (.code c_laws_FnExactValidBars_20 :: .code c_laws_FnExactValidBars_22 :: sk) e h R) := nr rfl
@[simp, simp ↓] theorem c_laws_FnExactValidBars_24_r : vc2 C (n + 1) [] (.code c_laws_FnExactValidBars_24 :: sk) e h R = (vc2 C n [] (.code c_laws_FnExactValidBars_15 :: .code c_laws_FnExactValidBars_23 :: sk) e h R) := nr rfl
@[simp, simp ↓] theorem c_laws_FnExactValidBars_25_r : vc2 C (n + 1) [] (.code c_laws_FnExactValidBars_25 :: sk) e h R = (vc2 C n [] (.code c_laws_FnExactValidBars_10 :: .code c_laws_FnExactValidBars_24 :: sk) e h R) := nr rfl
@[simp, simp ↓] theorem c_laws_FnExactValidBars_26_r : vc2 C (n + 1) [] (.code c_laws_FnExactValidBars_26 :: sk) e h R = (vc2 C n [] (.code c_laws_FnExactValidBars_9 :: .code c_laws_FnExactValidBars_25 :: sk) e h R) := nr rfl
@[simp, simp ↓] theorem c_laws_FnExactValidBars_27_r : vc2 C (n + 1) [] (.code c_laws_FnExactValidBars_27 :: sk) e h R = (vc2 C n [] (.code c_laws_FnExactValidBars_8 :: .code c_laws_FnExactValidBars_26 :: sk) e h R) := nr rfl
@[simp, simp ↓] theorem c_laws_FnExactValidBars_28_r : vc2 C (n + 1) [] (.code c_laws_FnExactValidBars_28 :: sk) e h R = (vc2 C n [] (.code c_laws_FnExactValidBars_7 :: .code c_laws_FnExactValidBars_27 :: sk) e h R) := nr rfl
@[simp, simp ↓] theorem c_laws_FnExactValidBars_29_r : vc2 C (n + 1) [] (.code c_laws_FnExactValidBars_29 :: sk) e h R = (vc2 C n [] (.code c_laws_FnExactValidBars_2 :: .code c_laws_FnExactValidBars_28 :: sk) e h R) := nr rfl
@[simp, simp ↓] theorem c_laws_FnExactValidBars_30_r : vc2 C (n + 1) [] (.code c_laws_FnExactValidBars_30 :: sk) e h R = (vc2 C n [] (.code c_laws_FnExactValidBars_1 :: .code c_laws_FnExactValidBars_29 :: sk) e h R) := nr rfl
@[simp, simp ↓] theorem c_laws_FnExactValidBars_31_r : vc2 C (n + 1) [] (.code c_laws_FnExactValidBars_31 :: sk) e h R = (vc2 C n [] (.code c_laws_FnExactValidBars_0 :: .code c_laws_FnExactValidBars_30 :: sk) e h R) := nr rfl
end
noncomputable def c_laws_FnExactValidBars_C (orc : Orc) : Cx := ⟨Try.prog, [], 3, 27, [.tmp 2], orc⟩
@[simp] theorem c_laws_FnExactValidBars_C_P (orc : Orc) : (c_laws_FnExactValidBars_C orc).P = Try.prog := nr rfl
@[simp] theorem c_laws_FnExactValidBars_C_o (orc : Orc) : (c_laws_FnExactValidBars_C orc).orc = orc := nr rfl
@[simp] theorem c_laws_FnExactValidBars_C_r (orc : Orc) : (c_laws_FnExactValidBars_C orc).res = [.tmp 2] := nr rfl
theorem c_laws_FnExactValidBars_of {args : List AV} {h : Heap} {R : AV → Heap → Prop} {k : Nat} (ha : args.length = k) {orc : Orc} (hp : Pure Try.prog orc) (hk : Is (c_laws_FnExactValidBars_C orc) Try.f3 → Run2 (c_laws_FnExactValidBars_C orc) [.code c_laws_FnExactValidBars_31] (argEnv 0 args) h (Post R)) (hle : k ≤ 27 := by simp) : ACalls Try.prog 3 args h R :=
  contract2 [] c_laws_FnExactValidBars_31 [.tmp 2] Try.func3 (by decide +kernel) rfl (by kernel_rfl) (by rw [ha]; exact hle) (by kernel_rfl) hp hk
theorem c_laws_FnExactValidBars_of0 {args : List AV} {h : Heap} {R : AV → Heap → Prop} {k : Nat} (ha : args.length = k) {orc : Orc} (hp : Pure Try.prog orc) (hk : Is (c_laws_FnExactValidBars_C orc) Try.f3 → Run2 (c_laws_FnExactValidBars_C orc) [.code c_laws_FnExactValidBars_31] (argEnv 0 args) h R) (hle : k ≤ 27 := by simp) : ACalls Try.prog 3 args h R :=
  contract20 [] c_laws_FnExactValidBars_31 [.tmp 2] Try.func3 (by decide +kernel) rfl (by kernel_rfl) (by rw [ha]; exact hle) (by kernel_rfl) hp hk
theorem valid_law (l : List T) (hl : wfB l) : ACalls Try.prog 3 [.snap 3 (l.map T.av)] [] (fun v h' => v = .bool true ∧ h' = []) := by
  refine c_laws_FnExactValidBars_of0 rfl orcL_p fun I => ?_
  refine Run2.of I 1000 ?_
  simp -implicitDefEqProofs [hl.1, hl.2]
  intro h1
  have : l.length ≤ 1048576 := by split at h1 <;> omega
  exact ⟨this, ⟨this, hl.1⟩, this, ⟨this, hl.1⟩, this⟩
end Go.AG
namespace Go.Proofs.Ytdgahpcgenlcjaa
open Go.ChangeShapes Go.WideShapes Go.ChangeAt Go.RowKit Go.AG
theorem own : ownKnob Try.prog.godebug = none := by kernel_rfl
theorem laidOut : laidOutB Try.prog = true := by kernel_rfl
set_option maxRecDepth 100000 in
theorem fnExactValidBars_lifted (os : Os) (started : os.Started) (H : Type) (enc : TypeId × Value → H) :
    ReturnsInHanded {} Try.checked os 3 .any (Rows.fnExactValidBarsSpec.pre6 enc Try.prog Try.f3 Rows.fnExactValidBarsRow.domain false) (Rows.fnExactValidBarsSpec.post enc Try.prog Try.f3 false true false false) := by
  refine returnsInHanded_of_change (C := Try.checked) own started (by kernel_rfl) Try.func3
    (ChangeSpec.witness6 (enc := enc) (C := Try.checked) false ⟨#[], #[.slice none 0 0], []⟩ 8 (by kernel_rfl) (by kernel_rfl) (by kernel_rfl) (by kernel_rfl)) ?_
  intro W base args ds gs before hval0 hW _ _
  have hval : ∀ (j : Nat) t v, Try.f3.params[j]? = some t → args[j]? = some v → Value.okWide Try.prog W .any base t v := hval0
  refine law_post (tys := [tyB]) (tb := 4) laidOut rfl (by kernel_rfl) (by kernel_rfl) (by kernel_rfl) (by kernel_rfl) hval hW ?_ ?_
  · intro ds h
    match ds, h with
    | [a0], _ => rfl
  · rintro xs ⟨x0, r0, rfl, h0, hr⟩
    have hr0 : r0 = [] := hr
    subst hr0
    obtain ⟨p0, rfl, q0⟩ := Bars_of_shape h0
    exact valid_law p0 q0
theorem fnExactValidBars_holds : Rows.FnExactValidBarsSaid :=
  OpenClaim.holds_of_wide 3 Try.f3 rfl rfl rfl rfl rfl rfl rfl ⟨rfl, rfl, rfl, rfl, rfl⟩ rfl rfl rfl rfl rfl (by kernel_rfl) Try.func3 (by kernel_rfl)
    (of_decide_eq_true (by kernel_rfl)) (by unfold Func.isWrapper; first | (rw [if_pos (by decide +kernel)]; kernel_rfl) | (rw [if_neg (by decide +kernel)]; exact ⟨rfl, rfl⟩))
    (fun os started H enc _ => fnExactValidBars_lifted os started H enc)
end Go.Proofs.Ytdgahpcgenlcjaa
