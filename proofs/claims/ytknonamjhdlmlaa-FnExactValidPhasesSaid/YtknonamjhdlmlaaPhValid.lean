/- The law FnExactValidPhases is true for every input: the program's ValidPhases returns what the reference's returns. -/
import Derived.Test.YtknonamjhdlmlaaPhVal
namespace Go.AG
open Go.Proofs Go.Proofs.Ytknonamjhdlmlaa
set_option linter.unusedSimpArgs false
set_option linter.unusedVariables false
set_option maxRecDepth 4000
abbrev c_spec_ValidPhases_o0 : List AJ := [.o ⟨(some 1), none, false, .box false 3 (.t 0), none⟩, .o ⟨(some 2), none, false, .mv (.c (.bool false)), (some [1])⟩]
def c_spec_ValidPhases_0 : ACode := .region c_spec_ValidPhases_o0
abbrev c_spec_ValidPhases_o1 : List AJ := [.o ⟨(some 3), none, false, .call 49 [(.t 1)], none⟩, .o ⟨(some 2), none, false, .mv (.t 3), (some [2])⟩]
def c_spec_ValidPhases_1 : ACode := .region c_spec_ValidPhases_o1
def c_spec_ValidPhases_2 : ACode := .seq c_spec_ValidPhases_1 .ret
def c_spec_ValidPhases_3 : ACode := .seq c_spec_ValidPhases_0 c_spec_ValidPhases_2
section
variable (C : Cx) (n : Nat) (sk : List AItem) (e : Env) (h : Heap) (R : AV → Heap → Prop)
@[simp, simp ↓] theorem c_spec_ValidPhases_0_r : vc2 C (n + 1) [] (.code c_spec_ValidPhases_0 :: sk) e h R = (vc2 C n c_spec_ValidPhases_o0 sk e h R) := nr rfl
@[simp, simp ↓] theorem c_spec_ValidPhases_1_r : vc2 C (n + 1) [] (.code c_spec_ValidPhases_1 :: sk) e h R = (vc2 C n c_spec_ValidPhases_o1 sk e h R) := nr rfl
@[simp, simp ↓] theorem c_spec_ValidPhases_2_r : vc2 C (n + 1) [] (.code c_spec_ValidPhases_2 :: sk) e h R = (vc2 C n [] (.code c_spec_ValidPhases_1 :: .code .ret :: sk) e h R) := nr rfl
@[simp, simp ↓] theorem c_spec_ValidPhases_3_r : vc2 C (n + 1) [] (.code c_spec_ValidPhases_3 :: sk) e h R = (vc2 C n [] (.code c_spec_ValidPhases_0 :: .code c_spec_ValidPhases_2 :: sk) e h R) := nr rfl
end
noncomputable def c_spec_ValidPhases_C (orc : Orc) : Cx := ⟨Try.prog, [], 19, 4, [.tmp 2], orc⟩
@[simp] theorem c_spec_ValidPhases_C_P (orc : Orc) : (c_spec_ValidPhases_C orc).P = Try.prog := nr rfl
@[simp] theorem c_spec_ValidPhases_C_o (orc : Orc) : (c_spec_ValidPhases_C orc).orc = orc := nr rfl
@[simp] theorem c_spec_ValidPhases_C_r (orc : Orc) : (c_spec_ValidPhases_C orc).res = [.tmp 2] := nr rfl
theorem c_spec_ValidPhases_of {args : List AV} {h : Heap} {R : AV → Heap → Prop} (ha : args.length = 1) {orc : Orc} (hp : Pure Try.prog orc) (hk : Is (c_spec_ValidPhases_C orc) Try.f19 → Run2 (c_spec_ValidPhases_C orc) [.code c_spec_ValidPhases_3] (argEnv 0 args) h (Post R)) : ACalls Try.prog 19 args h R :=
  contract2 [] c_spec_ValidPhases_3 [.tmp 2] Try.func19 (by decide +kernel) rfl (by kernel_rfl) (by rw [ha]; decide +kernel) (by kernel_rfl) hp hk
theorem c_spec_ValidPhases_of0 {args : List AV} {h : Heap} {R : AV → Heap → Prop} (ha : args.length = 1) {orc : Orc} (hp : Pure Try.prog orc) (hk : Is (c_spec_ValidPhases_C orc) Try.f19 → Run2 (c_spec_ValidPhases_C orc) [.code c_spec_ValidPhases_3] (argEnv 0 args) h R) : ACalls Try.prog 19 args h R :=
  contract20 [] c_spec_ValidPhases_3 [.tmp 2] Try.func19 (by decide +kernel) rfl (by kernel_rfl) (by rw [ha]; decide +kernel) (by kernel_rfl) hp hk
theorem specValid_c (x : Ph) (h : Heap) (hl : x.ts.length ≤ 1048576) (ok : x.ok) : ACalls Try.prog 19 [x.av] h (fun v h' => v = .bool (decide x.valid) ∧ h' = h) := by
  refine c_spec_ValidPhases_of0 rfl orcV_p fun I => ?_
  refine Run2.of I 1000 ?_
  simp -implicitDefEqProofs [hl, ok]
noncomputable def o_specValid : List AV → Option (Prop × AV) := tab (fun (x : Int × Int × List T) => match x with | (n, m, ts) => [.agg [.int .i64 n, .int .i64 m, .snap 3 (ts.map T.av)]]) (fun x => match x with | (n, m, ts) => (ts.length ≤ 1048576 ∧ Ph.ok ⟨n, m, ts⟩)) (fun x => match x with | (n, m, ts) => .bool (decide (Ph.valid ⟨n, m, ts⟩)))
@[simp] theorem o_specValid_e (n : Int) (m : Int) (ts : List T) : o_specValid [.agg [.int .i64 n, .int .i64 m, .snap 3 (ts.map T.av)]] = some ((ts.length ≤ 1048576 ∧ Ph.ok ⟨n, m, ts⟩), .bool (decide (Ph.valid ⟨n, m, ts⟩))) := tab_at (enc := fun (x : Int × Int × List T) => match x with | (n, m, ts) => [.agg [.int .i64 n, .int .i64 m, .snap 3 (ts.map T.av)]]) (fun x y h => by
  obtain ⟨n1, m1, ts1⟩ := x; obtain ⟨n2, m2, ts2⟩ := y; simp at h; simp [h]) _ _ (n, m, ts)
theorem o_specValid_k : Knows Try.prog 19 o_specValid := tab_knows fun x hx h => by
  obtain ⟨n, m, ts⟩ := x; exact specValid_c ⟨n, m, ts⟩ h hx.1 hx.2
noncomputable def orcL : List (Nat × (List AV → Option (Prop × AV))) := (19, o_specValid) :: (20, o_valid) :: orcA
theorem orcL_p : Pure Try.prog (lk orcL) := (lk_pure o_specValid_k (lk_pure o_valid_k orcA_p))
@[simp] theorem orcL_l (g : FuncId) (l : List AV) : lk orcL g l = if g = 19 then o_specValid l else if g = 20 then o_valid l else lk orcA g l := nr rfl
abbrev c_laws_FnExactValidPhases_o0 : List AJ := [.o ⟨(some 1), none, false, .box false 3 (.t 0), none⟩, .o ⟨(some 2), none, false, .mv (.c (.bool false)), (some [1])⟩]
def c_laws_FnExactValidPhases_0 : ACode := .region c_laws_FnExactValidPhases_o0
abbrev c_laws_FnExactValidPhases_o1 : List AJ := [.o ⟨(some 3), none, false, .mv (.c (.int .i64 1048576)), (some [1, 3])⟩]
def c_laws_FnExactValidPhases_1 : ACode := .region c_laws_FnExactValidPhases_o1
abbrev c_laws_FnExactValidPhases_o2 : List AJ := [.o ⟨(some 7), none, false, .load 3 true (.t 1), none⟩, .o ⟨(some 8), none, false, .mv (.t 3), none⟩, .o ⟨(some 9), none, false, .call 14 [(.t 7), (.t 8)], none⟩, .o ⟨(some 3), none, false, .mv (.t 9), (some [1, 3])⟩]
def c_laws_FnExactValidPhases_2 : ACode := .region c_laws_FnExactValidPhases_o2
abbrev c_laws_FnExactValidPhases_o3 : List AJ := [.o ⟨(some 10), none, false, .mv (.t 3), none⟩, .o ⟨(some 11), none, false, .bin .lss (.t 10) (.c (.int .i64 0)), (some [1, 11])⟩]
def c_laws_FnExactValidPhases_3 : ACode := .region c_laws_FnExactValidPhases_o3
abbrev c_laws_FnExactValidPhases_o4 : List AJ := [.o ⟨(some 2), none, false, .mv (.c (.bool true)), (some [2])⟩]
def c_laws_FnExactValidPhases_4 : ACode := .region c_laws_FnExactValidPhases_o4
def c_laws_FnExactValidPhases_5 : ACode := .seq c_laws_FnExactValidPhases_4 .ret
def c_laws_FnExactValidPhases_6 : ACode := .cond (.t 11) c_laws_FnExactValidPhases_5 .skip
def c_laws_FnExactValidPhases_7 : ACode := .seq c_laws_FnExactValidPhases_3 c_laws_FnExactValidPhases_6
abbrev c_laws_FnExactValidPhases_o5 : List AJ := [.o ⟨(some 12), none, false, .load 3 true (.t 1), none⟩, .o ⟨(some 13), none, false, .call 16 [(.t 12)], none⟩, .o ⟨(some 14), none, false, .call 19 [(.t 13)], none⟩, .o ⟨(some 4), none, false, .mv (.t 14), (some [1, 4])⟩]
def c_laws_FnExactValidPhases_8 : ACode := .region c_laws_FnExactValidPhases_o5
abbrev c_laws_FnExactValidPhases_o6 : List AJ := [.o ⟨(some 15), none, false, .load 3 true (.t 1), none⟩, .o ⟨(some 16), none, false, .call 16 [(.t 15)], none⟩, .v 5 3 (.agg [(.int .i64 0), (.int .i64 0), .nilsl]) [] (.t 16) (some [1, 4, 5])]
def c_laws_FnExactValidPhases_9 : ACode := .region c_laws_FnExactValidPhases_o6
abbrev c_laws_FnExactValidPhases_o7 : List AJ := [.o ⟨(some 17), none, false, .load 3 true (.t 5), none⟩, .o ⟨(some 18), none, false, .call 20 [(.t 17)], none⟩, .o ⟨(some 6), none, false, .mv (.t 18), (some [1, 4, 5, 6])⟩]
def c_laws_FnExactValidPhases_10 : ACode := .region c_laws_FnExactValidPhases_o7
abbrev c_laws_FnExactValidPhases_o8 : List AJ := [.o ⟨(some 19), none, false, .mv (.t 6), none⟩, .o ⟨(some 20), none, false, .mv (.t 4), none⟩, .o ⟨(some 21), none, false, .beq true (.t 19) (.t 20), (some [1, 5, 21])⟩]
def c_laws_FnExactValidPhases_11 : ACode := .region c_laws_FnExactValidPhases_o8
abbrev c_laws_FnExactValidPhases_o9 : List AJ := [.o ⟨(some 2), none, false, .mv (.c (.bool false)), (some [2])⟩]
def c_laws_FnExactValidPhases_12 : ACode := .region c_laws_FnExactValidPhases_o9
def c_laws_FnExactValidPhases_13 : ACode := .seq c_laws_FnExactValidPhases_12 .ret
def c_laws_FnExactValidPhases_14 : ACode := .cond (.t 21) c_laws_FnExactValidPhases_13 .skip
def c_laws_FnExactValidPhases_15 : ACode := .seq c_laws_FnExactValidPhases_11 c_laws_FnExactValidPhases_14
abbrev c_laws_FnExactValidPhases_o10 : List AI := [⟨(some 22), none, false, .load 3 true (.t 5), none⟩, ⟨(some 23), none, false, .load 3 true (.t 1), none⟩, ⟨(some 24), none, false, .call 16 [(.t 23)], none⟩, ⟨(some 25), none, false, .call 18 [(.t 22), (.t 24)], none⟩, ⟨(some 26), none, false, .un .not (.t 25), (some [26])⟩]
def c_laws_FnExactValidPhases_16 : ACode := .draw c_laws_FnExactValidPhases_o10 [] rfl
abbrev c_laws_FnExactValidPhases_o11 : List AJ := [.o ⟨(some 2), none, false, .mv (.c (.bool false)), (some [2])⟩]
def c_laws_FnExactValidPhases_17 : ACode := .region c_laws_FnExactValidPhases_o11
def c_laws_FnExactValidPhases_18 : ACode := .seq c_laws_FnExactValidPhases_17 .ret
def c_laws_FnExactValidPhases_19 : ACode := .cond (.t 26) c_laws_FnExactValidPhases_18 .skip
def c_laws_FnExactValidPhases_20 : ACode := .seq c_laws_FnExactValidPhases_16 c_laws_FnExactValidPhases_19
abbrev c_laws_FnExactValidPhases_o12 : List AJ := [.o ⟨(some 2), none, false, .mv (.c (.bool true)), (some [2])⟩]
def c_laws_FnExactValidPhases_21 : ACode := .region c_laws_FnExactValidPhases_o12
def c_laws_FnExactValidPhases_22 : ACode := .seq c_laws_FnExactValidPhases_21 .ret
def c_laws_FnExactValidPhases_23 : ACode := .seq c_laws_FnExactValidPhases_20 c_laws_FnExactValidPhases_22
def c_laws_FnExactValidPhases_24 : ACode := .seq c_laws_FnExactValidPhases_15 c_laws_FnExactValidPhases_23
def c_laws_FnExactValidPhases_25 : ACode := .seq c_laws_FnExactValidPhases_10 c_laws_FnExactValidPhases_24
def c_laws_FnExactValidPhases_26 : ACode := .seq c_laws_FnExactValidPhases_9 c_laws_FnExactValidPhases_25
def c_laws_FnExactValidPhases_27 : ACode := .seq c_laws_FnExactValidPhases_8 c_laws_FnExactValidPhases_26
def c_laws_FnExactValidPhases_28 : ACode := .seq c_laws_FnExactValidPhases_7 c_laws_FnExactValidPhases_27
def c_laws_FnExactValidPhases_29 : ACode := .seq c_laws_FnExactValidPhases_2 c_laws_FnExactValidPhases_28
def c_laws_FnExactValidPhases_30 : ACode := .seq c_laws_FnExactValidPhases_1 c_laws_FnExactValidPhases_29
def c_laws_FnExactValidPhases_31 : ACode := .seq c_laws_FnExactValidPhases_0 c_laws_FnExactValidPhases_30
section
variable (C : Cx) (n : Nat) (sk : List AItem) (e : Env) (h : Heap) (R : AV → Heap → Prop)
@[simp, simp ↓] theorem c_laws_FnExactValidPhases_0_r : vc2 C (n + 1) [] (.code c_laws_FnExactValidPhases_0 :: sk) e h R = (vc2 C n c_laws_FnExactValidPhases_o0 sk e h R) := nr rfl
@[simp, simp ↓] theorem c_laws_FnExactValidPhases_1_r : vc2 C (n + 1) [] (.code c_laws_FnExactValidPhases_1 :: sk) e h R = (vc2 C n c_laws_FnExactValidPhases_o1 sk e h R) := nr rfl
@[simp, simp ↓] theorem c_laws_FnExactValidPhases_2_r : vc2 C (n + 1) [] (.code c_laws_FnExactValidPhases_2 :: sk) e h R = (vc2 C n c_laws_FnExactValidPhases_o2 sk e h R) := nr rfl
@[simp, simp ↓] theorem c_laws_FnExactValidPhases_3_r : vc2 C (n + 1) [] (.code c_laws_FnExactValidPhases_3 :: sk) e h R = (vc2 C n c_laws_FnExactValidPhases_o3 sk e h R) := nr rfl
@[simp, simp ↓] theorem c_laws_FnExactValidPhases_4_r : vc2 C (n + 1) [] (.code c_laws_FnExactValidPhases_4 :: sk) e h R = (vc2 C n c_laws_FnExactValidPhases_o4 sk e h R) := nr rfl
@[simp, simp ↓] theorem c_laws_FnExactValidPhases_5_r : vc2 C (n + 1) [] (.code c_laws_FnExactValidPhases_5 :: sk) e h R = (vc2 C n [] (.code c_laws_FnExactValidPhases_4 :: .code .ret :: sk) e h R) := nr rfl
@[simp, simp ↓] theorem c_laws_FnExactValidPhases_6_r : vc2 C (n + 1) [] (.code c_laws_FnExactValidPhases_6 :: sk) e h R = (condK (ev e (.t 11)) (vc2 C n [] (.code c_laws_FnExactValidPhases_5 :: sk) e h R) (vc2 C n [] (.code .skip :: sk) e h R)) := nr rfl
@[simp, simp ↓] theorem c_laws_FnExactValidPhases_7_r : vc2 C (n + 1) [] (.code c_laws_FnExactValidPhases_7 :: sk) e h R = (vc2 C n [] (.code c_laws_FnExactValidPhases_3 :: .code c_laws_FnExactValidPhases_6 :: sk) e h R) := nr rfl
@[simp, simp ↓] theorem c_laws_FnExactValidPhases_8_r : vc2 C (n + 1) [] (.code c_laws_FnExactValidPhases_8 :: sk) e h R = (vc2 C n c_laws_FnExactValidPhases_o5 sk e h R) := nr rfl
@[simp, simp ↓] theorem c_laws_FnExactValidPhases_9_r : vc2 C (n + 1) [] (.code c_laws_FnExactValidPhases_9 :: sk) e h R = (vc2 C n c_laws_FnExactValidPhases_o6 sk e h R) := nr rfl
@[simp, simp ↓] theorem c_laws_FnExactValidPhases_10_r : vc2 C (n + 1) [] (.code c_laws_FnExactValidPhases_10 :: sk) e h R = (vc2 C n c_laws_FnExactValidPhases_o7 sk e h R) := nr rfl
@[simp, simp ↓] theorem c_laws_FnExactValidPhases_11_r : vc2 C (n + 1) [] (.code c_laws_FnExactValidPhases_11 :: sk) e h R = (vc2 C n c_laws_FnExactValidPhases_o8 sk e h R) := nr rfl
@[simp, simp ↓] theorem c_laws_FnExactValidPhases_12_r : vc2 C (n + 1) [] (.code c_laws_FnExactValidPhases_12 :: sk) e h R = (vc2 C n c_laws_FnExactValidPhases_o9 sk e h R) := nr rfl
@[simp, simp ↓] theorem c_laws_FnExactValidPhases_13_r : vc2 C (n + 1) [] (.code c_laws_FnExactValidPhases_13 :: sk) e h R = (vc2 C n [] (.code c_laws_FnExactValidPhases_12 :: .code .ret :: sk) e h R) := nr rfl
@[simp, simp ↓] theorem c_laws_FnExactValidPhases_14_r : vc2 C (n + 1) [] (.code c_laws_FnExactValidPhases_14 :: sk) e h R = (condK (ev e (.t 21)) (vc2 C n [] (.code c_laws_FnExactValidPhases_13 :: sk) e h R) (vc2 C n [] (.code .skip :: sk) e h R)) := nr rfl
@[simp, simp ↓] theorem c_laws_FnExactValidPhases_15_r : vc2 C (n + 1) [] (.code c_laws_FnExactValidPhases_15 :: sk) e h R = (vc2 C n [] (.code c_laws_FnExactValidPhases_11 :: .code c_laws_FnExactValidPhases_14 :: sk) e h R) := nr rfl
@[simp, simp ↓] theorem c_laws_FnExactValidPhases_16_r : vc2 C (n + 1) [] (.code c_laws_FnExactValidPhases_16 :: sk) e h R = (draw2 C h (vK C n [] sk R h) c_laws_FnExactValidPhases_o10 e) := nr rfl
@[simp, simp ↓] theorem c_laws_FnExactValidPhases_17_r : vc2 C (n + 1) [] (.code c_laws_FnExactValidPhases_17 :: sk) e h R = (vc2 C n c_laws_FnExactValidPhases_o11 sk e h R) := nr rfl
@[simp, simp ↓] theorem c_laws_FnExactValidPhases_18_r : vc2 C (n + 1) [] (.code c_laws_FnExactValidPhases_18 :: sk) e h R = (vc2 C n [] (.code c_laws_FnExactValidPhases_17 :: .code .ret :: sk) e h R) := nr rfl
@[simp, simp ↓] theorem c_laws_FnExactValidPhases_19_r : vc2 C (n + 1) [] (.code c_laws_FnExactValidPhases_19 :: sk) e h R = (condK (ev e (.t 26)) (vc2 C n [] (.code c_laws_FnExactValidPhases_18 :: sk) e h R) (vc2 C n [] (.code .skip :: sk) e h R)) := nr rfl
@[simp, simp ↓] theorem c_laws_FnExactValidPhases_20_r : vc2 C (n + 1) [] (.code c_laws_FnExactValidPhases_20 :: sk) e h R = (vc2 C n [] (.code c_laws_FnExactValidPhases_16 :: .code c_laws_FnExactValidPhases_19 :: sk) e h R) := nr rfl
@[simp, simp ↓] theorem c_laws_FnExactValidPhases_21_r : vc2 C (n + 1) [] (.code c_laws_FnExactValidPhases_21 :: sk) e h R = (vc2 C n c_laws_FnExactValidPhases_o12 sk e h R) := nr rfl
@[simp, simp ↓] theorem c_laws_FnExactValidPhases_22_r : vc2 C (n + 1) [] (.code c_laws_FnExactValidPhases_22 :: sk) e h R = (vc2 C n [] (.code c_laws_FnExactValidPhases_21 :: .code .ret :: sk) e h R) := nr rfl
@[simp, simp ↓] theorem c_laws_FnExactValidPhases_23_r : vc2 C (n + 1) [] (.code c_laws_FnExactValidPhases_23 :: sk) e h R = (vc2 C n [] (.code c_laws_FnExactValidPhases_20 :: .code c_laws_FnExactValidPhases_22 :: sk) e h R) := nr rfl
@[simp, simp ↓] theorem c_laws_FnExactValidPhases_24_r : vc2 C (n + 1) [] (.code c_laws_FnExactValidPhases_24 :: sk) e h R = (vc2 C n [] (.code c_laws_FnExactValidPhases_15 :: .code c_laws_FnExactValidPhases_23 :: sk) e h R) := nr rfl
@[simp, simp ↓] theorem c_laws_FnExactValidPhases_25_r : vc2 C (n + 1) [] (.code c_laws_FnExactValidPhases_25 :: sk) e h R = (vc2 C n [] (.code c_laws_FnExactValidPhases_10 :: .code c_laws_FnExactValidPhases_24 :: sk) e h R) := nr rfl
@[simp, simp ↓] theorem c_laws_FnExactValidPhases_26_r : vc2 C (n + 1) [] (.code c_laws_FnExactValidPhases_26 :: sk) e h R = (vc2 C n [] (.code c_laws_FnExactValidPhases_9 :: .code c_laws_FnExactValidPhases_25 :: sk) e h R) := nr rfl
@[simp, simp ↓] theorem c_laws_FnExactValidPhases_27_r : vc2 C (n + 1) [] (.code c_laws_FnExactValidPhases_27 :: sk) e h R = (vc2 C n [] (.code c_laws_FnExactValidPhases_8 :: .code c_laws_FnExactValidPhases_26 :: sk) e h R) := nr rfl
@[simp, simp ↓] theorem c_laws_FnExactValidPhases_28_r : vc2 C (n + 1) [] (.code c_laws_FnExactValidPhases_28 :: sk) e h R = (vc2 C n [] (.code c_laws_FnExactValidPhases_7 :: .code c_laws_FnExactValidPhases_27 :: sk) e h R) := nr rfl
@[simp, simp ↓] theorem c_laws_FnExactValidPhases_29_r : vc2 C (n + 1) [] (.code c_laws_FnExactValidPhases_29 :: sk) e h R = (vc2 C n [] (.code c_laws_FnExactValidPhases_2 :: .code c_laws_FnExactValidPhases_28 :: sk) e h R) := nr rfl
@[simp, simp ↓] theorem c_laws_FnExactValidPhases_30_r : vc2 C (n + 1) [] (.code c_laws_FnExactValidPhases_30 :: sk) e h R = (vc2 C n [] (.code c_laws_FnExactValidPhases_1 :: .code c_laws_FnExactValidPhases_29 :: sk) e h R) := nr rfl
@[simp, simp ↓] theorem c_laws_FnExactValidPhases_31_r : vc2 C (n + 1) [] (.code c_laws_FnExactValidPhases_31 :: sk) e h R = (vc2 C n [] (.code c_laws_FnExactValidPhases_0 :: .code c_laws_FnExactValidPhases_30 :: sk) e h R) := nr rfl
end
noncomputable def c_laws_FnExactValidPhases_C (orc : Orc) : Cx := ⟨Try.prog, [5], 4, 27, [.tmp 2], orc⟩
@[simp] theorem c_laws_FnExactValidPhases_C_P (orc : Orc) : (c_laws_FnExactValidPhases_C orc).P = Try.prog := nr rfl
@[simp] theorem c_laws_FnExactValidPhases_C_o (orc : Orc) : (c_laws_FnExactValidPhases_C orc).orc = orc := nr rfl
@[simp] theorem c_laws_FnExactValidPhases_C_r (orc : Orc) : (c_laws_FnExactValidPhases_C orc).res = [.tmp 2] := nr rfl
theorem c_laws_FnExactValidPhases_of {args : List AV} {h : Heap} {R : AV → Heap → Prop} (ha : args.length = 1) {orc : Orc} (hp : Pure Try.prog orc) (hk : Is (c_laws_FnExactValidPhases_C orc) Try.f4 → Run2 (c_laws_FnExactValidPhases_C orc) [.code c_laws_FnExactValidPhases_31] (argEnv 0 args) h (Post R)) : ACalls Try.prog 4 args h R :=
  contract2 [5] c_laws_FnExactValidPhases_31 [.tmp 2] Try.func4 (by decide +kernel) rfl (by kernel_rfl) (by rw [ha]; decide +kernel) (by kernel_rfl) hp hk
theorem c_laws_FnExactValidPhases_of0 {args : List AV} {h : Heap} {R : AV → Heap → Prop} (ha : args.length = 1) {orc : Orc} (hp : Pure Try.prog orc) (hk : Is (c_laws_FnExactValidPhases_C orc) Try.f4 → Run2 (c_laws_FnExactValidPhases_C orc) [.code c_laws_FnExactValidPhases_31] (argEnv 0 args) h R) : ACalls Try.prog 4 args h R :=
  contract20 [5] c_laws_FnExactValidPhases_31 [.tmp 2] Try.func4 (by decide +kernel) rfl (by kernel_rfl) (by rw [ha]; decide +kernel) (by kernel_rfl) hp hk
theorem valid_law (p : Ph) (hp : p.wf) : ACalls Try.prog 4 [p.av] [] (fun v h' => v = .bool true ∧ h' = []) := by
  refine c_laws_FnExactValidPhases_of0 rfl orcL_p fun I => ?_
  refine Run2.of I 1000 ?_
  simp -implicitDefEqProofs [hp.1, hp.2]
  split <;> omega
end Go.AG
namespace Go.Proofs.Ytknonamjhdlmlaa
open Go.ChangeShapes Go.WideShapes Go.ChangeAt Go.RowKit Go.AG
theorem own : ownKnob Try.prog.godebug = none := by kernel_rfl
theorem laidOut : laidOutB Try.prog = true := by kernel_rfl
set_option maxRecDepth 100000 in
theorem fnExactValidPhases_lifted (os : Os) (started : os.Started) (H : Type) (enc : TypeId × Value → H) :
    ReturnsInHanded {} Try.checked os 4 .any (Rows.fnExactValidPhasesSpec.pre6 enc Try.prog Try.f4 Rows.fnExactValidPhasesRow.domain false) (Rows.fnExactValidPhasesSpec.post enc Try.prog Try.f4 false true false false) := by
  refine returnsInHanded_of_change (C := Try.checked) own started (by kernel_rfl) Try.func4
    (ChangeSpec.witness6 (enc := enc) (C := Try.checked) false ⟨#[], #[.agg #[.int .i64 0, .int .i64 0, .slice none 0 0]], []⟩ 8 (by kernel_rfl) (by kernel_rfl) (by kernel_rfl) (by kernel_rfl)) ?_
  intro W base args ds gs before hval0 hW _ _
  have hval : ∀ (j : Nat) t v, Try.f4.params[j]? = some t → args[j]? = some v → Value.okWide Try.prog W .any base t v := hval0
  refine law_post (tys := [tyPh]) (tb := 4) laidOut rfl (by kernel_rfl) (by kernel_rfl) (by kernel_rfl) (by kernel_rfl) hval hW ?_ ?_
  · intro ds h
    match ds, h with
    | [a0], _ => rfl
  · rintro xs ⟨x0, r0, rfl, h0, hr⟩
    have hr0 : r0 = [] := hr
    subst hr0
    obtain ⟨p0, rfl, q0⟩ := Ph_of_shape h0
    exact valid_law p0 q0
theorem fnExactValidPhases_holds : Rows.FnExactValidPhasesSaid :=
  OpenClaim.holds_of_wide 4 Try.f4 rfl rfl rfl rfl rfl rfl rfl ⟨rfl, rfl, rfl, rfl, rfl⟩ rfl rfl rfl rfl rfl (by kernel_rfl) Try.func4 (by kernel_rfl)
    (of_decide_eq_true (by kernel_rfl)) (by unfold Func.isWrapper; first | (rw [if_pos (by decide +kernel)]; kernel_rfl) | (rw [if_neg (by decide +kernel)]; exact ⟨rfl, rfl⟩))
    (fun os started H enc _ => fnExactValidPhases_lifted os started H enc)
end Go.Proofs.Ytknonamjhdlmlaa
