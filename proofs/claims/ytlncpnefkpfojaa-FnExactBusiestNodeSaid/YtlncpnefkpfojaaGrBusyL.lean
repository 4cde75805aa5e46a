/- The law FnExactBusiestNode is true for every input: the program's BusiestNode returns what the reference's returns. -/
import Derived.Test.YtlncpnefkpfojaaGrBusy
namespace Go.AG
open Go.Proofs Go.Proofs.Ytlncpnefkpfojaa
set_option linter.unusedSimpArgs false
set_option linter.unusedVariables false
set_option maxRecDepth 4000
noncomputable def orcM : List (Nat × (List AV → Option (Prop × AV))) := (15, o_szGraph) :: []
theorem orcM_p : Pure Try.prog (lk orcM) := (lk_pure o_szGraph_k lk_pure0)
@[simp] theorem orcM_l (g : FuncId) (l : List AV) : lk orcM g l = if g = 15 then o_szGraph l else none := nr rfl
abbrev c_laws_FnExactBusiestNode_o0 : List AJ := [.o ⟨(some 1), none, false, .box false 2 (.t 0), none⟩, .o ⟨(some 2), none, false, .mv (.c (.bool false)), (some [1])⟩]
def c_laws_FnExactBusiestNode_0 : ACode := .region c_laws_FnExactBusiestNode_o0
abbrev c_laws_FnExactBusiestNode_o1 : List AJ := [.o ⟨(some 3), none, false, .mv (.c (.int .i64 1048576)), (some [1, 3])⟩]
def c_laws_FnExactBusiestNode_1 : ACode := .region c_laws_FnExactBusiestNode_o1
abbrev c_laws_FnExactBusiestNode_o2 : List AJ := [.o ⟨(some 11), none, false, .load 2 true (.t 1), none⟩, .o ⟨(some 12), none, false, .mv (.t 3), none⟩, .o ⟨(some 13), none, false, .call 15 [(.t 11), (.t 12)], none⟩, .o ⟨(some 3), none, false, .mv (.t 13), (some [1, 3])⟩]
def c_laws_FnExactBusiestNode_2 : ACode := .region c_laws_FnExactBusiestNode_o2
abbrev c_laws_FnExactBusiestNode_o3 : List AJ := [.o ⟨(some 14), none, false, .mv (.t 3), none⟩, .o ⟨(some 15), none, false, .bin .lss (.t 14) (.c (.int .i64 0)), (some [1, 15])⟩]
def c_laws_FnExactBusiestNode_3 : ACode := .region c_laws_FnExactBusiestNode_o3
abbrev c_laws_FnExactBusiestNode_o4 : List AJ := [.o ⟨(some 2), none, false, .mv (.c (.bool true)), (some [2])⟩]
def c_laws_FnExactBusiestNode_4 : ACode := .region c_laws_FnExactBusiestNode_o4
def c_laws_FnExactBusiestNode_5 : ACode := .seq c_laws_FnExactBusiestNode_4 .ret
def c_laws_FnExactBusiestNode_6 : ACode := .cond (.t 15) c_laws_FnExactBusiestNode_5 .skip
def c_laws_FnExactBusiestNode_7 : ACode := .seq c_laws_FnExactBusiestNode_3 c_laws_FnExactBusiestNode_6
abbrev c_laws_FnExactBusiestNode_o5 : List AJ := [.o ⟨(some 17), none, false, .load 2 true (.t 1), none⟩, .o ⟨(some 18), none, false, .call 17 [(.t 17)], none⟩, .o ⟨(some 19), none, false, .call 16 [(.t 18)], none⟩, .o ⟨(some 16), none, false, .mv (.t 19), none⟩, .o ⟨(some 20), none, false, .extract (.t 16) 0, none⟩, .o ⟨(some 21), none, false, .extract (.t 16) 1, none⟩, .o ⟨(some 22), none, false, .extract (.t 16) 2, none⟩, .o ⟨(some 4), none, false, .mv (.t 20), none⟩, .o ⟨(some 5), none, false, .mv (.t 21), none⟩, .o ⟨(some 6), none, false, .mv (.t 22), (some [1, 4, 5, 6])⟩]
def c_laws_FnExactBusiestNode_8 : ACode := .region c_laws_FnExactBusiestNode_o5
abbrev c_laws_FnExactBusiestNode_o6 : List AJ := [.o ⟨(some 23), none, false, .load 2 true (.t 1), none⟩, .o ⟨(some 24), none, false, .call 17 [(.t 23)], none⟩, .v 7 2 (.agg [(.int .i64 0), .nilsl]) [] (.t 24) (some [1, 4, 5, 6, 7])]
def c_laws_FnExactBusiestNode_9 : ACode := .region c_laws_FnExactBusiestNode_o6
abbrev c_laws_FnExactBusiestNode_o7 : List AJ := [.o ⟨(some 26), none, false, .load 2 true (.t 7), none⟩, .o ⟨(some 27), none, false, .call 18 [(.t 26)], none⟩, .o ⟨(some 25), none, false, .mv (.t 27), none⟩, .o ⟨(some 28), none, false, .extract (.t 25) 0, none⟩, .o ⟨(some 29), none, false, .extract (.t 25) 1, none⟩, .o ⟨(some 30), none, false, .extract (.t 25) 2, none⟩, .o ⟨(some 8), none, false, .mv (.t 28), none⟩, .o ⟨(some 9), none, false, .mv (.t 29), none⟩, .o ⟨(some 10), none, false, .mv (.t 30), (some [1, 4, 5, 6, 7, 8, 9, 10])⟩]
def c_laws_FnExactBusiestNode_10 : ACode := .region c_laws_FnExactBusiestNode_o7
abbrev c_laws_FnExactBusiestNode_o8 : List AJ := [.o ⟨(some 31), none, false, .mv (.t 8), none⟩, .o ⟨(some 32), none, false, .mv (.t 4), none⟩, .o ⟨(some 33), none, false, .bin .neq (.t 31) (.t 32), none⟩, .o ⟨(some 34), none, false, .mv (.t 33), none⟩, .o ⟨(some 35), (some (34, false)), false, .mv (.t 9), none⟩, .o ⟨(some 36), (some (34, false)), false, .mv (.t 5), none⟩, .o ⟨(some 37), (some (34, false)), false, .bin .neq (.t 35) (.t 36), none⟩, .o ⟨(some 38), none, false, .pick (.t 34) (.c (.bool true)) (.t 37), none⟩, .o ⟨(some 39), none, false, .mv (.t 38), none⟩, .o ⟨(some 40), (some (39, false)), false, .mv (.t 10), (some [1, 6, 7, 39, 40])⟩, .o ⟨(some 41), (some (39, false)), false, .mv (.t 6), none⟩, .o ⟨(some 42), (some (39, false)), false, .bin .neq (.t 40) (.t 41), none⟩, .o ⟨(some 43), none, false, .pick (.t 39) (.c (.bool true)) (.t 42), (some [1, 7, 43])⟩]
def c_laws_FnExactBusiestNode_11 : ACode := .region c_laws_FnExactBusiestNode_o8
abbrev c_laws_FnExactBusiestNode_o9 : List AJ := [.o ⟨(some 2), none, false, .mv (.c (.bool false)), (some [2])⟩]
def c_laws_FnExactBusiestNode_12 : ACode := .region c_laws_FnExactBusiestNode_o9
def c_laws_FnExactBusiestNode_13 : ACode := .seq c_laws_FnExactBusiestNode_12 .ret
def c_laws_FnExactBusiestNode_14 : ACode := .cond (.t 43) c_laws_FnExactBusiestNode_13 .skip
def c_laws_FnExactBusiestNode_15 : ACode := .seq c_laws_FnExactBusiestNode_11 c_laws_FnExactBusiestNode_14
abbrev c_laws_FnExactBusiestNode_o10 : List AI := [⟨(some 44), none, false, .load 2 true (.t 7), none⟩, ⟨(some 45), none, false, .load 2 true (.t 1), none⟩, ⟨(some 46), none, false, .call 17 [(.t 45)], none⟩, ⟨(some 47), none, false, .call 19 [(.t 44), (.t 46)], none⟩, ⟨(some 48), none, false, .un .not (.t 47), (some [48])⟩]
def c_laws_FnExactBusiestNode_16 : ACode := .draw c_laws_FnExactBusiestNode_o10 [] rfl
abbrev c_laws_FnExactBusiestNode_o11 : List AJ := [.o ⟨(some 2), none, false, .mv (.c (.bool false)), (some [2])⟩]
def c_laws_FnExactBusiestNode_17 : ACode := .region c_laws_FnExactBusiestNode_o11
def c_laws_FnExactBusiestNode_18 : ACode := .seq c_laws_FnExactBusiestNode_17 .ret
def c_laws_FnExactBusiestNode_19 : ACode := .cond (.t 48) c_laws_FnExactBusiestNode_18 .skip
def c_laws_FnExactBusiestNode_20 : ACode := .seq c_laws_FnExactBusiestNode_16 c_laws_FnExactBusiestNode_19
abbrev c_laws_FnExactBusiestNode_o12 : List AJ := [.o ⟨(some 2), none, false, .mv (.c (.bool true)), (some [2])⟩]
def c_laws_FnExactBusiestNode_21 : ACode := .region c_laws_FnExactBusiestNode_o12
def c_laws_FnExactBusiestNode_22 : ACode := .seq c_laws_FnExactBusiestNode_21 .ret
def c_laws_FnExactBusiestNode_23 : ACode := .seq c_laws_FnExactBusiestNode_20 c_laws_FnExactBusiestNode_22
def c_laws_FnExactBusiestNode_24 : ACode := .seq c_laws_FnExactBusiestNode_15 c_laws_FnExactBusiestNode_23
def c_laws_FnExactBusiestNode_25 : ACode := .seq c_laws_FnExactBusiestNode_10 c_laws_FnExactBusiestNode_24
def c_laws_FnExactBusiestNode_26 : ACode := .seq c_laws_FnExactBusiestNode_9 c_laws_FnExactBusiestNode_25
def c_laws_FnExactBusiestNode_27 : ACode := .seq c_laws_FnExactBusiestNode_8 c_laws_FnExactBusiestNode_26
def c_laws_FnExactBusiestNode_28 : ACode := .seq c_laws_FnExactBusiestNode_7 c_laws_FnExactBusiestNode_27
def c_laws_FnExactBusiestNode_29 : ACode := .seq c_laws_FnExactBusiestNode_2 c_laws_FnExactBusiestNode_28
def c_laws_FnExactBusiestNode_30 : ACode := .seq c_laws_FnExactBusiestNode_1 c_laws_FnExactBusiestNode_29
def c_laws_FnExactBusiestNode_31 : ACode := .seq c_laws_FnExactBusiestNode_0 c_laws_FnExactBusiestNode_30
section
variable (C : Cx) (n : Nat) (sk : List AItem) (e : Env) (h : Heap) (R : AV → Heap → Prop)
@[simp, simp ↓] theorem c_laws_FnExactBusiestNode_0_r : vc2 C (n + 1) [] (.code c_laws_FnExactBusiestNode_0 :: sk) e h R = (vc2 C n c_laws_FnExactBusiestNode_o0 sk e h R) := nr rfl
@[simp, simp ↓] theorem c_laws_FnExactBusiestNode_1_r : vc2 C (n + 1) [] (.code c_laws_FnExactBusiestNode_1 :: sk) e h R = (vc2 C n c_laws_FnExactBusiestNode_o1 sk e h R) := nr rfl
@[simp, simp ↓] theorem c_laws_FnExactBusiestNode_2_r : vc2 C (n + 1) [] (.code c_laws_FnExactBusiestNode_2 :: sk) e h R = (vc2 C n c_laws_FnExactBusiestNode_o2 sk e h R) := nr rfl
@[simp, simp ↓] theorem c_laws_FnExactBusiestNode_3_r : vc2 C (n + 1) [] (.code c_laws_FnExactBusiestNode_3 :: sk) e h R = (vc2 C n c_laws_FnExactBusiestNode_o3 sk e h R) := nr rfl
@[simp, simp ↓] theorem c_laws_FnExactBusiestNode_4_r : vc2 C (n + 1) [] (.code c_laws_FnExactBusiestNode_4 :: sk) e h R = (vc2 C n c_laws_FnExactBusiestNode_o4 sk e h R) := nr rfl
@[simp, simp ↓] theorem c_laws_FnExactBusiestNode_5_r : vc2 C (n + 1) [] (.code c_laws_FnExactBusiestNode_5 :: sk) e h R = (vc2 C n [] (.code c_laws_FnExactBusiestNode_4 :: .code .ret :: sk) e h R) := nr rfl
@[simp, simp ↓] theorem c_laws_FnExactBusiestNode_6_r : vc2 C (n + 1) [] (.code c_laws_FnExactBusiestNode_6 :: sk) e h R = (condK (ev e (.t 15)) (vc2 C n [] (.code c_laws_FnExactBusiestNode_5 :: sk) e h R) (vc2 C n [] (.code .skip :: sk) e h R)) := nr rfl
@[simp, simp ↓] theorem c_laws_FnExactBusiestNode_7_r : vc2 C (n + 1) [] (.code c_laws_FnExactBusiestNode_7 :: sk) e h R = (vc2 C n [] (.code c_laws_FnExactBusiestNode_3 :: .code c_laws_FnExactBusiestNode_6 :: sk) e h R) := nr rfl
@[simp, simp ↓] theorem c_laws_FnExactBusiestNode_8_r : vc2 C (n + 1) [] (.code c_laws_FnExactBusiestNode_8 :: sk) e h R = (vc2 C n c_laws_FnExactBusiestNode_o5 sk e h R) := nr rfl
@[simp, simp ↓] theorem c_laws_FnExactBusiestNode_9_r : vc2 C (n + 1) [] (.code c_laws_FnExactBusiestNode_9 :: sk) e h R = (vc2 C n c_laws_FnExactBusiestNode_o6 sk e h R) := nr rfl
@[simp, simp ↓] theorem c_laws_FnExactBusiestNode_10_r : vc2 C (n + 1) [] (.code c_laws_FnExactBusiestNode_10 :: sk) e h R = (vc2 C n c_laws_FnExactBusiestNode_o7 sk e h R) := nr rfl
@[simp, simp ↓] theorem c_laws_FnExactBusiestNode_11_r : vc2 C (n + 1) [] (.code c_laws_FnExactBusiestNode_11 :: sk) e h R = (vc2 C n c_laws_FnExactBusiestNode_o8 sk e h R) := nr rfl
@[simp, simp ↓] theorem c_laws_FnExactBusiestNode_12_r : vc2 C (n + 1) [] (.code c_laws_FnExactBusiestNode_12 :: sk) e h R = (vc2 C n c_laws_FnExactBusiestNode_o9 sk e h R) := nr rfl
@[simp, simp ↓] theorem c_laws_FnExactBusiestNode_13_r : vc2 C (n + 1) [] (.code c_laws_FnExactBusiestNode_13 :: sk) e h R = (vc2 C n [] (.code c_laws_FnExactBusiestNode_12 :: .code .ret :: sk) e h R) := nr rfl
@[simp, simp ↓] theorem c_laws_FnExactBusiestNode_14_r : vc2 C (n + 1) [] (.code c_laws_FnExactBusiestNode_14 :: sk) e h R = (condK (ev e (.t 43)) (vc2 C n [] (.code c_laws_FnExactBusiestNode_13 :: sk) e h R) (vc2 C n [] (.code .skip :: sk) e h R)) := nr rfl
@[simp, simp ↓] theorem c_laws_FnExactBusiestNode_15_r : vc2 C (n + 1) [] (.code c_laws_FnExactBusiestNode_15 :: sk) e h R = (vc2 C n [] (.code c_laws_FnExactBusiestNode_11 :: .code c_laws_FnExactBusiestNode_14 :: sk) e h R) := nr rfl
@[simp, simp ↓] theorem c_laws_FnExactBusiestNode_16_r : vc2 C (n + 1) [] (.code c_laws_FnExactBusiestNode_16 :: sk) e h R = (draw2 C h (vK C n [] sk R h) c_laws_FnExactBusiestNode_o10 e) := nr rfl
@[simp, simp ↓] theorem c_laws_FnExactBusiestNode_17_r : vc2 C (n + 1) [] (.code c_laws_FnExactBusiestNode_17 :: sk) e h R = (vc2 C n c_laws_FnExactBusiestNode_o11 sk e h R) := nr rfl
@[simp, simp ↓] theorem c_laws_FnExactBusiestNode_18_r : vc2 C (n + 1) [] (.code c_laws_FnExactBusiestNode_18 :: sk) e h R = (vc2 C n [] (.code c_laws_FnExactBusiestNode_17 :: .code .ret :: sk) e h R) := nr rfl
@[simp, simp ↓] theorem c_laws_FnExactBusiestNode_19_r : vc2 C (n + 1) [] (.code c_laws_FnExactBusiestNode_19 :: sk) e h R = (condK (ev e (.t 48)) (vc2 C n [] (.code c_laws_FnExactBusiestNode_18 :: sk) e h R) (vc2 C n [] (.code .skip :: sk) e h R)) := nr rfl
@[simp, simp ↓] theorem c_laws_FnExactBusiestNode_20_r : vc2 C (n + 1) [] (.code c_laws_FnExactBusiestNode_20 :: sk) e h R = (vc2 C n [] (.code c_laws_FnExactBusiestNode_16 :: .code c_laws_FnExactBusiestNode_19 :: sk) e h R) := nr rfl
@[simp, simp ↓] theorem c_laws_FnExactBusiestNode_21_r : vc2 C (n + 1) [] (.code c_laws_FnExactBusiestNode_21 :: sk) e h R = (vc2 C n c_laws_FnExactBusiestNode_o12 sk e h R) := nr rfl
@[simp, simp ↓] theorem c_laws_FnExactBusiestNode_22_r : vc2 C (n + 1) [] (.code c_laws_FnExactBusiestNode_22 :: sk) e h R = (vc2 C n [] (.code c_laws_FnExactBusiestNode_21 :: .code .ret :: sk) e h R) := nr rfl
@[simp, simp ↓] theorem c_laws_FnExactBusiestNode_23_r : vc2 C (n + 1) [] (.code c_laws_FnExactBusiestNode_23 :: sk) e h R = (vc2 C n [] (.code c_laws_FnExactBusiestNode_20 :: .code c_laws_FnExactBusiestNode_22 :: sk) e h R) := nr rfl
@[simp, simp ↓] theorem c_laws_FnExactBusiestNode_24_r : vc2 C (n + 1) [] (.code c_laws_FnExactBusiestNode_24 :: sk) e h R = (vc2 C n [] (.code c_laws_FnExactBusiestNode_15 :: .code c_laws_FnExactBusiestNode_23 :: sk) e h R) := nr rfl
@[simp, simp ↓] theorem c_laws_FnExactBusiestNode_25_r : vc2 C (n + 1) [] (.code c_laws_FnExactBusiestNode_25 :: sk) e h R = (vc2 C n [] (.code c_laws_FnExactBusiestNode_10 :: .code c_laws_FnExactBusiestNode_24 :: sk) e h R) := nr rfl
@[simp, simp ↓] theorem c_laws_FnExactBusiestNode_26_r : vc2 C (n + 1) [] (.code c_laws_FnExactBusiestNode_26 :: sk) e h R = (vc2 C n [] (.code c_laws_FnExactBusiestNode_9 :: .code c_laws_FnExactBusiestNode_25 :: sk) e h R) := nr rfl
@[simp, simp ↓] theorem c_laws_FnExactBusiestNode_27_r : vc2 C (n + 1) [] (.code c_laws_FnExactBusiestNode_27 :: sk) e h R = (vc2 C n [] (.code c_laws_FnExactBusiestNode_8 :: .code c_laws_FnExactBusiestNode_26 :: sk) e h R) := nr rfl
@[simp, simp ↓] theorem c_laws_FnExactBusiestNode_28_r : vc2 C (n + 1) [] (.code c_laws_FnExactBusiestNode_28 :: sk) e h R = (vc2 C n [] (.code c_laws_FnExactBusiestNode_7 :: .code c_laws_FnExactBusiestNode_27 :: sk) e h R) := nr rfl
@[simp, simp ↓] theorem c_laws_FnExactBusiestNode_29_r : vc2 C (n + 1) [] (.code c_laws_FnExactBusiestNode_29 :: sk) e h R = (vc2 C n [] (.code c_laws_FnExactBusiestNode_2 :: .code c_laws_FnExactBusiestNode_28 :: sk) e h R) := nr rfl
@[simp, simp ↓] theorem c_laws_FnExactBusiestNode_30_r : vc2 C (n + 1) [] (.code c_laws_FnExactBusiestNode_30 :: sk) e h R = (vc2 C n [] (.code c_laws_FnExactBusiestNode_1 :: .code c_laws_FnExactBusiestNode_29 :: sk) e h R) := nr rfl
@[simp, simp ↓] theorem c_laws_FnExactBusiestNode_31_r : vc2 C (n + 1) [] (.code c_laws_FnExactBusiestNode_31 :: sk) e h R = (vc2 C n [] (.code c_laws_FnExactBusiestNode_0 :: .code c_laws_FnExactBusiestNode_30 :: sk) e h R) := nr rfl
end
noncomputable def c_laws_FnExactBusiestNode_C (orc : Orc) : Cx := ⟨Try.prog, [7], 3, 49, [.tmp 2], orc⟩
@[simp] theorem c_laws_FnExactBusiestNode_C_P (orc : Orc) : (c_laws_FnExactBusiestNode_C orc).P = Try.prog := nr rfl
@[simp] theorem c_laws_FnExactBusiestNode_C_o (orc : Orc) : (c_laws_FnExactBusiestNode_C orc).orc = orc := nr rfl
@[simp] theorem c_laws_FnExactBusiestNode_C_r (orc : Orc) : (c_laws_FnExactBusiestNode_C orc).res = [.tmp 2] := nr rfl
theorem c_laws_FnExactBusiestNode_of {args : List AV} {h : Heap} {R : AV → Heap → Prop} {k : Nat} (ha : args.length = k) {orc : Orc} (hp : Pure Try.prog orc) (hk : Is (c_laws_FnExactBusiestNode_C orc) Try.f3 → Run2 (c_laws_FnExactBusiestNode_C orc) [.code c_laws_FnExactBusiestNode_31] (argEnv 0 args) h (Post R)) (hle : k ≤ 49 := by simp) : ACalls Try.prog 3 args h R :=
  contract2 [7] c_laws_FnExactBusiestNode_31 [.tmp 2] Try.func3 (by decide +kernel) rfl (by kernel_rfl) (by rw [ha]; exact hle) (by kernel_rfl) hp hk
theorem c_laws_FnExactBusiestNode_of0 {args : List AV} {h : Heap} {R : AV → Heap → Prop} {k : Nat} (ha : args.length = k) {orc : Orc} (hp : Pure Try.prog orc) (hk : Is (c_laws_FnExactBusiestNode_C orc) Try.f3 → Run2 (c_laws_FnExactBusiestNode_C orc) [.code c_laws_FnExactBusiestNode_31] (argEnv 0 args) h R) (hle : k ≤ 49 := by simp) : ACalls Try.prog 3 args h R :=
  contract20 [7] c_laws_FnExactBusiestNode_31 [.tmp 2] Try.func3 (by decide +kernel) rfl (by kernel_rfl) (by rw [ha]; exact hle) (by kernel_rfl) hp hk
theorem busy_law (x : Gr) (hx : x.wf) : ACalls Try.prog 3 [x.av] [] (fun v h' => v = .bool true ∧ h' = []) := by
  refine c_laws_FnExactBusiestNode_of rfl orcM_p fun I => ?_
  have hx2_x := hx.2
  refine Run2.of I 1000 ?_
  by_cases kx : (x.ts.length : Int) ≤ (1048576 : Int)
  · have hAx : ¬ (1048576 : Int) < x.ts.length := by omega
    have hBx : ¬ (1048576 : Int) - x.ts.length < 0 := by omega
    have hCx : (0 : Int) ≤ (1048576 : Int) - x.ts.length := by omega
    have lx : x.ts.length ≤ 1048576 := by omega
    simp -implicitDefEqProofs [hx2_x, hAx, hBx, hCx]
    first | refine dcallK (toGraph_c x _ lx) ?_ | (refine (toGraph_c x _ lx).mono ?_; rintro v h' ⟨rfl, rfl⟩; refine gK.go ?_)
    simp -implicitDefEqProofs
    first | refine dcallK (specBusy_c x _ lx hx.1) ?_ | (refine (specBusy_c x _ lx hx.1).mono ?_; rintro v h' ⟨rfl, rfl⟩; refine gK.go ?_)
    simp -implicitDefEqProofs
    refine (toGraph_o x _ lx).monoN ?_
    rintro v0 h' ⟨g0, o0, d0, rfl⟩ n0
    obtain ⟨u0, rfl, ou0⟩ := id o0
    have c0 := ou0.cell
    refine gK.go ?_
    simp -implicitDefEqProofs [c0]
    simp only [List.append_nil] at n0
    skip
    have L0 := o0.lentIn (L := g0) (fun p hp => hp) n0
    first | refine dcallK (ACalls.reads g0 (fun p hp => hp) (v0 := .tup [.int .i64 (x.bIdx), .int .i64 (x.bMax), .int .i64 (x.bCode)]) ?_ rfl) ?_ | (refine (ACalls.reads g0 (fun p hp => hp) (v0 := .tup [.int .i64 (x.bIdx), .int .i64 (x.bMax), .int .i64 (x.bCode)]) ?_ rfl).mono ?_)
    · rw [lend_cons, lend_nil']
      exact ACalls.wk (.cons L0.wk .nil) (implBusy_o x lx hx.1)
    try (rintro v h' ⟨rfl, rfl⟩; refine gK.go ?_)
    simp -implicitDefEqProofs [c0]
    first | refine dcallK (toGraph_c x _ lx) ?_ | (refine (toGraph_c x _ lx).mono ?_; rintro v h' ⟨rfl, rfl⟩; refine gK.go ?_)
    simp -implicitDefEqProofs [c0]
    first | refine dcallK (eqG_own o0 x.is (fun p hp => hp) lx) ?_ | (refine (eqG_own o0 x.is (fun p hp => hp) lx).mono ?_; rintro v h' ⟨rfl, rfl⟩; refine gK.go ?_)
    simp -implicitDefEqProofs [c0]
    exact Post.none ⟨rfl, rfl⟩
  · have hAx : (1048576 : Int) < x.ts.length := by omega
    simp -implicitDefEqProofs [hx2_x, hAx]
    exact .base ⟨rfl, rfl⟩
end Go.AG
namespace Go.Proofs.Ytlncpnefkpfojaa
open Go.ChangeShapes Go.WideShapes Go.ChangeAt Go.RowKit Go.AG
theorem own : ownKnob Try.prog.godebug = none := by kernel_rfl
theorem laidOut : laidOutB Try.prog = true := by kernel_rfl
set_option maxRecDepth 100000 in
theorem fnExactBusiestNode_lifted (os : Os) (started : os.Started) (H : Type) (enc : TypeId × Value → H) :
    ReturnsInHanded {} Try.checked os 3 .any (Rows.fnExactBusiestNodeSpec.pre6 enc Try.prog Try.f3 Rows.fnExactBusiestNodeRow.domain false) (Rows.fnExactBusiestNodeSpec.post enc Try.prog Try.f3 false true false false) := by
  refine returnsInHanded_of_change (C := Try.checked) own started (by kernel_rfl) Try.func3
    (ChangeSpec.witness6 (enc := enc) (C := Try.checked) false ⟨#[], #[.agg #[.int .i64 0, .slice none 0 0]], []⟩ 8 (by kernel_rfl) (by kernel_rfl) (by kernel_rfl) (by kernel_rfl)) ?_
  intro W base args ds gs before hval0 hW _ _
  have hval : ∀ (j : Nat) t v, Try.f3.params[j]? = some t → args[j]? = some v → Value.okWide Try.prog W .any base t v := hval0
  refine law_post (tys := [tyG]) (tb := 4) laidOut rfl (by kernel_rfl) (by kernel_rfl) (by kernel_rfl) (by kernel_rfl) hval hW ?_ ?_
  · intro ds h
    match ds, h with
    | [a0], _ => rfl
  · rintro xs ⟨x0, r0, rfl, h0, hr⟩
    have hr0 : r0 = [] := hr
    subst hr0
    obtain ⟨p0, rfl, q0⟩ := Gr_of_shape h0
    exact busy_law p0 q0
theorem fnExactBusiestNode_holds : Rows.FnExactBusiestNodeSaid :=
  OpenClaim.holds_of_wide 3 Try.f3 rfl rfl rfl rfl rfl rfl rfl ⟨rfl, rfl, rfl, rfl, rfl⟩ rfl rfl rfl rfl rfl (by kernel_rfl) Try.func3 (by kernel_rfl)
    (of_decide_eq_true (by kernel_rfl)) (by unfold Func.isWrapper; first | (rw [if_pos (by decide +kernel)]; kernel_rfl) | (rw [if_neg (by decide +kernel)]; exact ⟨rfl, rfl⟩))
    (fun os started H enc _ => fnExactBusiestNode_lifted os started H enc)
end Go.Proofs.Ytlncpnefkpfojaa
