/- The law FnExactLongestBar is true for every input: the program's LongestBar returns what the reference's returns. -/
import Derived.Test.YtdgahpcgenlcjaaBrBest
namespace Go.AG
open Go.Proofs Go.Proofs.Ytdgahpcgenlcjaa
set_option linter.unusedSimpArgs false
set_option linter.unusedVariables false
set_option maxRecDepth 4000
noncomputable def orcM : List (Nat × (List AV → Option (Prop × AV))) := (9, o_szBarS) :: (18, o_eqBar) :: []
theorem orcM_p : Pure Try.prog (lk orcM) := (lk_pure o_szBarS_k (lk_pure o_eqBar_k lk_pure0))
@[simp] theorem orcM_l (g : FuncId) (l : List AV) : lk orcM g l = if g = 9 then o_szBarS l else if g = 18 then o_eqBar l else none := nr rfl
abbrev c_laws_FnExactLongestBar_o0 : List AJ := [.o ⟨(some 4), none, false, .mv (.c (.bool false)), (some [0, 1])⟩]
def c_laws_FnExactLongestBar_0 : ACode := .region c_laws_FnExactLongestBar_o0
abbrev c_laws_FnExactLongestBar_o1 : List AJ := [.o ⟨(some 5), none, false, .mv (.c (.int .i64 1048576)), (some [0, 1, 5])⟩]
def c_laws_FnExactLongestBar_1 : ACode := .region c_laws_FnExactLongestBar_o1
abbrev c_laws_FnExactLongestBar_o2 : List AJ := [.o ⟨(some 11), none, false, .mv (.t 0), none⟩, .o ⟨(some 12), none, false, .mv (.t 5), none⟩, .o ⟨(some 13), none, false, .call 9 [(.t 11), (.t 12)], none⟩, .o ⟨(some 5), none, false, .mv (.t 13), (some [0, 1, 5])⟩]
def c_laws_FnExactLongestBar_2 : ACode := .region c_laws_FnExactLongestBar_o2
abbrev c_laws_FnExactLongestBar_o3 : List AJ := [.o ⟨(some 14), none, false, .mv (.t 5), none⟩, .o ⟨(some 15), none, false, .bin .lss (.t 14) (.c (.int .i64 0)), (some [0, 1, 15])⟩]
def c_laws_FnExactLongestBar_3 : ACode := .region c_laws_FnExactLongestBar_o3
abbrev c_laws_FnExactLongestBar_o4 : List AJ := [.o ⟨(some 4), none, false, .mv (.c (.bool true)), (some [4])⟩]
def c_laws_FnExactLongestBar_4 : ACode := .region c_laws_FnExactLongestBar_o4
def c_laws_FnExactLongestBar_5 : ACode := .seq c_laws_FnExactLongestBar_4 .ret
def c_laws_FnExactLongestBar_6 : ACode := .cond (.t 15) c_laws_FnExactLongestBar_5 .skip
def c_laws_FnExactLongestBar_7 : ACode := .seq c_laws_FnExactLongestBar_3 c_laws_FnExactLongestBar_6
abbrev c_laws_FnExactLongestBar_o5 : List AJ := [.o ⟨(some 17), none, false, .mv (.t 0), none⟩, .o ⟨(some 18), none, false, .call 11 [(.t 17)], none⟩, .o ⟨(some 19), none, false, .mv (.t 1), none⟩, .o ⟨(some 20), none, false, .call 16 [(.t 18), (.t 19)], none⟩, .o ⟨(some 16), none, false, .mv (.t 20), none⟩, .o ⟨(some 21), none, false, .extract (.t 16) 0, none⟩, .o ⟨(some 22), none, false, .extract (.t 16) 1, none⟩, .v 6 3 (.agg [(.int .i64 0), (.int .i64 0), (.int .i64 0)]) [] (.t 21) none, .o ⟨(some 7), none, false, .mv (.t 22), (some [0, 1, 6, 7])⟩]
def c_laws_FnExactLongestBar_8 : ACode := .region c_laws_FnExactLongestBar_o5
abbrev c_laws_FnExactLongestBar_o6 : List AJ := [.o ⟨(some 23), none, false, .mv (.t 0), none⟩, .o ⟨(some 24), none, false, .call 11 [(.t 23)], none⟩, .o ⟨(some 8), none, false, .mv (.t 24), (some [0, 1, 6, 7, 8])⟩]
def c_laws_FnExactLongestBar_9 : ACode := .region c_laws_FnExactLongestBar_o6
abbrev c_laws_FnExactLongestBar_o7 : List AJ := [.o ⟨(some 26), none, false, .mv (.t 8), none⟩, .o ⟨(some 27), none, false, .mv (.t 1), none⟩, .o ⟨(some 28), none, false, .call 17 [(.t 26), (.t 27)], none⟩, .o ⟨(some 25), none, false, .mv (.t 28), none⟩, .o ⟨(some 29), none, false, .extract (.t 25) 0, none⟩, .o ⟨(some 30), none, false, .extract (.t 25) 1, none⟩, .v 9 3 (.agg [(.int .i64 0), (.int .i64 0), (.int .i64 0)]) [] (.t 29) none, .o ⟨(some 10), none, false, .mv (.t 30), (some [0, 6, 7, 8, 9, 10])⟩]
def c_laws_FnExactLongestBar_10 : ACode := .region c_laws_FnExactLongestBar_o7
abbrev c_laws_FnExactLongestBar_o8 : List AJ := [.o ⟨(some 31), none, false, .load 3 true (.t 9), none⟩, .o ⟨(some 32), none, false, .load 3 true (.t 6), none⟩, .o ⟨(some 33), none, false, .call 18 [(.t 31), (.t 32)], none⟩, .o ⟨(some 34), none, false, .un .not (.t 33), none⟩, .o ⟨(some 35), none, false, .mv (.t 34), none⟩, .o ⟨(some 36), (some (35, false)), false, .mv (.t 10), none⟩, .o ⟨(some 37), (some (35, false)), false, .mv (.t 7), none⟩, .o ⟨(some 38), (some (35, false)), false, .bin .neq (.t 36) (.t 37), none⟩, .o ⟨(some 39), none, false, .pick (.t 35) (.c (.bool true)) (.t 38), (some [0, 8, 39])⟩]
def c_laws_FnExactLongestBar_11 : ACode := .region c_laws_FnExactLongestBar_o8
abbrev c_laws_FnExactLongestBar_o9 : List AJ := [.o ⟨(some 4), none, false, .mv (.c (.bool false)), (some [4])⟩]
def c_laws_FnExactLongestBar_12 : ACode := .region c_laws_FnExactLongestBar_o9
def c_laws_FnExactLongestBar_13 : ACode := .seq c_laws_FnExactLongestBar_12 .ret
def c_laws_FnExactLongestBar_14 : ACode := .cond (.t 39) c_laws_FnExactLongestBar_13 .skip
def c_laws_FnExactLongestBar_15 : ACode := .seq c_laws_FnExactLongestBar_11 c_laws_FnExactLongestBar_14
abbrev c_laws_FnExactLongestBar_o10 : List AJ := [.o ⟨(some 40), none, false, .mv (.t 8), none⟩, .o ⟨(some 41), none, false, .mv (.t 0), none⟩, .o ⟨(some 42), none, false, .call 11 [(.t 41)], none⟩, .o ⟨(some 43), none, false, .call 13 [(.t 40), (.t 42)], none⟩, .o ⟨(some 44), none, false, .un .not (.t 43), (some [44])⟩]
def c_laws_FnExactLongestBar_16 : ACode := .region c_laws_FnExactLongestBar_o10
abbrev c_laws_FnExactLongestBar_o11 : List AJ := [.o ⟨(some 4), none, false, .mv (.c (.bool false)), (some [4])⟩]
def c_laws_FnExactLongestBar_17 : ACode := .region c_laws_FnExactLongestBar_o11
def c_laws_FnExactLongestBar_18 : ACode := .seq c_laws_FnExactLongestBar_17 .ret
def c_laws_FnExactLongestBar_19 : ACode := .cond (.t 44) c_laws_FnExactLongestBar_18 .skip
def c_laws_FnExactLongestBar_20 : ACode := .seq c_laws_FnExactLongestBar_16 c_laws_FnExactLongestBar_19
abbrev c_laws_FnExactLongestBar_o12 : List AJ := [.o ⟨(some 4), none, false, .mv (.c (.bool true)), (some [4])⟩]
def c_laws_FnExactLongestBar_21 : ACode := .region c_laws_FnExactLongestBar_o12
def c_laws_FnExactLongestBar_22 : ACode := .seq c_laws_FnExactLongestBar_21 .ret
def c_laws_FnExactLongestBar_23 : ACode := .seq c_laws_FnExactLongestBar_20 c_laws_FnExactLongestBar_22
def c_laws_FnExactLongestBar_24 : ACode := .seq c_laws_FnExactLongestBar_15 c_laws_FnExactLongestBar_23
def c_laws_FnExactLongestBar_25 : ACode := .seq c_laws_FnExactLongestBar_10 c_laws_FnExactLongestBar_24
def c_laws_FnExactLongestBar_26 : ACode := .seq c_laws_FnExactLongestBar_9 c_laws_FnExactLongestBar_25
def c_laws_FnExactLongestBar_27 : ACode := .seq c_laws_FnExactLongestBar_8 c_laws_FnExactLongestBar_26
def c_laws_FnExactLongestBar_28 : ACode := .seq c_laws_FnExactLongestBar_7 c_laws_FnExactLongestBar_27
def c_laws_FnExactLongestBar_29 : ACode := .seq c_laws_FnExactLongestBar_2 c_laws_FnExactLongestBar_28
def c_laws_FnExactLongestBar_30 : ACode := .seq c_laws_FnExactLongestBar_1 c_laws_FnExactLongestBar_29
def c_laws_FnExactLongestBar_31 : ACode := .seq c_laws_FnExactLongestBar_0 c_laws_FnExactLongestBar_30
section
variable (C : Cx) (n : Nat) (sk : List AItem) (e : Env) (h : Heap) (R : AV → Heap → Prop)
@[simp, simp ↓] theorem c_laws_FnExactLongestBar_0_r : vc2 C (n + 1) [] (.code c_laws_FnExactLongestBar_0 :: sk) e h R = (vc2 C n c_laws_FnExactLongestBar_o0 sk e h R) := nr rfl
@[simp, simp ↓] theorem c_laws_FnExactLongestBar_1_r : vc2 C (n + 1) [] (.code c_laws_FnExactLongestBar_1 :: sk) e h R = (vc2 C n c_laws_FnExactLongestBar_o1 sk e h R) := nr rfl
@[simp, simp ↓] theorem c_laws_FnExactLongestBar_2_r : vc2 C (n + 1) [] (.code c_laws_FnExactLongestBar_2 :: sk) e h R = (vc2 C n c_laws_FnExactLongestBar_o2 sk e h R) := nr rfl
@[simp, simp ↓] theorem c_laws_FnExactLongestBar_3_r : vc2 C (n + 1) [] (.code c_laws_FnExactLongestBar_3 :: sk) e h R = (vc2 C n c_laws_FnExactLongestBar_o3 sk e h R) := nr rfl
@[simp, simp ↓] theorem c_laws_FnExactLongestBar_4_r : vc2 C (n + 1) [] (.code c_laws_FnExactLongestBar_4 :: sk) e h R = (vc2 C n c_laws_FnExactLongestBar_o4 sk e h R) := nr rfl
@[simp, simp ↓] theorem c_laws_FnExactLongestBar_5_r : vc2 C (n + 1) [] (.code c_laws_FnExactLongestBar_5 :: sk) e h R = (vc2 C n [] (.code c_laws_FnExactLongestBar_4 :: .code .ret :: sk) e h R) := nr rfl
@[simp, simp ↓] theorem c_laws_FnExactLongestBar_6_r : vc2 C (n + 1) [] (.code c_laws_FnExactLongestBar_6 :: sk) e h R = (condK (ev e (.t 15)) (vc2 C n [] (.code c_laws_FnExactLongestBar_5 :: sk) e h R) (vc2 C n [] (.code .skip :: sk) e h R)) := nr rfl
@[simp, simp ↓] theorem c_laws_FnExactLongestBar_7_r : vc2 C (n + 1) [] (.code c_laws_FnExactLongestBar_7 :: sk) e h R = (vc2 C n [] (.code c_laws_FnExactLongestBar_3 :: .code c_laws_FnExactLongestBar_6 :: sk) e h R) := nr rfl
@[simp, simp ↓] theorem c_laws_FnExactLongestBar_8_r : vc2 C (n + 1) [] (.code c_laws_FnExactLongestBar_8 :: sk) e h R = (vc2 C n c_laws_FnExactLongestBar_o5 sk e h R) := nr rfl
@[simp, simp ↓] theorem c_laws_FnExactLongestBar_9_r : vc2 C (n + 1) [] (.code c_laws_FnExactLongestBar_9 :: sk) e h R = (vc2 C n c_laws_FnExactLongestBar_o6 sk e h R) := nr rfl
@[simp, simp ↓] theorem c_laws_FnExactLongestBar_10_r : vc2 C (n + 1) [] (.code c_laws_FnExactLongestBar_10 :: sk) e h R = (vc2 C n c_laws_FnExactLongestBar_o7 sk e h R) := nr rfl
@[simp, simp ↓] theorem c_laws_FnExactLongestBar_11_r : vc2 C (n + 1) [] (.code c_laws_FnExactLongestBar_11 :: sk) e h R = (vc2 C n c_laws_FnExactLongestBar_o8 sk e h R) := nr rfl
@[simp, simp ↓] theorem c_laws_FnExactLongestBar_12_r : vc2 C (n + 1) [] (.code c_laws_FnExactLongestBar_12 :: sk) e h R = (vc2 C n c_laws_FnExactLongestBar_o9 sk e h R) := nr rfl
@[simp, simp ↓] theorem c_laws_FnExactLongestBar_13_r : vc2 C (n + 1) [] (.code c_laws_FnExactLongestBar_13 :: sk) e h R = (vc2 C n [] (.code c_laws_FnExactLongestBar_12 :: .code .ret :: sk) e h R) := nr rfl
@[simp, simp ↓] theorem c_laws_FnExactLongestBar_14_r : vc2 C (n + 1) [] (.code c_laws_FnExactLongestBar_14 :: sk) e h R = (condK (ev e (.t 39)) (vc2 C n [] (.code c_laws_FnExactLongestBar_13 :: sk) e h R) (vc2 C n [] (.code .skip :: sk) e h R)) := nr rfl
@[simp, simp ↓] theorem c_laws_FnExactLongestBar_15_r : vc2 C (n + 1) [] (.code c_laws_FnExactLongestBar_15 :: sk) e h R = (vc2 C n [] (.code c_laws_FnExactLongestBar_11 :: .code c_laws_FnExactLongestBar_14 :: sk) e h R) := nr rfl
@[simp, simp ↓] theorem c_laws_FnExactLongestBar_16_r : vc2 C (n + 1) [] (.code c_laws_FnExactLongestBar_16 :: sk) e h R = (vc2 C n c_laws_FnExactLongestBar_o10 sk e h R) := nr rfl
@[simp, simp ↓] theorem c_laws_FnExactLongestBar_17_r : vc2 C (n + 1) [] (.code c_laws_FnExactLongestBar_17 :: sk) e h R = (vc2 C n c_laws_FnExactLongestBar_o11 sk e h R) := nr rfl
@[simp, simp ↓] theorem c_laws_FnExactLongestBar_18_r : vc2 C (n + 1) [] (.code c_laws_FnExactLongestBar_18 :: sk) e h R = (vc2 C n [] (.code c_laws_FnExactLongestBar_17 :: .code .ret :: sk) e h R) := nr rfl
@[simp, simp ↓] theorem c_laws_FnExactLongestBar_19_r : vc2 C (n + 1) [] (.code c_laws_FnExactLongestBar_19 :: sk) e h R = (condK (ev e (.t 44)) (vc2 C n [] (.code c_laws_FnExactLongestBar_18 :: sk) e h R) (vc2 C n [] (.code .skip :: sk) e h R)) := nr rfl
@[simp, simp ↓] theorem c_laws_FnExactLongestBar_20_r : vc2 C (n + 1) [] (.code c_laws_FnExactLongestBar_20 :: sk) e h R = (vc2 C n [] (.code c_laws_FnExactLongestBar_16 :: .code c_laws_FnExactLongestBar_19 :: sk) e h R) := nr rfl
@[simp, simp ↓] theorem c_laws_FnExactLongestBar_21_r : vc2 C (n + 1) [] (.code c_laws_FnExactLongestBar_21 :: sk) e h R = (vc2 C n c_laws_FnExactLongestBar_o12 sk e h R) := nr rfl
@[simp, simp ↓] theorem c_laws_FnExactLongestBar_22_r : vc2 C (n + 1) [] (.code c_laws_FnExactLongestBar_22 :: sk) e h R = (vc2 C n [] (.code c_laws_FnExactLongestBar_21 :: .code .ret :: sk) e h R) := nr rfl
@[simp, simp ↓] theorem c_laws_FnExactLongestBar_23_r : vc2 C (n + 1) [] (.code c_laws_FnExactLongestBar_23 :: sk) e h R = (vc2 C n [] (.code c_laws_FnExactLongestBar_20 :: .code c_laws_FnExactLongestBar_22 :: sk) e h R) := nr rfl
@[simp, simp ↓] theorem c_laws_FnExactLongestBar_24_r : vc2 C (n + 1) [] (.code c_laws_FnExactLongestBar_24 :: sk) e h R = (vc2 C n [] (.code c_laws_FnExactLongestBar_15 :: .code c_laws_FnExactLongestBar_23 :: sk) e h R) := nr rfl
@[simp, simp ↓] theorem c_laws_FnExactLongestBar_25_r : vc2 C (n + 1) [] (.code c_laws_FnExactLongestBar_25 :: sk) e h R = (vc2 C n [] (.code c_laws_FnExactLongestBar_10 :: .code c_laws_FnExactLongestBar_24 :: sk) e h R) := nr rfl
@[simp, simp ↓] theorem c_laws_FnExactLongestBar_26_r : vc2 C (n + 1) [] (.code c_laws_FnExactLongestBar_26 :: sk) e h R = (vc2 C n [] (.code c_laws_FnExactLongestBar_9 :: .code c_laws_FnExactLongestBar_25 :: sk) e h R) := nr rfl
@[simp, simp ↓] theorem c_laws_FnExactLongestBar_27_r : vc2 C (n + 1) [] (.code c_laws_FnExactLongestBar_27 :: sk) e h R = (vc2 C n [] (.code c_laws_FnExactLongestBar_8 :: .code c_laws_FnExactLongestBar_26 :: sk) e h R) := nr rfl
@[simp, simp ↓] theorem c_laws_FnExactLongestBar_28_r : vc2 C (n + 1) [] (.code c_laws_FnExactLongestBar_28 :: sk) e h R = (vc2 C n [] (.code c_laws_FnExactLongestBar_7 :: .code c_laws_FnExactLongestBar_27 :: sk) e h R) := nr rfl
@[simp, simp ↓] theorem c_laws_FnExactLongestBar_29_r : vc2 C (n + 1) [] (.code c_laws_FnExactLongestBar_29 :: sk) e h R = (vc2 C n [] (.code c_laws_FnExactLongestBar_2 :: .code c_laws_FnExactLongestBar_28 :: sk) e h R) := nr rfl
@[simp, simp ↓] theorem c_laws_FnExactLongestBar_30_r : vc2 C (n + 1) [] (.code c_laws_FnExactLongestBar_30 :: sk) e h R = (vc2 C n [] (.code c_laws_FnExactLongestBar_1 :: .code c_laws_FnExactLongestBar_29 :: sk) e h R) := nr rfl
@[simp, simp ↓] theorem c_laws_FnExactLongestBar_31_r : vc2 C (n + 1) [] (.code c_laws_FnExactLongestBar_31 :: sk) e h R = (vc2 C n [] (.code c_laws_FnExactLongestBar_0 :: .code c_laws_FnExactLongestBar_30 :: sk) e h R) := nr rfl
end
noncomputable def c_laws_FnExactLongestBar_C (orc : Orc) : Cx := ⟨Try.prog, [6, 9], 5, 45, [.tmp 4], orc⟩
@[simp] theorem c_laws_FnExactLongestBar_C_P (orc : Orc) : (c_laws_FnExactLongestBar_C orc).P = Try.prog := nr rfl
@[simp] theorem c_laws_FnExactLongestBar_C_o (orc : Orc) : (c_laws_FnExactLongestBar_C orc).orc = orc := nr rfl
@[simp] theorem c_laws_FnExactLongestBar_C_r (orc : Orc) : (c_laws_FnExactLongestBar_C orc).res = [.tmp 4] := nr rfl
theorem c_laws_FnExactLongestBar_of {args : List AV} {h : Heap} {R : AV → Heap → Prop} {k : Nat} (ha : args.length = k) {orc : Orc} (hp : Pure Try.prog orc) (hk : Is (c_laws_FnExactLongestBar_C orc) Try.f5 → Run2 (c_laws_FnExactLongestBar_C orc) [.code c_laws_FnExactLongestBar_31] (argEnv 0 args) h (Post R)) (hle : k ≤ 45 := by simp) : ACalls Try.prog 5 args h R :=
  contract2 [6, 9] c_laws_FnExactLongestBar_31 [.tmp 4] Try.func5 (by decide +kernel) rfl (by kernel_rfl) (by rw [ha]; exact hle) (by kernel_rfl) hp hk
theorem c_laws_FnExactLongestBar_of0 {args : List AV} {h : Heap} {R : AV → Heap → Prop} {k : Nat} (ha : args.length = k) {orc : Orc} (hp : Pure Try.prog orc) (hk : Is (c_laws_FnExactLongestBar_C orc) Try.f5 → Run2 (c_laws_FnExactLongestBar_C orc) [.code c_laws_FnExactLongestBar_31] (argEnv 0 args) h R) (hle : k ≤ 45 := by simp) : ACalls Try.prog 5 args h R :=
  contract20 [6, 9] c_laws_FnExactLongestBar_31 [.tmp 4] Try.func5 (by decide +kernel) rfl (by kernel_rfl) (by rw [ha]; exact hle) (by kernel_rfl) hp hk
theorem best_law (l : List T) (hl : wfB l) (d : Int) (hd : in64 d) : ACalls Try.prog 5 [(.snap 3 (l.map T.av)), (.int .i64 d)] [] (fun v h' => v = .bool true ∧ h' = []) := by
  refine c_laws_FnExactLongestBar_of rfl orcM_p fun I => ?_
  have hx2_l := hl.2
  refine Run2.of I 1000 ?_
  by_cases kl : (l.length : Int) ≤ (1048576 : Int)
  · have hAl : ¬ (1048576 : Int) < l.length := by omega
    have hBl : ¬ (1048576 : Int) - l.length < 0 := by omega
    have hCl : (0 : Int) ≤ (1048576 : Int) - l.length := by omega
    have ll : l.length ≤ 1048576 := by omega
    simp -implicitDefEqProofs [hx2_l, hAl, hBl, hCl]
    first | refine dcallK (toBarS_c l _ ll) ?_ | (refine (toBarS_c l _ ll).mono ?_; rintro v h' ⟨rfl, rfl⟩; refine gK.go ?_)
    simp -implicitDefEqProofs
    first | refine dcallK (specBest_c l d _ ll hl.1) ?_ | (refine (specBest_c l d _ ll hl.1).mono ?_; rintro v h' ⟨rfl, rfl⟩; refine gK.go ?_)
    simp -implicitDefEqProofs
    refine (toBarS_o l _ ll).monoN ?_
    rintro v0 h' ⟨g0, o0, d0, rfl⟩ n0
    refine gK.go ?_
    simp -implicitDefEqProofs
    simp only [List.append_nil] at n0
    skip
    have L0 := o0.lentIn T.cold (L := g0) (fun p hp => hp) n0
    first | refine dcallK (ACalls.reads g0 (fun p hp => hp) (v0 := .tup [(T.av (bestB l d)), .int .i64 (bestCode l d)]) ?_ rfl) ?_ | (refine (ACalls.reads g0 (fun p hp => hp) (v0 := .tup [(T.av (bestB l d)), .int .i64 (bestCode l d)]) ?_ rfl).mono ?_)
    · rw [lend_cons, lend_cons, lend_nil', lend1_cold g0 (x := (.int .i64 d)) rfl]
      exact ACalls.wk (.cons L0.wk (.cons (.refl _) .nil)) (implBest_o l d ll hl.1)
    try (rintro v h' ⟨rfl, rfl⟩; refine gK.go ?_)
    simp -implicitDefEqProofs
    first | refine dcallK (toBarS_c l _ ll) ?_ | (refine (toBarS_c l _ ll).mono ?_; rintro v h' ⟨rfl, rfl⟩; refine gK.go ?_)
    simp -implicitDefEqProofs
    first | refine dcallK (eqB_own o0 (.snap l) (fun p hp => hp) ll) ?_ | (refine (eqB_own o0 (.snap l) (fun p hp => hp) ll).mono ?_; rintro v h' ⟨rfl, rfl⟩; refine gK.go ?_)
    simp -implicitDefEqProofs
    exact Post.none ⟨rfl, rfl⟩
  · have hAl : (1048576 : Int) < l.length := by omega
    simp -implicitDefEqProofs [hx2_l, hAl]
    exact .base ⟨rfl, rfl⟩
end Go.AG
namespace Go.Proofs.Ytdgahpcgenlcjaa
open Go.ChangeShapes Go.WideShapes Go.ChangeAt Go.RowKit Go.AG
theorem own : ownKnob Try.prog.godebug = none := by kernel_rfl
theorem laidOut : laidOutB Try.prog = true := by kernel_rfl
set_option maxRecDepth 100000 in
theorem fnExactLongestBar_lifted (os : Os) (started : os.Started) (H : Type) (enc : TypeId × Value → H) :
    ReturnsInHanded {} Try.checked os 5 .any (Rows.fnExactLongestBarSpec.pre6 enc Try.prog Try.f5 Rows.fnExactLongestBarRow.domain false) (Rows.fnExactLongestBarSpec.post enc Try.prog Try.f5 false true false false) := by
  refine returnsInHanded_of_change (C := Try.checked) own started (by kernel_rfl) Try.func5
    (ChangeSpec.witness6 (enc := enc) (C := Try.checked) false ⟨#[], #[.slice none 0 0, .int .i64 0], []⟩ 8 (by kernel_rfl) (by kernel_rfl) (by kernel_rfl) (by kernel_rfl)) ?_
  intro W base args ds gs before hval0 hW _ _
  have hval : ∀ (j : Nat) t v, Try.f5.params[j]? = some t → args[j]? = some v → Value.okWide Try.prog W .any base t v := hval0
  refine law_post (tys := [tyB, (.int .i64)]) (tb := 4) laidOut rfl (by kernel_rfl) (by kernel_rfl) (by kernel_rfl) (by kernel_rfl) hval hW ?_ ?_
  · intro ds h
    match ds, h with
    | [a0, a1], _ => rfl
  · rintro xs ⟨x0, r0, rfl, h0, x1, r1, rfl, h1, hr⟩
    have hr0 : r1 = [] := hr
    subst hr0
    obtain ⟨p0, rfl, q0⟩ := Bars_of_shape h0
    obtain ⟨p1, rfl, q1⟩ := Int_of_shape h1
    exact best_law p0 q0 p1 q1
theorem fnExactLongestBar_holds : Rows.FnExactLongestBarSaid :=
  OpenClaim.holds_of_wide 5 Try.f5 rfl rfl rfl rfl rfl rfl rfl ⟨rfl, rfl, rfl, rfl, rfl⟩ rfl rfl rfl rfl rfl (by kernel_rfl) Try.func5 (by kernel_rfl)
    (of_decide_eq_true (by kernel_rfl)) (by unfold Func.isWrapper; first | (rw [if_pos (by decide +kernel)]; kernel_rfl) | (rw [if_neg (by decide +kernel)]; exact ⟨rfl, rfl⟩))
    (fun os started H enc _ => fnExactLongestBar_lifted os started H enc)
end Go.Proofs.Ytdgahpcgenlcjaa
