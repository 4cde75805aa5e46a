/- The law FnExactBarsAt is true for every input: the program's BarsAt returns what the reference's returns. -/
import Derived.Test.YtdgahpcgenlcjaaBrAt
namespace Go.AG
open Go.Proofs Go.Proofs.Ytdgahpcgenlcjaa
set_option linter.unusedSimpArgs false
set_option linter.unusedVariables false
set_option maxRecDepth 4000
noncomputable def orcM : List (Nat × (List AV → Option (Prop × AV))) := (9, o_szBarS) :: []
theorem orcM_p : Pure Try.prog (lk orcM) := (lk_pure o_szBarS_k lk_pure0)
@[simp] theorem orcM_l (g : FuncId) (l : List AV) : lk orcM g l = if g = 9 then o_szBarS l else none := nr rfl
abbrev c_laws_FnExactBarsAt_o0 : List AJ := [.o ⟨(some 6), none, false, .mv (.c (.bool false)), (some [0, 1, 2])⟩]
def c_laws_FnExactBarsAt_0 : ACode := .region c_laws_FnExactBarsAt_o0
abbrev c_laws_FnExactBarsAt_o1 : List AJ := [.o ⟨(some 7), none, false, .mv (.c (.int .i64 1048576)), (some [0, 1, 2, 7])⟩]
def c_laws_FnExactBarsAt_1 : ACode := .region c_laws_FnExactBarsAt_o1
abbrev c_laws_FnExactBarsAt_o2 : List AJ := [.o ⟨(some 13), none, false, .mv (.t 0), none⟩, .o ⟨(some 14), none, false, .mv (.t 7), none⟩, .o ⟨(some 15), none, false, .call 9 [(.t 13), (.t 14)], none⟩, .o ⟨(some 7), none, false, .mv (.t 15), (some [0, 1, 2, 7])⟩]
def c_laws_FnExactBarsAt_2 : ACode := .region c_laws_FnExactBarsAt_o2
abbrev c_laws_FnExactBarsAt_o3 : List AJ := [.o ⟨(some 16), none, false, .mv (.t 7), none⟩, .o ⟨(some 17), none, false, .bin .lss (.t 16) (.c (.int .i64 0)), (some [0, 1, 2, 17])⟩]
def c_laws_FnExactBarsAt_3 : ACode := .region c_laws_FnExactBarsAt_o3
abbrev c_laws_FnExactBarsAt_o4 : List AJ := [.o ⟨(some 6), none, false, .mv (.c (.bool true)), (some [6])⟩]
def c_laws_FnExactBarsAt_4 : ACode := .region c_laws_FnExactBarsAt_o4
def c_laws_FnExactBarsAt_5 : ACode := .seq c_laws_FnExactBarsAt_4 .ret
def c_laws_FnExactBarsAt_6 : ACode := .cond (.t 17) c_laws_FnExactBarsAt_5 .skip
def c_laws_FnExactBarsAt_7 : ACode := .seq c_laws_FnExactBarsAt_3 c_laws_FnExactBarsAt_6
abbrev c_laws_FnExactBarsAt_o5 : List AJ := [.o ⟨(some 19), none, false, .mv (.t 0), none⟩, .o ⟨(some 20), none, false, .call 11 [(.t 19)], none⟩, .o ⟨(some 21), none, false, .mv (.t 1), none⟩, .o ⟨(some 22), none, false, .mv (.t 2), none⟩, .o ⟨(some 23), none, false, .call 14 [(.t 20), (.t 21), (.t 22)], none⟩, .o ⟨(some 18), none, false, .mv (.t 23), none⟩, .o ⟨(some 24), none, false, .extract (.t 18) 0, none⟩, .o ⟨(some 25), none, false, .extract (.t 18) 1, none⟩, .o ⟨(some 8), none, false, .mv (.t 24), none⟩, .o ⟨(some 9), none, false, .mv (.t 25), (some [0, 1, 2, 8, 9])⟩]
def c_laws_FnExactBarsAt_8 : ACode := .region c_laws_FnExactBarsAt_o5
abbrev c_laws_FnExactBarsAt_o6 : List AJ := [.o ⟨(some 26), none, false, .mv (.t 0), none⟩, .o ⟨(some 27), none, false, .call 11 [(.t 26)], none⟩, .o ⟨(some 10), none, false, .mv (.t 27), (some [0, 1, 2, 8, 9, 10])⟩]
def c_laws_FnExactBarsAt_9 : ACode := .region c_laws_FnExactBarsAt_o6
abbrev c_laws_FnExactBarsAt_o7 : List AJ := [.o ⟨(some 29), none, false, .mv (.t 10), none⟩, .o ⟨(some 30), none, false, .mv (.t 1), none⟩, .o ⟨(some 31), none, false, .mv (.t 2), none⟩, .o ⟨(some 32), none, false, .call 15 [(.t 29), (.t 30), (.t 31)], none⟩, .o ⟨(some 28), none, false, .mv (.t 32), none⟩, .o ⟨(some 33), none, false, .extract (.t 28) 0, none⟩, .o ⟨(some 34), none, false, .extract (.t 28) 1, none⟩, .o ⟨(some 11), none, false, .mv (.t 33), none⟩, .o ⟨(some 12), none, false, .mv (.t 34), (some [0, 8, 9, 10, 11, 12])⟩]
def c_laws_FnExactBarsAt_10 : ACode := .region c_laws_FnExactBarsAt_o7
abbrev c_laws_FnExactBarsAt_o8 : List AJ := [.o ⟨(some 35), none, false, .mv (.t 11), none⟩, .o ⟨(some 36), none, false, .mv (.t 8), none⟩, .o ⟨(some 37), none, false, .bin .neq (.t 35) (.t 36), none⟩, .o ⟨(some 38), none, false, .mv (.t 37), none⟩, .o ⟨(some 39), (some (38, false)), false, .mv (.t 12), none⟩, .o ⟨(some 40), (some (38, false)), false, .mv (.t 9), none⟩, .o ⟨(some 41), (some (38, false)), false, .bin .neq (.t 39) (.t 40), none⟩, .o ⟨(some 42), none, false, .pick (.t 38) (.c (.bool true)) (.t 41), (some [0, 10, 42])⟩]
def c_laws_FnExactBarsAt_11 : ACode := .region c_laws_FnExactBarsAt_o8
abbrev c_laws_FnExactBarsAt_o9 : List AJ := [.o ⟨(some 6), none, false, .mv (.c (.bool false)), (some [6])⟩]
def c_laws_FnExactBarsAt_12 : ACode := .region c_laws_FnExactBarsAt_o9
def c_laws_FnExactBarsAt_13 : ACode := .seq c_laws_FnExactBarsAt_12 .ret
def c_laws_FnExactBarsAt_14 : ACode := .cond (.t 42) c_laws_FnExactBarsAt_13 .skip
def c_laws_FnExactBarsAt_15 : ACode := .seq c_laws_FnExactBarsAt_11 c_laws_FnExactBarsAt_14
abbrev c_laws_FnExactBarsAt_o10 : List AJ := [.o ⟨(some 43), none, false, .mv (.t 10), none⟩, .o ⟨(some 44), none, false, .mv (.t 0), none⟩, .o ⟨(some 45), none, false, .call 11 [(.t 44)], none⟩, .o ⟨(some 46), none, false, .call 13 [(.t 43), (.t 45)], none⟩, .o ⟨(some 47), none, false, .un .not (.t 46), (some [47])⟩]
def c_laws_FnExactBarsAt_16 : ACode := .region c_laws_FnExactBarsAt_o10
abbrev c_laws_FnExactBarsAt_o11 : List AJ := [.o ⟨(some 6), none, false, .mv (.c (.bool false)), (some [6])⟩]
def c_laws_FnExactBarsAt_17 : ACode := .region c_laws_FnExactBarsAt_o11
def c_laws_FnExactBarsAt_18 : ACode := .seq c_laws_FnExactBarsAt_17 .ret
def c_laws_FnExactBarsAt_19 : ACode := .cond (.t 47) c_laws_FnExactBarsAt_18 .skip
def c_laws_FnExactBarsAt_20 : ACode := .seq c_laws_FnExactBarsAt_16 c_laws_FnExactBarsAt_19
abbrev c_laws_FnExactBarsAt_o12 : List AJ := [.o ⟨(some 6), none, false, .mv (.c (.bool true)), (some [6])⟩]
def c_laws_FnExactBarsAt_21 : ACode := .region c_laws_FnExactBarsAt_o12
def c_laws_FnExactBarsAt_22 : ACode := .seq c_laws_FnExactBarsAt_21 .ret
def c_laws_FnExactBarsAt_23 : ACode := .seq c_laws_FnExactBarsAt_20 c_laws_FnExactBarsAt_22
def c_laws_FnExactBarsAt_24 : ACode := .seq c_laws_FnExactBarsAt_15 c_laws_FnExactBarsAt_23
def c_laws_FnExactBarsAt_25 : ACode := .seq c_laws_FnExactBarsAt_10 c_laws_FnExactBarsAt_24
def c_laws_FnExactBarsAt_26 : ACode := .seq c_laws_FnExactBarsAt_9 c_laws_FnExactBarsAt_25
def c_laws_FnExactBarsAt_27 : ACode := .seq c_laws_FnExactBarsAt_8 c_laws_FnExactBarsAt_26
def c_laws_FnExactBarsAt_28 : ACode := .seq c_laws_FnExactBarsAt_7 c_laws_FnExactBarsAt_27
def c_laws_FnExactBarsAt_29 : ACode := .seq c_laws_FnExactBarsAt_2 c_laws_FnExactBarsAt_28
def c_laws_FnExactBarsAt_30 : ACode := .seq c_laws_FnExactBarsAt_1 c_laws_FnExactBarsAt_29
def c_laws_FnExactBarsAt_31 : ACode := .seq c_laws_FnExactBarsAt_0 c_laws_FnExactBarsAt_30
section
variable (C : Cx) (n : Nat) (sk : List AItem) (e : Env) (h : Heap) (R : AV → Heap → Prop)
@[simp, simp ↓] theorem c_laws_FnExactBarsAt_0_r : vc2 C (n + 1) [] (.code c_laws_FnExactBarsAt_0 :: sk) e h R = (vc2 C n c_laws_FnExactBarsAt_o0 sk e h R) := nr rfl
@[simp, simp ↓] theorem c_laws_FnExactBarsAt_1_r : vc2 C (n + 1) [] (.code c_laws_FnExactBarsAt_1 :: sk) e h R = (vc2 C n c_laws_FnExactBarsAt_o1 sk e h R) := nr rfl
@[simp, simp ↓] theorem c_laws_FnExactBarsAt_2_r : vc2 C (n + 1) [] (.code c_laws_FnExactBarsAt_2 :: sk) e h R = (vc2 C n c_laws_FnExactBarsAt_o2 sk e h R) := nr rfl
@[simp, simp ↓] theorem c_laws_FnExactBarsAt_3_r : vc2 C (n + 1) [] (.code c_laws_FnExactBarsAt_3 :: sk) e h R = (vc2 C n c_laws_FnExactBarsAt_o3 sk e h R) := nr rfl
@[simp, simp ↓] theorem c_laws_FnExactBarsAt_4_r : vc2 C (n + 1) [] (.code c_laws_FnExactBarsAt_4 :: sk) e h R = (vc2 C n c_laws_FnExactBarsAt_o4 sk e h R) := nr rfl
@[simp, simp ↓] theorem c_laws_FnExactBarsAt_5_r : vc2 C (n + 1) [] (.code c_laws_FnExactBarsAt_5 :: sk) e h R = (vc2 C n [] (.code c_laws_FnExactBarsAt_4 :: .code .ret :: sk) e h R) := nr rfl
@[simp, simp ↓] theorem c_laws_FnExactBarsAt_6_r : vc2 C (n + 1) [] (.code c_laws_FnExactBarsAt_6 :: sk) e h R = (condK (ev e (.t 17)) (vc2 C n [] (.code c_laws_FnExactBarsAt_5 :: sk) e h R) (vc2 C n [] (.code .skip :: sk) e h R)) := nr rfl
@[simp, simp ↓] theorem c_laws_FnExactBarsAt_7_r : vc2 C (n + 1) [] (.code c_laws_FnExactBarsAt_7 :: sk) e h R = (vc2 C n [] (.code c_laws_FnExactBarsAt_3 :: .code c_laws_FnExactBarsAt_6 :: sk) e h R) := nr rfl
@[simp, simp ↓] theorem c_laws_FnExactBarsAt_8_r : vc2 C (n + 1) [] (.code c_laws_FnExactBarsAt_8 :: sk) e h R = (vc2 C n c_laws_FnExactBarsAt_o5 sk e h R) := nr rfl
@[simp, simp ↓] theorem c_laws_FnExactBarsAt_9_r : vc2 C (n + 1) [] (.code c_laws_FnExactBarsAt_9 :: sk) e h R = (vc2 C n c_laws_FnExactBarsAt_o6 sk e h R) := nr rfl
@[simp, simp ↓] theorem c_laws_FnExactBarsAt_10_r : vc2 C (n + 1) [] (.code c_laws_FnExactBarsAt_10 :: sk) e h R = (vc2 C n c_laws_FnExactBarsAt_o7 sk e h R) := nr rfl
@[simp, simp ↓] theorem c_laws_FnExactBarsAt_11_r : vc2 C (n + 1) [] (.code c_laws_FnExactBarsAt_11 :: sk) e h R = (vc2 C n c_laws_FnExactBarsAt_o8 sk e h R) := nr rfl
@[simp, simp ↓] theorem c_laws_FnExactBarsAt_12_r : vc2 C (n + 1) [] (.code c_laws_FnExactBarsAt_12 :: sk) e h R = (vc2 C n c_laws_FnExactBarsAt_o9 sk e h R) := nr rfl
@[simp, simp ↓] theorem c_laws_FnExactBarsAt_13_r : vc2 C (n + 1) [] (.code c_laws_FnExactBarsAt_13 :: sk) e h R = (vc2 C n [] (.code c_laws_FnExactBarsAt_12 :: .code .ret :: sk) e h R) := nr rfl
@[simp, simp ↓] theorem c_laws_FnExactBarsAt_14_r : vc2 C (n + 1) [] (.code c_laws_FnExactBarsAt_14 :: sk) e h R = (condK (ev e (.t 42)) (vc2 C n [] (.code c_laws_FnExactBarsAt_13 :: sk) e h R) (vc2 C n [] (.code .skip :: sk) e h R)) := nr rfl
@[simp, simp ↓] theorem c_laws_FnExactBarsAt_15_r : vc2 C (n + 1) [] (.code c_laws_FnExactBarsAt_15 :: sk) e h R = (vc2 C n [] (.code c_laws_FnExactBarsAt_11 :: .code c_laws_FnExactBarsAt_14 :: sk) e h R) := nr rfl
@[simp, simp ↓] theorem c_laws_FnExactBarsAt_16_r : vc2 C (n + 1) [] (.code c_laws_FnExactBarsAt_16 :: sk) e h R = (vc2 C n c_laws_FnExactBarsAt_o10 sk e h R) := nr rfl
@[simp, simp ↓] theorem c_laws_FnExactBarsAt_17_r : vc2 C (n + 1) [] (.code c_laws_FnExactBarsAt_17 :: sk) e h R = (vc2 C n c_laws_FnExactBarsAt_o11 sk e h R) := nr rfl
@[simp, simp ↓] theorem c_laws_FnExactBarsAt_18_r : vc2 C (n + 1) [] (.code c_laws_FnExactBarsAt_18 :: sk) e h R = (vc2 C n [] (.code c_laws_FnExactBarsAt_17 :: .code .ret :: sk) e h R) := nr rfl
@[simp, simp ↓] theorem c_laws_FnExactBarsAt_19_r : vc2 C (n + 1) [] (.code c_laws_FnExactBarsAt_19 :: sk) e h R = (condK (ev e (.t 47)) (vc2 C n [] (.code c_laws_FnExactBarsAt_18 :: sk) e h R) (vc2 C n [] (.code .skip :: sk) e h R)) := nr rfl
@[simp, simp ↓] theorem c_laws_FnExactBarsAt_20_r : vc2 C (n + 1) [] (.code c_laws_FnExactBarsAt_20 :: sk) e h R = (vc2 C n [] (.code c_laws_FnExactBarsAt_16 :: .code c_laws_FnExactBarsAt_19 :: sk) e h R) := nr rfl
@[simp, simp ↓] theorem c_laws_FnExactBarsAt_21_r : vc2 C (n + 1) [] (.code c_laws_FnExactBarsAt_21 :: sk) e h R = (vc2 C n c_laws_FnExactBarsAt_o12 sk e h R) := nr rfl
@[simp, simp ↓] theorem c_laws_FnExactBarsAt_22_r : vc2 C (n + 1) [] (.code c_laws_FnExactBarsAt_22 :: sk) e h R = (vc2 C n [] (.code c_laws_FnExactBarsAt_21 :: .code .ret :: sk) e h R) := nr rfl
@[simp, simp ↓] theorem c_laws_FnExactBarsAt_23_r : vc2 C (n + 1) [] (.code c_laws_FnExactBarsAt_23 :: sk) e h R = (vc2 C n [] (.code c_laws_FnExactBarsAt_20 :: .code c_laws_FnExactBarsAt_22 :: sk) e h R) := nr rfl
@[simp, simp ↓] theorem c_laws_FnExactBarsAt_24_r : vc2 C (n + 1) [] (.code c_laws_FnExactBarsAt_24 :: sk) e h R = (vc2 C n [] (.code c_laws_FnExactBarsAt_15 :: .code c_laws_FnExactBarsAt_23 :: sk) e h R) := nr rfl
@[simp, simp ↓] theorem c_laws_FnExactBarsAt_25_r : vc2 C (n + 1) [] (.code c_laws_FnExactBarsAt_25 :: sk) e h R = (vc2 C n [] (.code c_laws_FnExactBarsAt_10 :: .code c_laws_FnExactBarsAt_24 :: sk) e h R) := nr rfl
@[simp, simp ↓] theorem c_laws_FnExactBarsAt_26_r : vc2 C (n + 1) [] (.code c_laws_FnExactBarsAt_26 :: sk) e h R = (vc2 C n [] (.code c_laws_FnExactBarsAt_9 :: .code c_laws_FnExactBarsAt_25 :: sk) e h R) := nr rfl
@[simp, simp ↓] theorem c_laws_FnExactBarsAt_27_r : vc2 C (n + 1) [] (.code c_laws_FnExactBarsAt_27 :: sk) e h R = (vc2 C n [] (.code c_laws_FnExactBarsAt_8 :: .code c_laws_FnExactBarsAt_26 :: sk) e h R) := nr rfl
@[simp, simp ↓] theorem c_laws_FnExactBarsAt_28_r : vc2 C (n + 1) [] (.code c_laws_FnExactBarsAt_28 :: sk) e h R = (vc2 C n [] (.code c_laws_FnExactBarsAt_7 :: .code c_laws_FnExactBarsAt_27 :: sk) e h R) := nr rfl
@[simp, simp ↓] theorem c_laws_FnExactBarsAt_29_r : vc2 C (n + 1) [] (.code c_laws_FnExactBarsAt_29 :: sk) e h R = (vc2 C n [] (.code c_laws_FnExactBarsAt_2 :: .code c_laws_FnExactBarsAt_28 :: sk) e h R) := nr rfl
@[simp, simp ↓] theorem c_laws_FnExactBarsAt_30_r : vc2 C (n + 1) [] (.code c_laws_FnExactBarsAt_30 :: sk) e h R = (vc2 C n [] (.code c_laws_FnExactBarsAt_1 :: .code c_laws_FnExactBarsAt_29 :: sk) e h R) := nr rfl
@[simp, simp ↓] theorem c_laws_FnExactBarsAt_31_r : vc2 C (n + 1) [] (.code c_laws_FnExactBarsAt_31 :: sk) e h R = (vc2 C n [] (.code c_laws_FnExactBarsAt_0 :: .code c_laws_FnExactBarsAt_30 :: sk) e h R) := nr rfl
end
noncomputable def c_laws_FnExactBarsAt_C (orc : Orc) : Cx := ⟨Try.prog, [], 4, 48, [.tmp 6], orc⟩
@[simp] theorem c_laws_FnExactBarsAt_C_P (orc : Orc) : (c_laws_FnExactBarsAt_C orc).P = Try.prog := nr rfl
@[simp] theorem c_laws_FnExactBarsAt_C_o (orc : Orc) : (c_laws_FnExactBarsAt_C orc).orc = orc := nr rfl
@[simp] theorem c_laws_FnExactBarsAt_C_r (orc : Orc) : (c_laws_FnExactBarsAt_C orc).res = [.tmp 6] := nr rfl
theorem c_laws_FnExactBarsAt_of {args : List AV} {h : Heap} {R : AV → Heap → Prop} {k : Nat} (ha : args.length = k) {orc : Orc} (hp : Pure Try.prog orc) (hk : Is (c_laws_FnExactBarsAt_C orc) Try.f4 → Run2 (c_laws_FnExactBarsAt_C orc) [.code c_laws_FnExactBarsAt_31] (argEnv 0 args) h (Post R)) (hle : k ≤ 48 := by simp) : ACalls Try.prog 4 args h R :=
  contract2 [] c_laws_FnExactBarsAt_31 [.tmp 6] Try.func4 (by decide +kernel) rfl (by kernel_rfl) (by rw [ha]; exact hle) (by kernel_rfl) hp hk
theorem c_laws_FnExactBarsAt_of0 {args : List AV} {h : Heap} {R : AV → Heap → Prop} {k : Nat} (ha : args.length = k) {orc : Orc} (hp : Pure Try.prog orc) (hk : Is (c_laws_FnExactBarsAt_C orc) Try.f4 → Run2 (c_laws_FnExactBarsAt_C orc) [.code c_laws_FnExactBarsAt_31] (argEnv 0 args) h R) (hle : k ≤ 48 := by simp) : ACalls Try.prog 4 args h R :=
  contract20 [] c_laws_FnExactBarsAt_31 [.tmp 6] Try.func4 (by decide +kernel) rfl (by kernel_rfl) (by rw [ha]; exact hle) (by kernel_rfl) hp hk
theorem at_law (l : List T) (hl : wfB l) (d : Int) (hd : in64 d) (k : Int) (hk : in64 k) : ACalls Try.prog 4 [(.snap 3 (l.map T.av)), (.int .i64 d), (.int .i64 k)] [] (fun v h' => v = .bool true ∧ h' = []) := by
  refine c_laws_FnExactBarsAt_of rfl orcM_p fun I => ?_
  have hx2_l := hl.2
  refine Run2.of I 1000 ?_
  by_cases kl : (l.length : Int) ≤ (1048576 : Int)
  · have hAl : ¬ (1048576 : Int) < l.length := by omega
    have hBl : ¬ (1048576 : Int) - l.length < 0 := by omega
    have hCl : (0 : Int) ≤ (1048576 : Int) - l.length := by omega
    have ll : l.length ≤ 1048576 := by omega
    simp -implicitDefEqProofs [hx2_l, hAl, hBl, hCl]
    first | refine dcallK (toBarS_c l _ ll) ?_ | (refine (toBarS_c l _ ll).mono ?_; rintro v h' ⟨rfl, rfl⟩; refine gK.go ?_)
    simp -implicitDefEqProofs
    first | refine dcallK (specAt_c l d k _ ll hl.1) ?_ | (refine (specAt_c l d k _ ll hl.1).mono ?_; rintro v h' ⟨rfl, rfl⟩; refine gK.go ?_)
    simp -implicitDefEqProofs
    refine (toBarS_o l _ ll).monoN ?_
    rintro v0 h' ⟨g0, o0, d0, rfl⟩ n0
    refine gK.go ?_
    simp -implicitDefEqProofs
    simp only [List.append_nil] at n0
    skip
    have L0 := o0.lentIn T.cold (L := g0) (fun p hp => hp) n0
    first | refine dcallK (ACalls.reads g0 (fun p hp => hp) (v0 := .tup [.int .i64 (atNum l d k), .int .i64 (atCode l d k)]) ?_ rfl) ?_ | (refine (ACalls.reads g0 (fun p hp => hp) (v0 := .tup [.int .i64 (atNum l d k), .int .i64 (atCode l d k)]) ?_ rfl).mono ?_)
    · rw [lend_cons, lend_cons, lend_cons, lend_nil', lend1_cold g0 (x := (.int .i64 d)) rfl, lend1_cold g0 (x := (.int .i64 k)) rfl]
      exact ACalls.wk (.cons L0.wk (.cons (.refl _) (.cons (.refl _) .nil))) (implAt_o l d k ll hl.1)
    try (rintro v h' ⟨rfl, rfl⟩; refine gK.go ?_)
    simp -implicitDefEqProofs
    first | refine dcallK (toBarS_c l _ ll) ?_ | (refine (toBarS_c l _ ll).mono ?_; rintro v h' ⟨rfl, rfl⟩; refine gK.go ?_)
    simp -implicitDefEqProofs
    first | refine dcallK (eqB_own o0 (.snap l) (fun p hp => hp) ll) ?_ | (refine (eqB_own o0 (.snap l) (fun p hp => hp) ll).mono ?_; rintro v h' ⟨rfl, rfl⟩; refine gK.go ?_)
    simp -implicitDefEqProofs
    exact Post.none ⟨rfl, rfl⟩
  · have hAl : (1048576 : Int) < l.length := by omega
    simp -implicitDefEqProofs [hx2_l, hAl]
    exact .base ⟨rfl, rfl⟩
end Go.AG
namespace Go.Proofs.Ytdgahpcgenlcjaa
open Go.ChangeShapes Go.WideShapes Go.ChangeAt Go.RowKit Go.AG
theorem own : ownKnob Try.prog.godebug = none := by kernel_rfl
theorem laidOut : laidOutB Try.prog = true := by kernel_rfl
set_option maxRecDepth 100000 in
theorem fnExactBarsAt_lifted (os : Os) (started : os.Started) (H : Type) (enc : TypeId × Value → H) :
    ReturnsInHanded {} Try.checked os 4 .any (Rows.fnExactBarsAtSpec.pre6 enc Try.prog Try.f4 Rows.fnExactBarsAtRow.domain false) (Rows.fnExactBarsAtSpec.post enc Try.prog Try.f4 false true false false) := by
  refine returnsInHanded_of_change (C := Try.checked) own started (by kernel_rfl) Try.func4
    (ChangeSpec.witness6 (enc := enc) (C := Try.checked) false ⟨#[], #[.slice none 0 0, .int .i64 0, .int .i64 0], []⟩ 8 (by kernel_rfl) (by kernel_rfl) (by kernel_rfl) (by kernel_rfl)) ?_
  intro W base args ds gs before hval0 hW _ _
  have hval : ∀ (j : Nat) t v, Try.f4.params[j]? = some t → args[j]? = some v → Value.okWide Try.prog W .any base t v := hval0
  refine law_post (tys := [tyB, (.int .i64), (.int .i64)]) (tb := 4) laidOut rfl (by kernel_rfl) (by kernel_rfl) (by kernel_rfl) (by kernel_rfl) hval hW ?_ ?_
  · intro ds h
    match ds, h with
    | [a0, a1, a2], _ => rfl
  · rintro xs ⟨x0, r0, rfl, h0, x1, r1, rfl, h1, x2, r2, rfl, h2, hr⟩
    have hr0 : r2 = [] := hr
    subst hr0
    obtain ⟨p0, rfl, q0⟩ := Bars_of_shape h0
    obtain ⟨p1, rfl, q1⟩ := Int_of_shape h1
    obtain ⟨p2, rfl, q2⟩ := Int_of_shape h2
    exact at_law p0 q0 p1 q1 p2 q2
theorem fnExactBarsAt_holds : Rows.FnExactBarsAtSaid :=
  OpenClaim.holds_of_wide 4 Try.f4 rfl rfl rfl rfl rfl rfl rfl ⟨rfl, rfl, rfl, rfl, rfl⟩ rfl rfl rfl rfl rfl (by kernel_rfl) Try.func4 (by kernel_rfl)
    (of_decide_eq_true (by kernel_rfl)) (by unfold Func.isWrapper; first | (rw [if_pos (by decide +kernel)]; kernel_rfl) | (rw [if_neg (by decide +kernel)]; exact ⟨rfl, rfl⟩))
    (fun os started H enc _ => fnExactBarsAt_lifted os started H enc)
end Go.Proofs.Ytdgahpcgenlcjaa
