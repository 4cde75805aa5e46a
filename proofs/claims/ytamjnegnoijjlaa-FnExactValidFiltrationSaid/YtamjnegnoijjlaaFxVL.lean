/- The law FnExactValidFiltration is true for every input: the program's ValidFiltration returns what the reference's returns. -/
import Derived.Test.YtamjnegnoijjlaaFxF
import Derived.Test.YtamjnegnoijjlaaFilL
namespace Go.AG
open Go.Proofs Go.Proofs.Ytamjnegnoijjlaa
set_option linter.unusedSimpArgs false
set_option linter.unusedVariables false
set_option maxRecDepth 4000
abbrev c_laws_FnExactValidFiltration_o0 : List AJ := [.o ⟨(some 1), none, false, .box false 2 (.t 0), none⟩, .o ⟨(some 2), none, false, .mv (.c (.bool false)), (some [1])⟩]
def c_laws_FnExactValidFiltration_0 : ACode := .region c_laws_FnExactValidFiltration_o0
abbrev c_laws_FnExactValidFiltration_o1 : List AJ := [.o ⟨(some 3), none, false, .mv (.c (.int .i64 1048576)), (some [1, 3])⟩]
def c_laws_FnExactValidFiltration_1 : ACode := .region c_laws_FnExactValidFiltration_o1
abbrev c_laws_FnExactValidFiltration_o2 : List AJ := [.o ⟨(some 7), none, false, .load 2 true (.t 1), none⟩, .o ⟨(some 8), none, false, .mv (.t 3), none⟩, .o ⟨(some 9), none, false, .call 13 [(.t 7), (.t 8)], none⟩, .o ⟨(some 3), none, false, .mv (.t 9), (some [1, 3])⟩]
def c_laws_FnExactValidFiltration_2 : ACode := .region c_laws_FnExactValidFiltration_o2
abbrev c_laws_FnExactValidFiltration_o3 : List AJ := [.o ⟨(some 10), none, false, .mv (.t 3), none⟩, .o ⟨(some 11), none, false, .bin .lss (.t 10) (.c (.int .i64 0)), (some [1, 11])⟩]
def c_laws_FnExactValidFiltration_3 : ACode := .region c_laws_FnExactValidFiltration_o3
abbrev c_laws_FnExactValidFiltration_o4 : List AJ := [.o ⟨(some 2), none, false, .mv (.c (.bool true)), (some [2])⟩]
def c_laws_FnExactValidFiltration_4 : ACode := .region c_laws_FnExactValidFiltration_o4
def c_laws_FnExactValidFiltration_5 : ACode := .seq c_laws_FnExactValidFiltration_4 .ret
def c_laws_FnExactValidFiltration_6 : ACode := .cond (.t 11) c_laws_FnExactValidFiltration_5 .skip
def c_laws_FnExactValidFiltration_7 : ACode := .seq c_laws_FnExactValidFiltration_3 c_laws_FnExactValidFiltration_6
abbrev c_laws_FnExactValidFiltration_o5 : List AJ := [.o ⟨(some 12), none, false, .load 2 true (.t 1), none⟩, .o ⟨(some 13), none, false, .call 15 [(.t 12)], none⟩, .o ⟨(some 14), none, false, .call 14 [(.t 13)], none⟩, .o ⟨(some 4), none, false, .mv (.t 14), (some [1, 4])⟩]
def c_laws_FnExactValidFiltration_8 : ACode := .region c_laws_FnExactValidFiltration_o5
abbrev c_laws_FnExactValidFiltration_o6 : List AJ := [.o ⟨(some 15), none, false, .load 2 true (.t 1), none⟩, .o ⟨(some 16), none, false, .call 15 [(.t 15)], none⟩, .v 5 2 (.agg [.nilsl, .nilsl]) [] (.t 16) (some [1, 4, 5])]
def c_laws_FnExactValidFiltration_9 : ACode := .region c_laws_FnExactValidFiltration_o6
abbrev c_laws_FnExactValidFiltration_o7 : List AJ := [.o ⟨(some 17), none, false, .load 2 true (.t 5), none⟩, .o ⟨(some 18), none, false, .call 16 [(.t 17)], none⟩, .o ⟨(some 6), none, false, .mv (.t 18), (some [1, 4, 5, 6])⟩]
def c_laws_FnExactValidFiltration_10 : ACode := .region c_laws_FnExactValidFiltration_o7
abbrev c_laws_FnExactValidFiltration_o8 : List AJ := [.o ⟨(some 19), none, false, .mv (.t 6), none⟩, .o ⟨(some 20), none, false, .mv (.t 4), none⟩, .o ⟨(some 21), none, false, .beq true (.t 19) (.t 20), (some [1, 5, 21])⟩]
def c_laws_FnExactValidFiltration_11 : ACode := .region c_laws_FnExactValidFiltration_o8
abbrev c_laws_FnExactValidFiltration_o9 : List AJ := [.o ⟨(some 2), none, false, .mv (.c (.bool false)), (some [2])⟩]
def c_laws_FnExactValidFiltration_12 : ACode := .region c_laws_FnExactValidFiltration_o9
def c_laws_FnExactValidFiltration_13 : ACode := .seq c_laws_FnExactValidFiltration_12 .ret
def c_laws_FnExactValidFiltration_14 : ACode := .cond (.t 21) c_laws_FnExactValidFiltration_13 .skip
def c_laws_FnExactValidFiltration_15 : ACode := .seq c_laws_FnExactValidFiltration_11 c_laws_FnExactValidFiltration_14
abbrev c_laws_FnExactValidFiltration_o10 : List AI := [⟨(some 22), none, false, .load 2 true (.t 5), none⟩, ⟨(some 23), none, false, .load 2 true (.t 1), none⟩, ⟨(some 24), none, false, .call 15 [(.t 23)], none⟩, ⟨(some 25), none, false, .call 17 [(.t 22), (.t 24)], none⟩, ⟨(some 26), none, false, .un .not (.t 25), (some [26])⟩]
def c_laws_FnExactValidFiltration_16 : ACode := .draw c_laws_FnExactValidFiltration_o10 [] rfl
abbrev c_laws_FnExactValidFiltration_o11 : List AJ := [.o ⟨(some 2), none, false, .mv (.c (.bool false)), (some [2])⟩]
def c_laws_FnExactValidFiltration_17 : ACode := .region c_laws_FnExactValidFiltration_o11
def c_laws_FnExactValidFiltration_18 : ACode := .seq c_laws_FnExactValidFiltration_17 .ret
def c_laws_FnExactValidFiltration_19 : ACode := .cond (.t 26) c_laws_FnExactValidFiltration_18 .skip
def c_laws_FnExactValidFiltration_20 : ACode := .seq c_laws_FnExactValidFiltration_16 c_laws_FnExactValidFiltration_19
abbrev c_laws_FnExactValidFiltration_o12 : List AJ := [.o ⟨(some 2), none, false, .mv (.c (.bool true)), (some [2])⟩]
def c_laws_FnExactValidFiltration_21 : ACode := .region c_laws_FnExactValidFiltration_o12
def c_laws_FnExactValidFiltration_22 : ACode := .seq c_laws_FnExactValidFiltration_21 .ret
def c_laws_FnExactValidFiltration_23 : ACode := .seq c_laws_FnExactValidFiltration_20 c_laws_FnExactValidFiltration_22
def c_laws_FnExactValidFiltration_24 : ACode := .seq c_laws_FnExactValidFiltration_15 c_laws_FnExactValidFiltration_23
def c_laws_FnExactValidFiltration_25 : ACode := .seq c_laws_FnExactValidFiltration_10 c_laws_FnExactValidFiltration_24
def c_laws_FnExactValidFiltration_26 : ACode := .seq c_laws_FnExactValidFiltration_9 c_laws_FnExactValidFiltration_25
def c_laws_FnExactValidFiltration_27 : ACode := .seq c_laws_FnExactValidFiltration_8 c_laws_FnExactValidFiltration_26
def c_laws_FnExactValidFiltration_28 : ACode := .seq c_laws_FnExactValidFiltration_7 c_laws_FnExactValidFiltration_27
def c_laws_FnExactValidFiltration_29 : ACode := .seq c_laws_FnExactValidFiltration_2 c_laws_FnExactValidFiltration_28
def c_laws_FnExactValidFiltration_30 : ACode := .seq c_laws_FnExactValidFiltration_1 c_laws_FnExactValidFiltration_29
def c_laws_FnExactValidFiltration_31 : ACode := .seq c_laws_FnExactValidFiltration_0 c_laws_FnExactValidFiltration_30
section
variable (C : Cx) (n : Nat) (sk : List AItem) (e : Env) (h : Heap) (R : AV → Heap → Prop)
@[simp, simp ↓] theorem c_laws_FnExactValidFiltration_0_r : vc2 C (n + 1) [] (.code c_laws_FnExactValidFiltration_0 :: sk) e h R = (vc2 C n c_laws_FnExactValidFiltration_o0 sk e h R) := nr rfl
@[simp, simp ↓] theorem c_laws_FnExactValidFiltration_1_r : vc2 C (n + 1) [] (.code c_laws_FnExactValidFiltration_1 :: sk) e h R = (vc2 C n c_laws_FnExactValidFiltration_o1 sk e h R) := nr rfl
@[simp, simp ↓] theorem c_laws_FnExactValidFiltration_2_r : vc2 C (n + 1) [] (.code c_laws_FnExactValidFiltration_2 :: sk) e h R = (vc2 C n c_laws_FnExactValidFiltration_o2 sk e h R) := nr rfl
@[simp, simp ↓] theorem c_laws_FnExactValidFiltration_3_r : vc2 C (n + 1) [] (.code c_laws_FnExactValidFiltration_3 :: sk) e h R = (vc2 C n c_laws_FnExactValidFiltration_o3 sk e h R) := nr rfl
@[simp, simp ↓] theorem c_laws_FnExactValidFiltration_4_r : vc2 C (n + 1) [] (.code c_laws_FnExactValidFiltration_4 :: sk) e h R = (vc2 C n c_laws_FnExactValidFiltration_o4 sk e h R) := nr rfl
@[simp, simp ↓] theorem c_laws_FnExactValidFiltration_5_r : vc2 C (n + 1) [] (.code c_laws_FnExactValidFiltration_5 :: sk) e h R = (vc2 C n [] (.code c_laws_FnExactValidFiltration_4 :: .code .ret :: sk) e h R) := nr rfl
@[simp, simp ↓] theorem c_laws_FnExactValidFiltration_6_r : vc2 C (n + 1) [] (.code c_laws_FnExactValidFiltration_6 :: sk) e h R = (condK (ev e (.t 11)) (vc2 C n [] (.code c_laws_FnExactValidFiltration_5 :: sk) e h R) (vc2 C n [] (.code .skip :: sk) e h R)) := nr rfl
@[simp, simp ↓] theorem c_laws_FnExactValidFiltration_7_r : vc2 C (n + 1) [] (.code c_laws_FnExactValidFiltration_7 :: sk) e h R = (vc2 C n [] (.code c_laws_FnExactValidFiltration_3 :: .code c_laws_FnExactValidFiltration_6 :: sk) e h R) := nr rfl
@[simp, simp ↓] theorem c_laws_FnExactValidFiltration_8_r : vc2 C (n + 1) [] (.code c_laws_FnExactValidFiltration_8 :: sk) e h R = (vc2 C n c_laws_FnExactValidFiltration_o5 sk e h R) := nr rfl
@[simp, simp ↓] theorem c_laws_FnExactValidFiltration_9_r : vc2 C (n + 1) [] (.code c_laws_FnExactValidFiltration_9 :: sk) e h R = (vc2 C n c_laws_FnExactValidFiltration_o6 sk e h R) := nr rfl
@[simp, simp ↓] theorem c_laws_FnExactValidFiltration_10_r : vc2 C (n + 1) [] (.code c_laws_FnExactValidFiltration_10 :: sk) e h R = (vc2 C n c_laws_FnExactValidFiltration_o7 sk e h R) := nr rfl
@[simp, simp ↓] theorem c_laws_FnExactValidFiltration_11_r : vc2 C (n + 1) [] (.code c_laws_FnExactValidFiltration_11 :: sk) e h R = (vc2 C n c_laws_FnExactValidFiltration_o8 sk e h R) := nr rfl
@[simp, simp ↓] theorem c_laws_FnExactValidFiltration_12_r : vc2 C (n + 1) [] (.code c_laws_FnExactValidFiltration_12 :: sk) e h R = (vc2 C n c_laws_FnExactValidFiltration_o9 sk e h R) := nr rfl
@[simp, simp ↓] theorem c_laws_FnExactValidFiltration_13_r : vc2 C (n + 1) [] (.code c_laws_FnExactValidFiltration_13 :: sk) e h R = (vc2 C n [] (.code c_laws_FnExactValidFiltration_12 :: .code .ret :: sk) e h R) := nr rfl
@[simp, simp ↓] theorem c_laws_FnExactValidFiltration_14_r : vc2 C (n + 1) [] (.code c_laws_FnExactValidFiltration_14 :: sk) e h R = (condK (ev e (.t 21)) (vc2 C n [] (.code c_laws_FnExactValidFiltration_13 :: sk) e h R) (vc2 C n [] (.code .skip :: sk) e h R)) := nr rfl
@[simp, simp ↓] theorem c_laws_FnExactValidFiltration_15_r : vc2 C (n + 1) [] (.code c_laws_FnExactValidFiltration_15 :: sk) e h R = (vc2 C n [] (.code c_laws_FnExactValidFiltration_11 :: .code c_laws_FnExactValidFiltration_14 :: sk) e h R) := nr rfl
@[simp, simp ↓] theorem c_laws_FnExactValidFiltration_16_r : vc2 C (n + 1) [] (.code c_laws_FnExactValidFiltration_16 :: sk) e h R = (draw2 C h (vK C n [] sk R h) c_laws_FnExactValidFiltration_o10 e) := nr rfl
@[simp, simp ↓] theorem c_laws_FnExactValidFiltration_17_r : vc2 C (n + 1) [] (.code c_laws_FnExactValidFiltration_17 :: sk) e h R = (vc2 C n c_laws_FnExactValidFiltration_o11 sk e h R) := nr rfl
@[simp, simp ↓] theorem c_laws_FnExactValidFiltration_18_r : vc2 C (n + 1) [] (.code c_laws_FnExactValidFiltration_18 :: sk) e h R = (vc2 C n [] (.code c_laws_FnExactValidFiltration_17 :: .code .ret :: sk) e h R) := nr rfl
@[simp, simp ↓] theorem c_laws_FnExactValidFiltration_19_r : vc2 C (n + 1) [] (.code c_laws_FnExactValidFiltration_19 :: sk) e h R = (condK (ev e (.t 26)) (vc2 C n [] (.code c_laws_FnExactValidFiltration_18 :: sk) e h R) (vc2 C n [] (.code .skip :: sk) e h R)) := nr rfl
@[simp, simp ↓] theorem c_laws_FnExactValidFiltration_20_r : vc2 C (n + 1) [] (.code c_laws_FnExactValidFiltration_20 :: sk) e h R = (vc2 C n [] (.code c_laws_FnExactValidFiltration_16 :: .code c_laws_FnExactValidFiltration_19 :: sk) e h R) := nr rfl
@[simp, simp ↓] theorem c_laws_FnExactValidFiltration_21_r : vc2 C (n + 1) [] (.code c_laws_FnExactValidFiltration_21 :: sk) e h R = (vc2 C n c_laws_FnExactValidFiltration_o12 sk e h R) := nr rfl
@[simp, simp ↓] theorem c_laws_FnExactValidFiltration_22_r : vc2 C (n + 1) [] (.code c_laws_FnExactValidFiltration_22 :: sk) e h R = (vc2 C n [] (.code c_laws_FnExactValidFiltration_21 :: .code .ret :: sk) e h R) := nr rfl
@[simp, simp ↓] theorem c_laws_FnExactValidFiltration_23_r : vc2 C (n + 1) [] (.code c_laws_FnExactValidFiltration_23 :: sk) e h R = (vc2 C n [] (.code c_laws_FnExactValidFiltration_20 :: .code c_laws_FnExactValidFiltration_22 :: sk) e h R) := nr rfl
@[simp, simp ↓] theorem c_laws_FnExactValidFiltration_24_r : vc2 C (n + 1) [] (.code c_laws_FnExactValidFiltration_24 :: sk) e h R = (vc2 C n [] (.code c_laws_FnExactValidFiltration_15 :: .code c_laws_FnExactValidFiltration_23 :: sk) e h R) := nr rfl
@[simp, simp ↓] theorem c_laws_FnExactValidFiltration_25_r : vc2 C (n + 1) [] (.code c_laws_FnExactValidFiltration_25 :: sk) e h R = (vc2 C n [] (.code c_laws_FnExactValidFiltration_10 :: .code c_laws_FnExactValidFiltration_24 :: sk) e h R) := nr rfl
@[simp, simp ↓] theorem c_laws_FnExactValidFiltration_26_r : vc2 C (n + 1) [] (.code c_laws_FnExactValidFiltration_26 :: sk) e h R = (vc2 C n [] (.code c_laws_FnExactValidFiltration_9 :: .code c_laws_FnExactValidFiltration_25 :: sk) e h R) := nr rfl
@[simp, simp ↓] theorem c_laws_FnExactValidFiltration_27_r : vc2 C (n + 1) [] (.code c_laws_FnExactValidFiltration_27 :: sk) e h R = (vc2 C n [] (.code c_laws_FnExactValidFiltration_8 :: .code c_laws_FnExactValidFiltration_26 :: sk) e h R) := nr rfl
@[simp, simp ↓] theorem c_laws_FnExactValidFiltration_28_r : vc2 C (n + 1) [] (.code c_laws_FnExactValidFiltration_28 :: sk) e h R = (vc2 C n [] (.code c_laws_FnExactValidFiltration_7 :: .code c_laws_FnExactValidFiltration_27 :: sk) e h R) := nr rfl
@[simp, simp ↓] theorem c_laws_FnExactValidFiltration_29_r : vc2 C (n + 1) [] (.code c_laws_FnExactValidFiltration_29 :: sk) e h R = (vc2 C n [] (.code c_laws_FnExactValidFiltration_2 :: .code c_laws_FnExactValidFiltration_28 :: sk) e h R) := nr rfl
@[simp, simp ↓] theorem c_laws_FnExactValidFiltration_30_r : vc2 C (n + 1) [] (.code c_laws_FnExactValidFiltration_30 :: sk) e h R = (vc2 C n [] (.code c_laws_FnExactValidFiltration_1 :: .code c_laws_FnExactValidFiltration_29 :: sk) e h R) := nr rfl
@[simp, simp ↓] theorem c_laws_FnExactValidFiltration_31_r : vc2 C (n + 1) [] (.code c_laws_FnExactValidFiltration_31 :: sk) e h R = (vc2 C n [] (.code c_laws_FnExactValidFiltration_0 :: .code c_laws_FnExactValidFiltration_30 :: sk) e h R) := nr rfl
end
noncomputable def c_laws_FnExactValidFiltration_C (orc : Orc) : Cx := ⟨Try.prog, [5], 3, 27, [.tmp 2], orc⟩
@[simp] theorem c_laws_FnExactValidFiltration_C_P (orc : Orc) : (c_laws_FnExactValidFiltration_C orc).P = Try.prog := nr rfl
@[simp] theorem c_laws_FnExactValidFiltration_C_o (orc : Orc) : (c_laws_FnExactValidFiltration_C orc).orc = orc := nr rfl
@[simp] theorem c_laws_FnExactValidFiltration_C_r (orc : Orc) : (c_laws_FnExactValidFiltration_C orc).res = [.tmp 2] := nr rfl
theorem c_laws_FnExactValidFiltration_of {args : List AV} {h : Heap} {R : AV → Heap → Prop} {k : Nat} (ha : args.length = k) {orc : Orc} (hp : Pure Try.prog orc) (hk : Is (c_laws_FnExactValidFiltration_C orc) Try.f3 → Run2 (c_laws_FnExactValidFiltration_C orc) [.code c_laws_FnExactValidFiltration_31] (argEnv 0 args) h (Post R)) (hle : k ≤ 27 := by simp) : ACalls Try.prog 3 args h R :=
  contract2 [5] c_laws_FnExactValidFiltration_31 [.tmp 2] Try.func3 (by decide +kernel) rfl (by kernel_rfl) (by rw [ha]; exact hle) (by kernel_rfl) hp hk
theorem c_laws_FnExactValidFiltration_of0 {args : List AV} {h : Heap} {R : AV → Heap → Prop} {k : Nat} (ha : args.length = k) {orc : Orc} (hp : Pure Try.prog orc) (hk : Is (c_laws_FnExactValidFiltration_C orc) Try.f3 → Run2 (c_laws_FnExactValidFiltration_C orc) [.code c_laws_FnExactValidFiltration_31] (argEnv 0 args) h R) (hle : k ≤ 27 := by simp) : ACalls Try.prog 3 args h R :=
  contract20 [5] c_laws_FnExactValidFiltration_31 [.tmp 2] Try.func3 (by decide +kernel) rfl (by kernel_rfl) (by rw [ha]; exact hle) (by kernel_rfl) hp hk
theorem vf_law (x : Fil) (hx : x.wf) : ACalls Try.prog 3 [x.av] [] (fun v h' => v = .bool true ∧ h' = []) := by
  refine c_laws_FnExactValidFiltration_of rfl orcM_p fun I => ?_
  have hx2_x := hx
  refine Run2.of I 1000 ?_
  by_cases kx : (x.tot : Int) ≤ (1048576 : Int)
  · have hAx : ¬ (1048576 : Int) < x.tot := by omega
    have hBx : ¬ (1048576 : Int) - x.tot < 0 := by omega
    have hCx : (0 : Int) ≤ (1048576 : Int) - x.tot := by omega
    have lx : x.tot ≤ 1048576 := by omega
    have hDx : (1048576 : Int) - x.tot ≤ 1048576 := by omega
    simp -implicitDefEqProofs [hx2_x, hAx, hBx, hCx, hDx, kx]
    first | refine dcallK (toFil_c x _ lx) ?_ | (refine (toFil_c x _ lx).mono ?_; rintro v h' ⟨rfl, rfl⟩; refine gK.go ?_)
    simp -implicitDefEqProofs
    first | refine dcallK (specVF_s x _ lx) ?_ | (refine (specVF_s x _ lx).mono ?_; rintro v h' ⟨rfl, rfl⟩; refine gK.go ?_)
    simp -implicitDefEqProofs
    refine (toFil_o x _ lx).monoN ?_
    rintro v0 h' ⟨g0, o0, d0, rfl⟩ n0
    obtain ⟨pu0, pw0, pa0, pb0, rfl, pou0, pow0, phd0, phe0⟩ := id o0
    have c0 := pou0.cell
    have c0_1 := pow0.cell
    refine gK.go ?_
    simp -implicitDefEqProofs [c0, c0_1]
    simp only [List.append_nil] at n0
    skip
    have L0 := o0.lentMid (A := []) (B := []) (by simpa only [List.nil_append, List.append_nil, List.append_assoc] using n0)
    simp only [List.nil_append, List.append_nil, List.append_assoc] at L0
    first | refine dcallK (ACalls.reads g0 (fun p hp => hp) (v0 := .bool (decide x.valid)) ?_ rfl) ?_ | (refine (ACalls.reads g0 (fun p hp => hp) (v0 := .bool (decide x.valid)) ?_ rfl).mono ?_)
    · rw [lend_cons, lend_nil']
      exact ACalls.wk (.cons L0.wk .nil) (validFil_s x [] lx)
    try (rintro v h' ⟨rfl, rfl⟩; refine gK.go ?_)
    simp -implicitDefEqProofs [c0, c0_1]
    first | refine dcallK (toFil_c x _ lx) ?_ | (refine (toFil_c x _ lx).mono ?_; rintro v h' ⟨rfl, rfl⟩; refine gK.go ?_)
    simp -implicitDefEqProofs [c0, c0_1]
    first | refine dcallK (eqFil_own o0 x.is (fun p hp => hp) lx) ?_ | (refine (eqFil_own o0 x.is (fun p hp => hp) lx).mono ?_; rintro v h' ⟨rfl, rfl⟩; refine gK.go ?_)
    simp -implicitDefEqProofs [c0, c0_1]
    exact Post.none ⟨rfl, rfl⟩
  · have hAx : (1048576 : Int) < x.tot := by omega
    simp -implicitDefEqProofs [hx2_x, hAx]
    exact .base ⟨rfl, rfl⟩
end Go.AG
namespace Go.Proofs.Ytamjnegnoijjlaa
open Go.ChangeShapes Go.WideShapes Go.ChangeAt Go.RowKit Go.AG
theorem own : ownKnob Try.prog.godebug = none := by kernel_rfl
theorem laidOut : laidOutB Try.prog = true := by kernel_rfl
set_option maxRecDepth 100000 in
theorem fnExactValidFiltration_lifted (os : Os) (started : os.Started) (H : Type) (enc : TypeId × Value → H) :
    ReturnsInHanded {} Try.checked os 3 .any (Rows.fnExactValidFiltrationSpec.pre6 enc Try.prog Try.f3 Rows.fnExactValidFiltrationRow.domain false) (Rows.fnExactValidFiltrationSpec.post enc Try.prog Try.f3 false true false false) := by
  refine returnsInHanded_of_change (C := Try.checked) own started (by kernel_rfl) Try.func3
    (ChangeSpec.witness6 (enc := enc) (C := Try.checked) false ⟨#[], #[.agg #[.slice none 0 0, .slice none 0 0]], []⟩ 8 (by kernel_rfl) (by kernel_rfl) (by kernel_rfl) (by kernel_rfl)) ?_
  intro W base args ds gs before hval0 hW _ _
  have hval : ∀ (j : Nat) t v, Try.f3.params[j]? = some t → args[j]? = some v → Value.okWide Try.prog W .any base t v := hval0
  refine law_post (tys := [tyF]) (tb := 4) laidOut rfl (by kernel_rfl) (by kernel_rfl) (by kernel_rfl) (by kernel_rfl) hval hW ?_ ?_
  · intro ds h
    match ds, h with
    | [a0], _ => rfl
  · rintro xs ⟨x0, r0, rfl, h0, hr⟩
    have hr0 : r0 = [] := hr
    subst hr0
    obtain ⟨p0, rfl, q0⟩ := Fil_of_shape h0
    exact vf_law p0 q0
theorem fnExactValidFiltration_holds : Rows.FnExactValidFiltrationSaid :=
  OpenClaim.holds_of_wide 3 Try.f3 rfl rfl rfl rfl rfl rfl rfl ⟨rfl, rfl, rfl, rfl, rfl⟩ rfl rfl rfl rfl rfl (by kernel_rfl) Try.func3 (by kernel_rfl)
    (of_decide_eq_true (by kernel_rfl)) (by unfold Func.isWrapper; first | (rw [if_pos (by decide +kernel)]; kernel_rfl) | (rw [if_neg (by decide +kernel)]; exact ⟨rfl, rfl⟩))
    (fun os started H enc _ => fnExactValidFiltration_lifted os started H enc)
end Go.Proofs.Ytamjnegnoijjlaa
