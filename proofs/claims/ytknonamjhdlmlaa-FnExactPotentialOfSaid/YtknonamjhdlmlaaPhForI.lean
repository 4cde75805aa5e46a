/- ForestOf: what the program's and the reference's functions give. No statement is made here. -/
import Derived.Test.YtknonamjhdlmlaaPhFor2
namespace Go.AG
open Go.Proofs Go.Proofs.Ytknonamjhdlmlaa
set_option linter.unusedSimpArgs false
set_option linter.unusedVariables false
set_option maxRecDepth 4000
abbrev c_spec_ForestOf_o0 : List AJ := [.o ⟨(some 1), none, false, .box false 3 (.t 0), none⟩, .o ⟨(some 2), none, false, .mv (.c .nilsl), none⟩, .o ⟨(some 3), none, false, .mv (.c (.int .i64 0)), (some [1])⟩]
def c_spec_ForestOf_0 : ACode := .region c_spec_ForestOf_o0
abbrev c_spec_ForestOf_o1 : List AJ := [.o ⟨(some 6), none, false, .call 49 [(.t 1)], none⟩, .o ⟨(some 7), none, false, .un .not (.t 6), (some [1, 7])⟩]
def c_spec_ForestOf_1 : ACode := .region c_spec_ForestOf_o1
abbrev c_spec_ForestOf_o2 : List AJ := [.o ⟨(some 2), none, false, .mv (.c .nilsl), none⟩, .o ⟨(some 3), none, false, .mv (.c (.int .i64 1)), (some [2, 3])⟩]
def c_spec_ForestOf_2 : ACode := .region c_spec_ForestOf_o2
def c_spec_ForestOf_3 : ACode := .seq c_spec_ForestOf_2 .ret
def c_spec_ForestOf_4 : ACode := .cond (.t 7) c_spec_ForestOf_3 .skip
def c_spec_ForestOf_5 : ACode := .seq c_spec_ForestOf_1 c_spec_ForestOf_4
abbrev c_spec_ForestOf_o3 : List AJ := [.o ⟨(some 9), none, false, .bsl false 1 [], none⟩, .o ⟨(some 10), none, false, .call 67 [(.t 1), (.t 9)], none⟩, .o ⟨(some 8), none, false, .mv (.t 10), none⟩, .o ⟨(some 11), none, false, .extract (.t 8) 0, none⟩, .o ⟨(some 12), none, false, .extract (.t 8) 1, none⟩, .o ⟨(some 4), none, false, .mv (.t 11), none⟩, .o ⟨(some 5), none, false, .mv (.t 12), (some [4])⟩]
def c_spec_ForestOf_6 : ACode := .region c_spec_ForestOf_o3
abbrev c_spec_ForestOf_o4 : List AJ := [.o ⟨(some 13), none, false, .mv (.t 4), none⟩, .o ⟨(some 2), none, false, .mv (.t 13), none⟩, .o ⟨(some 3), none, false, .mv (.c (.int .i64 0)), (some [2, 3])⟩]
def c_spec_ForestOf_7 : ACode := .region c_spec_ForestOf_o4
def c_spec_ForestOf_8 : ACode := .seq c_spec_ForestOf_7 .ret
def c_spec_ForestOf_9 : ACode := .seq c_spec_ForestOf_6 c_spec_ForestOf_8
def c_spec_ForestOf_10 : ACode := .seq c_spec_ForestOf_5 c_spec_ForestOf_9
def c_spec_ForestOf_11 : ACode := .seq c_spec_ForestOf_0 c_spec_ForestOf_10
section
variable (C : Cx) (n : Nat) (sk : List AItem) (e : Env) (h : Heap) (R : AV → Heap → Prop)
@[simp, simp ↓] theorem c_spec_ForestOf_0_r : vc2 C (n + 1) [] (.code c_spec_ForestOf_0 :: sk) e h R = (vc2 C n c_spec_ForestOf_o0 sk e h R) := nr rfl
@[simp, simp ↓] theorem c_spec_ForestOf_1_r : vc2 C (n + 1) [] (.code c_spec_ForestOf_1 :: sk) e h R = (vc2 C n c_spec_ForestOf_o1 sk e h R) := nr rfl
@[simp, simp ↓] theorem c_spec_ForestOf_2_r : vc2 C (n + 1) [] (.code c_spec_ForestOf_2 :: sk) e h R = (vc2 C n c_spec_ForestOf_o2 sk e h R) := nr rfl
@[simp, simp ↓] theorem c_spec_ForestOf_3_r : vc2 C (n + 1) [] (.code c_spec_ForestOf_3 :: sk) e h R = (vc2 C n [] (.code c_spec_ForestOf_2 :: .code .ret :: sk) e h R) := nr rfl
@[simp, simp ↓] theorem c_spec_ForestOf_4_r : vc2 C (n + 1) [] (.code c_spec_ForestOf_4 :: sk) e h R = (condK (ev e (.t 7)) (vc2 C n [] (.code c_spec_ForestOf_3 :: sk) e h R) (vc2 C n [] (.code .skip :: sk) e h R)) := nr rfl
@[simp, simp ↓] theorem c_spec_ForestOf_5_r : vc2 C (n + 1) [] (.code c_spec_ForestOf_5 :: sk) e h R = (vc2 C n [] (.code c_spec_ForestOf_1 :: .code c_spec_ForestOf_4 :: sk) e h R) := nr rfl
@[simp, simp ↓] theorem c_spec_ForestOf_6_r : vc2 C (n + 1) [] (.code c_spec_ForestOf_6 :: sk) e h R = (vc2 C n c_spec_ForestOf_o3 sk e h R) := nr rfl
@[simp, simp ↓] theorem c_spec_ForestOf_7_r : vc2 C (n + 1) [] (.code c_spec_ForestOf_7 :: sk) e h R = (vc2 C n c_spec_ForestOf_o4 sk e h R) := nr rfl
@[simp, simp ↓] theorem c_spec_ForestOf_8_r : vc2 C (n + 1) [] (.code c_spec_ForestOf_8 :: sk) e h R = (vc2 C n [] (.code c_spec_ForestOf_7 :: .code .ret :: sk) e h R) := nr rfl
@[simp, simp ↓] theorem c_spec_ForestOf_9_r : vc2 C (n + 1) [] (.code c_spec_ForestOf_9 :: sk) e h R = (vc2 C n [] (.code c_spec_ForestOf_6 :: .code c_spec_ForestOf_8 :: sk) e h R) := nr rfl
@[simp, simp ↓] theorem c_spec_ForestOf_10_r : vc2 C (n + 1) [] (.code c_spec_ForestOf_10 :: sk) e h R = (vc2 C n [] (.code c_spec_ForestOf_5 :: .code c_spec_ForestOf_9 :: sk) e h R) := nr rfl
@[simp, simp ↓] theorem c_spec_ForestOf_11_r : vc2 C (n + 1) [] (.code c_spec_ForestOf_11 :: sk) e h R = (vc2 C n [] (.code c_spec_ForestOf_0 :: .code c_spec_ForestOf_10 :: sk) e h R) := nr rfl
end
noncomputable def c_spec_ForestOf_C (orc : Orc) : Cx := ⟨Try.prog, [], 35, 14, [.tmp 2, .tmp 3], orc⟩
@[simp] theorem c_spec_ForestOf_C_P (orc : Orc) : (c_spec_ForestOf_C orc).P = Try.prog := nr rfl
@[simp] theorem c_spec_ForestOf_C_o (orc : Orc) : (c_spec_ForestOf_C orc).orc = orc := nr rfl
@[simp] theorem c_spec_ForestOf_C_r (orc : Orc) : (c_spec_ForestOf_C orc).res = [.tmp 2, .tmp 3] := nr rfl
theorem c_spec_ForestOf_of {args : List AV} {h : Heap} {R : AV → Heap → Prop} {k : Nat} (ha : args.length = k) {orc : Orc} (hp : Pure Try.prog orc) (hk : Is (c_spec_ForestOf_C orc) Try.f35 → Run2 (c_spec_ForestOf_C orc) [.code c_spec_ForestOf_11] (argEnv 0 args) h (Post R)) (hle : k ≤ 14 := by simp) : ACalls Try.prog 35 args h R :=
  contract2 [] c_spec_ForestOf_11 [.tmp 2, .tmp 3] Try.func35 (by decide +kernel) rfl (by kernel_rfl) (by rw [ha]; exact hle) (by kernel_rfl) hp hk
theorem c_spec_ForestOf_of0 {args : List AV} {h : Heap} {R : AV → Heap → Prop} {k : Nat} (ha : args.length = k) {orc : Orc} (hp : Pure Try.prog orc) (hk : Is (c_spec_ForestOf_C orc) Try.f35 → Run2 (c_spec_ForestOf_C orc) [.code c_spec_ForestOf_11] (argEnv 0 args) h R) (hle : k ≤ 14 := by simp) : ACalls Try.prog 35 args h R :=
  contract20 [] c_spec_ForestOf_11 [.tmp 2, .tmp 3] Try.func35 (by decide +kernel) rfl (by kernel_rfl) (by rw [ha]; exact hle) (by kernel_rfl) hp hk
noncomputable def Ph.fres (x : Ph) : List Int := if x.valid then x.forest else []
noncomputable def Ph.fcode (x : Ph) : Int := if x.valid then 0 else 1
theorem Ph.fres_len (x : Ph) : x.fres.length ≤ x.ts.length := by
  unfold Ph.fres
  split
  · exact fstate_len x _
  · simp
theorem specForest_c (x : Ph) (h : Heap) (ok : x.ok) (hl : x.ts.length ≤ 1048576) : ACalls Try.prog 35 [x.av] h (fun v h' => v = .tup [.snap 1 (x.fres.map iv), .int .i64 x.fcode] ∧ h' = h) := by
  refine c_spec_ForestOf_of rfl orcT2_p fun I => ?_
  refine Run2.of I 1000 ?_
  simp -implicitDefEqProofs [ok, hl]
  refine ⟨fun hv => .wk (.tup (.cons (.nil 1) (.cons (.refl _) .nil))) (.base ?_), fun hv => ?_⟩
  · simp [Ph.fres, Ph.fcode, hv]
  first | refine dcallK (l23Forest_c x _ hv) ?_ | (refine (l23Forest_c x _ hv).mono ?_; rintro v h' ⟨rfl, rfl⟩; refine gK.go ?_)
  simp -implicitDefEqProofs
  refine .base ?_
  simp [Ph.fres, Ph.fcode, hv]
abbrev c_impl_firstChoice_o0 : List AJ := [.o ⟨(some 2), none, false, .mv (.c .nilsl), (some [0])⟩]
def c_impl_firstChoice_0 : ACode := .region c_impl_firstChoice_o0
abbrev c_impl_firstChoice_o1 : List AJ := [.o ⟨(some 3), none, false, .mv (.c .nilsl), (some [0, 3])⟩]
def c_impl_firstChoice_1 : ACode := .region c_impl_firstChoice_o1
abbrev c_impl_firstChoice_o2 : List AJ := [.o ⟨(some 5), none, false, .mv (.t 0), none⟩, .o ⟨(some 6), none, false, .mv (.c (.int .i64 0)), (some [3, 5, 6])⟩]
def c_impl_firstChoice_2 : ACode := .region c_impl_firstChoice_o2
abbrev c_impl_firstChoice_o3 : List AJ := [.o ⟨(some 7), none, false, .bin .lss (.t 6) (.t 5), (some [3, 5, 6, 7])⟩]
def c_impl_firstChoice_3 : ACode := .region c_impl_firstChoice_o3
def c_impl_firstChoice_4 : ACode := .cond (.t 7) .skip (.exit 0)
abbrev c_impl_firstChoice_o4 : List AJ := [.o ⟨(some 8), none, false, .mv (.t 6), none⟩, .o ⟨(some 4), none, false, .mv (.t 8), (some [3, 4, 5, 6])⟩]
def c_impl_firstChoice_5 : ACode := .region c_impl_firstChoice_o4
abbrev c_impl_firstChoice_o5 : List AJ := [.o ⟨(some 9), none, false, .mv (.t 3), none⟩, .o ⟨(some 10), none, false, .mv (.t 4), none⟩, .o ⟨(some 11), none, false, .bsl false 1 [(.t 10)], none⟩, .o ⟨(some 12), none, false, .append 1 8 (.t 9) (.t 11), none⟩, .o ⟨(some 3), none, false, .mv (.t 12), (some [3, 5, 6])⟩]
def c_impl_firstChoice_6 : ACode := .region c_impl_firstChoice_o5
def c_impl_firstChoice_7 : ACode := .seq c_impl_firstChoice_5 c_impl_firstChoice_6
def c_impl_firstChoice_8 : ACode := .block 1 c_impl_firstChoice_7
abbrev c_impl_firstChoice_o6 : List AJ := [.o ⟨(some 13), none, true, .bin .add (.t 6) (.c (.int .i64 1)), none⟩, .o ⟨(some 6), none, false, .mv (.t 13), (some [3, 5, 6])⟩]
def c_impl_firstChoice_9 : ACode := .region c_impl_firstChoice_o6
def c_impl_firstChoice_10 : ACode := .seq c_impl_firstChoice_8 c_impl_firstChoice_9
def c_impl_firstChoice_11 : ACode := .seq c_impl_firstChoice_4 c_impl_firstChoice_10
def c_impl_firstChoice_12 : ACode := .seq c_impl_firstChoice_3 c_impl_firstChoice_11
def c_impl_firstChoice_13 : ACode := .loop c_impl_firstChoice_12
def c_impl_firstChoice_14 : ACode := .block 0 c_impl_firstChoice_13
def c_impl_firstChoice_15 : ACode := .seq c_impl_firstChoice_2 c_impl_firstChoice_14
abbrev c_impl_firstChoice_o7 : List AJ := [.o ⟨(some 14), none, false, .mv (.t 3), none⟩, .o ⟨(some 2), none, false, .mv (.t 14), (some [2])⟩]
def c_impl_firstChoice_16 : ACode := .region c_impl_firstChoice_o7
def c_impl_firstChoice_17 : ACode := .seq c_impl_firstChoice_16 .ret
def c_impl_firstChoice_18 : ACode := .seq c_impl_firstChoice_15 c_impl_firstChoice_17
def c_impl_firstChoice_19 : ACode := .seq c_impl_firstChoice_1 c_impl_firstChoice_18
def c_impl_firstChoice_20 : ACode := .seq c_impl_firstChoice_0 c_impl_firstChoice_19
section
variable (C : Cx) (n : Nat) (sk : List AItem) (e : Env) (h : Heap) (R : AV → Heap → Prop)
@[simp, simp ↓] theorem c_impl_firstChoice_0_r : vc2 C (n + 1) [] (.code c_impl_firstChoice_0 :: sk) e h R = (vc2 C n c_impl_firstChoice_o0 sk e h R) := nr rfl
@[simp, simp ↓] theorem c_impl_firstChoice_1_r : vc2 C (n + 1) [] (.code c_impl_firstChoice_1 :: sk) e h R = (vc2 C n c_impl_firstChoice_o1 sk e h R) := nr rfl
@[simp, simp ↓] theorem c_impl_firstChoice_2_r : vc2 C (n + 1) [] (.code c_impl_firstChoice_2 :: sk) e h R = (vc2 C n c_impl_firstChoice_o2 sk e h R) := nr rfl
@[simp, simp ↓] theorem c_impl_firstChoice_3_r : vc2 C (n + 1) [] (.code c_impl_firstChoice_3 :: sk) e h R = (vc2 C n c_impl_firstChoice_o3 sk e h R) := nr rfl
@[simp, simp ↓] theorem c_impl_firstChoice_4_r : vc2 C (n + 1) [] (.code c_impl_firstChoice_4 :: sk) e h R = (condK (ev e (.t 7)) (vc2 C n [] (.code .skip :: sk) e h R) (vc2 C n [] (.code (.exit 0) :: sk) e h R)) := nr rfl
@[simp, simp ↓] theorem c_impl_firstChoice_5_r : vc2 C (n + 1) [] (.code c_impl_firstChoice_5 :: sk) e h R = (vc2 C n c_impl_firstChoice_o4 sk e h R) := nr rfl
@[simp, simp ↓] theorem c_impl_firstChoice_6_r : vc2 C (n + 1) [] (.code c_impl_firstChoice_6 :: sk) e h R = (vc2 C n c_impl_firstChoice_o5 sk e h R) := nr rfl
@[simp, simp ↓] theorem c_impl_firstChoice_7_r : vc2 C (n + 1) [] (.code c_impl_firstChoice_7 :: sk) e h R = (vc2 C n [] (.code c_impl_firstChoice_5 :: .code c_impl_firstChoice_6 :: sk) e h R) := nr rfl
@[simp, simp ↓] theorem c_impl_firstChoice_8_r : vc2 C (n + 1) [] (.code c_impl_firstChoice_8 :: sk) e h R = (vc2 C n [] (.code c_impl_firstChoice_7 :: .inBlock 1 :: sk) e h R) := nr rfl
@[simp, simp ↓] theorem c_impl_firstChoice_9_r : vc2 C (n + 1) [] (.code c_impl_firstChoice_9 :: sk) e h R = (vc2 C n c_impl_firstChoice_o6 sk e h R) := nr rfl
@[simp, simp ↓] theorem c_impl_firstChoice_10_r : vc2 C (n + 1) [] (.code c_impl_firstChoice_10 :: sk) e h R = (vc2 C n [] (.code c_impl_firstChoice_8 :: .code c_impl_firstChoice_9 :: sk) e h R) := nr rfl
@[simp, simp ↓] theorem c_impl_firstChoice_11_r : vc2 C (n + 1) [] (.code c_impl_firstChoice_11 :: sk) e h R = (vc2 C n [] (.code c_impl_firstChoice_4 :: .code c_impl_firstChoice_10 :: sk) e h R) := nr rfl
@[simp, simp ↓] theorem c_impl_firstChoice_12_r : vc2 C (n + 1) [] (.code c_impl_firstChoice_12 :: sk) e h R = (vc2 C n [] (.code c_impl_firstChoice_3 :: .code c_impl_firstChoice_11 :: sk) e h R) := nr rfl
@[simp, simp ↓] theorem c_impl_firstChoice_13_r : vc2 C (n + 1) [] (.code c_impl_firstChoice_13 :: sk) e h R = (Run2 C (.code c_impl_firstChoice_12 :: .inLoop c_impl_firstChoice_12 :: sk) e h R) := nr rfl
@[simp, simp ↓] theorem c_impl_firstChoice_14_r : vc2 C (n + 1) [] (.code c_impl_firstChoice_14 :: sk) e h R = (vc2 C n [] (.code c_impl_firstChoice_13 :: .inBlock 0 :: sk) e h R) := nr rfl
@[simp, simp ↓] theorem c_impl_firstChoice_15_r : vc2 C (n + 1) [] (.code c_impl_firstChoice_15 :: sk) e h R = (vc2 C n [] (.code c_impl_firstChoice_2 :: .code c_impl_firstChoice_14 :: sk) e h R) := nr rfl
@[simp, simp ↓] theorem c_impl_firstChoice_16_r : vc2 C (n + 1) [] (.code c_impl_firstChoice_16 :: sk) e h R = (vc2 C n c_impl_firstChoice_o7 sk e h R) := nr rfl
@[simp, simp ↓] theorem c_impl_firstChoice_17_r : vc2 C (n + 1) [] (.code c_impl_firstChoice_17 :: sk) e h R = (vc2 C n [] (.code c_impl_firstChoice_16 :: .code .ret :: sk) e h R) := nr rfl
@[simp, simp ↓] theorem c_impl_firstChoice_18_r : vc2 C (n + 1) [] (.code c_impl_firstChoice_18 :: sk) e h R = (vc2 C n [] (.code c_impl_firstChoice_15 :: .code c_impl_firstChoice_17 :: sk) e h R) := nr rfl
@[simp, simp ↓] theorem c_impl_firstChoice_19_r : vc2 C (n + 1) [] (.code c_impl_firstChoice_19 :: sk) e h R = (vc2 C n [] (.code c_impl_firstChoice_1 :: .code c_impl_firstChoice_18 :: sk) e h R) := nr rfl
@[simp, simp ↓] theorem c_impl_firstChoice_20_r : vc2 C (n + 1) [] (.code c_impl_firstChoice_20 :: sk) e h R = (vc2 C n [] (.code c_impl_firstChoice_0 :: .code c_impl_firstChoice_19 :: sk) e h R) := nr rfl
end
noncomputable def c_impl_firstChoice_C (orc : Orc) : Cx := ⟨Try.prog, [], 78, 15, [.tmp 2], orc⟩
@[simp] theorem c_impl_firstChoice_C_P (orc : Orc) : (c_impl_firstChoice_C orc).P = Try.prog := nr rfl
@[simp] theorem c_impl_firstChoice_C_o (orc : Orc) : (c_impl_firstChoice_C orc).orc = orc := nr rfl
@[simp] theorem c_impl_firstChoice_C_r (orc : Orc) : (c_impl_firstChoice_C orc).res = [.tmp 2] := nr rfl
theorem c_impl_firstChoice_of {args : List AV} {h : Heap} {R : AV → Heap → Prop} {k : Nat} (ha : args.length = k) {orc : Orc} (hp : Pure Try.prog orc) (hk : Is (c_impl_firstChoice_C orc) Try.f78 → Run2 (c_impl_firstChoice_C orc) [.code c_impl_firstChoice_20] (argEnv 0 args) h (Post R)) (hle : k ≤ 15 := by simp) : ACalls Try.prog 78 args h R :=
  contract2 [] c_impl_firstChoice_20 [.tmp 2] Try.func78 (by decide +kernel) rfl (by kernel_rfl) (by rw [ha]; exact hle) (by kernel_rfl) hp hk
theorem c_impl_firstChoice_of0 {args : List AV} {h : Heap} {R : AV → Heap → Prop} {k : Nat} (ha : args.length = k) {orc : Orc} (hp : Pure Try.prog orc) (hk : Is (c_impl_firstChoice_C orc) Try.f78 → Run2 (c_impl_firstChoice_C orc) [.code c_impl_firstChoice_20] (argEnv 0 args) h R) (hle : k ≤ 15 := by simp) : ACalls Try.prog 78 args h R :=
  contract20 [] c_impl_firstChoice_20 [.tmp 2] Try.func78 (by decide +kernel) rfl (by kernel_rfl) (by rw [ha]; exact hle) (by kernel_rfl) hp hk
theorem firstChoice_w (n : Int) (h : Heap) (hn : n ≤ 1048576) : ACalls Try.prog 78 [.int .i64 n] h (fun v h' => ∃ hp, Grow 1 v (((List.range n.toNat).map Int.ofNat).map iv) hp ∧ (∀ j ∈ dom hp, j ∉ dom h) ∧ h' = hp ++ h) := by
  refine c_impl_firstChoice_of0 rfl noPure fun I => ?_
  refine Run2.of I 1000 ?_
  simp -implicitDefEqProofs
  obtain ⟨N, hN⟩ : ∃ N : Nat, n.toNat = N := ⟨_, rfl⟩
  rw [hN]
  refine Run2.loopE (α := Nat × AV × Heap) (fun s => [(3, s.2.1), (5, .int .i64 n), (6, .int .i64 (s.1 : Nat))]) (fun s => s.2.2 ++ h) (fun s => N - s.1) (fun s => s.1 ≤ N ∧ Grow 1 s.2.1 (((List.range s.1).map Int.ofNat).map iv) s.2.2 ∧ (∀ j ∈ dom s.2.2, j ∉ dom h)) (0, .nilsl, []) (by simp) rfl ⟨Nat.zero_le _, by simpa using Grow.nil, by simp [dom]⟩ ?_
  rintro ⟨i, w, hp⟩ ⟨hi, hg, hd⟩ ih
  simp only at hi hg hd ih ⊢
  by_cases hlt : i < N
  · have hlt' : (i : Int) < n := by omega
    have go := fun w' hp' a b => ih (i + 1, w', hp') ⟨by simp; omega, a, b⟩ (by simp; omega)
    clear ih
    refine Run2.of I 1000 ?_
    simp -implicitDefEqProofs [hlt']
    refine Grow.app_mid (pre := []) (post := h) hg (fun j hj => by simp [dom]) (by simp; omega) (by simp) fun w' hp' hg' hf => ?_
    simp -implicitDefEqProofs
    refine ⟨by omega, ?_⟩
    have := go w' hp' (by simpa [List.range_succ] using hg') (by simpa using hf)
    simpa using this
  · obtain rfl : i = N := by omega
    have hlt' : ¬ (i : Int) < n := by omega
    refine Run2.of I 1000 ?_
    simp -implicitDefEqProofs [hlt']
    exact ⟨by simpa using hg, hd⟩
abbrev c_impl_forestOf_o0 : List AJ := [.o ⟨(some 1), none, false, .box false 3 (.t 0), none⟩, .o ⟨(some 2), none, false, .mv (.c .nilsl), (some [1])⟩]
def c_impl_forestOf_0 : ACode := .region c_impl_forestOf_o0
abbrev c_impl_forestOf_o1 : List AJ := [.o ⟨(some 10), none, false, .fieldA 0 (.t 1), none⟩, .o ⟨(some 11), none, false, .load 1 false (.t 10), none⟩, .o ⟨(some 12), none, false, .call 78 [(.t 11)], none⟩, .o ⟨(some 3), none, false, .mv (.t 12), (some [1, 3])⟩]
def c_impl_forestOf_1 : ACode := .region c_impl_forestOf_o1
abbrev c_impl_forestOf_o2 : List AJ := [.o ⟨(some 4), none, false, .mv (.c .nilsl), (some [1, 3, 4])⟩]
def c_impl_forestOf_2 : ACode := .region c_impl_forestOf_o2
abbrev c_impl_forestOf_o3 : List AJ := [.o ⟨(some 13), none, false, .fieldA 2 (.t 1), none⟩, .o ⟨(some 14), none, false, .load 1 false (.t 13), none⟩, .o ⟨(some 15), none, false, .len (.t 14), none⟩, .o ⟨(some 16), none, false, .mv (.c (.int .i64 0)), (some [3, 4, 14, 15, 16])⟩]
def c_impl_forestOf_3 : ACode := .region c_impl_forestOf_o3
abbrev c_impl_forestOf_o4 : List AJ := [.o ⟨(some 17), none, false, .bin .lss (.t 16) (.t 15), (some [3, 4, 14, 15, 16, 17])⟩]
def c_impl_forestOf_4 : ACode := .region c_impl_forestOf_o4
def c_impl_forestOf_5 : ACode := .cond (.t 17) .skip (.exit 0)
abbrev c_impl_forestOf_o5 : List AJ := [.o ⟨(some 18), none, false, .mv (.t 16), none⟩, .o ⟨(some 19), none, false, .idxA 3 (.t 14) (.t 16), none⟩, .o ⟨(some 20), none, false, .load 3 true (.t 19), none⟩, .v 6 3 (.agg [(.int .i64 0), (.int .i64 0), (.int .i64 0)]) [(5, (.t 18))] (.t 20) (some [3, 4, 5, 6, 14, 15, 16])]
def c_impl_forestOf_6 : ACode := .region c_impl_forestOf_o5
abbrev c_impl_forestOf_o6 : List AI := [⟨(some 21), none, false, .mv (.t 3), none⟩, ⟨(some 22), none, false, .fieldA 0 (.t 6), none⟩, ⟨(some 23), none, false, .load 1 false (.t 22), none⟩, ⟨(some 24), none, false, .idxA 1 (.t 21) (.t 23), none⟩, ⟨(some 25), none, false, .load 1 false (.t 24), none⟩, ⟨(some 26), none, false, .mv (.t 3), none⟩, ⟨(some 27), none, false, .fieldA 1 (.t 6), none⟩, ⟨(some 28), none, false, .load 1 false (.t 27), none⟩, ⟨(some 29), none, false, .idxA 1 (.t 26) (.t 28), none⟩, ⟨(some 30), none, false, .load 1 false (.t 29), none⟩, ⟨(some 7), none, false, .mv (.t 25), none⟩, ⟨(some 8), none, false, .mv (.t 30), (some [3, 4, 5, 7, 8, 14, 15, 16])⟩]
def c_impl_forestOf_7 : ACode := .draw c_impl_forestOf_o6 [] rfl
abbrev c_impl_forestOf_o7 : List AJ := [.o ⟨(some 31), none, false, .mv (.t 7), none⟩, .o ⟨(some 32), none, false, .mv (.t 8), none⟩, .o ⟨(some 33), none, false, .bin .eql (.t 31) (.t 32), (some [3, 4, 5, 7, 8, 14, 15, 16, 33])⟩]
def c_impl_forestOf_8 : ACode := .region c_impl_forestOf_o7
def c_impl_forestOf_9 : ACode := .cond (.t 33) (.exit 1) .skip
def c_impl_forestOf_10 : ACode := .seq c_impl_forestOf_8 c_impl_forestOf_9
abbrev c_impl_forestOf_o8 : List AJ := [.o ⟨(some 34), none, false, .mv (.t 4), none⟩, .o ⟨(some 35), none, false, .mv (.t 5), none⟩, .o ⟨(some 36), none, false, .bsl false 1 [(.t 35)], none⟩, .o ⟨(some 37), none, false, .append 1 8 (.t 34) (.t 36), none⟩, .o ⟨(some 4), none, false, .mv (.t 37), (some [3, 4, 7, 8, 14, 15, 16])⟩]
def c_impl_forestOf_11 : ACode := .region c_impl_forestOf_o8
abbrev c_impl_forestOf_o9 : List AJ := [.o ⟨(some 38), none, false, .mv (.t 3), none⟩, .o ⟨(some 39), none, false, .len (.t 38), none⟩, .o ⟨(some 40), none, false, .mv (.c (.int .i64 0)), (some [3, 4, 7, 8, 14, 15, 16, 39, 40])⟩]
def c_impl_forestOf_12 : ACode := .region c_impl_forestOf_o9
abbrev c_impl_forestOf_o10 : List AJ := [.o ⟨(some 41), none, false, .bin .lss (.t 40) (.t 39), (some [3, 4, 7, 8, 14, 15, 16, 39, 40, 41])⟩]
def c_impl_forestOf_13 : ACode := .region c_impl_forestOf_o10
def c_impl_forestOf_14 : ACode := .cond (.t 41) .skip (.exit 2)
abbrev c_impl_forestOf_o11 : List AJ := [.o ⟨(some 42), none, false, .mv (.t 40), none⟩, .o ⟨(some 9), none, false, .mv (.t 42), (some [3, 4, 7, 8, 9, 14, 15, 16, 39, 40])⟩]
def c_impl_forestOf_15 : ACode := .region c_impl_forestOf_o11
abbrev c_impl_forestOf_o12 : List AJ := [.o ⟨(some 43), none, false, .mv (.t 3), none⟩, .o ⟨(some 44), none, false, .mv (.t 9), none⟩, .o ⟨(some 45), none, false, .idxA 1 (.t 43) (.t 44), none⟩, .o ⟨(some 46), none, false, .load 1 false (.t 45), none⟩, .o ⟨(some 47), none, false, .mv (.t 8), none⟩, .o ⟨(some 48), none, false, .bin .eql (.t 46) (.t 47), (some [3, 4, 7, 8, 9, 14, 15, 16, 39, 40, 48])⟩]
def c_impl_forestOf_16 : ACode := .region c_impl_forestOf_o12
abbrev c_impl_forestOf_o13 : List AJ := [.o ⟨(some 49), none, false, .mv (.t 3), none⟩, .o ⟨(some 50), none, false, .mv (.t 9), none⟩, .o ⟨(some 51), none, false, .mv (.t 7), none⟩, .o ⟨(some 52), none, false, .idxA 1 (.t 49) (.t 50), none⟩, .o ⟨none, none, false, .store 1 (.t 52) (.t 51), (some [3, 4, 7, 8, 14, 15, 16, 39, 40])⟩]
def c_impl_forestOf_17 : ACode := .region c_impl_forestOf_o13
def c_impl_forestOf_18 : ACode := .cond (.t 48) c_impl_forestOf_17 .skip
def c_impl_forestOf_19 : ACode := .seq c_impl_forestOf_16 c_impl_forestOf_18
def c_impl_forestOf_20 : ACode := .seq c_impl_forestOf_15 c_impl_forestOf_19
def c_impl_forestOf_21 : ACode := .block 3 c_impl_forestOf_20
abbrev c_impl_forestOf_o14 : List AJ := [.o ⟨(some 53), none, true, .bin .add (.t 40) (.c (.int .i64 1)), none⟩, .o ⟨(some 40), none, false, .mv (.t 53), (some [3, 4, 7, 8, 14, 15, 16, 39, 40])⟩]
def c_impl_forestOf_22 : ACode := .region c_impl_forestOf_o14
def c_impl_forestOf_23 : ACode := .seq c_impl_forestOf_21 c_impl_forestOf_22
def c_impl_forestOf_24 : ACode := .seq c_impl_forestOf_14 c_impl_forestOf_23
def c_impl_forestOf_25 : ACode := .seq c_impl_forestOf_13 c_impl_forestOf_24
def c_impl_forestOf_26 : ACode := .loop c_impl_forestOf_25
def c_impl_forestOf_27 : ACode := .block 2 c_impl_forestOf_26
def c_impl_forestOf_28 : ACode := .seq c_impl_forestOf_12 c_impl_forestOf_27
def c_impl_forestOf_29 : ACode := .seq c_impl_forestOf_11 c_impl_forestOf_28
def c_impl_forestOf_30 : ACode := .seq c_impl_forestOf_10 c_impl_forestOf_29
def c_impl_forestOf_31 : ACode := .seq c_impl_forestOf_7 c_impl_forestOf_30
def c_impl_forestOf_32 : ACode := .seq c_impl_forestOf_6 c_impl_forestOf_31
def c_impl_forestOf_33 : ACode := .block 1 c_impl_forestOf_32
abbrev c_impl_forestOf_o15 : List AJ := [.o ⟨(some 54), none, true, .bin .add (.t 16) (.c (.int .i64 1)), none⟩, .o ⟨(some 16), none, false, .mv (.t 54), (some [3, 4, 14, 15, 16])⟩]
def c_impl_forestOf_34 : ACode := .region c_impl_forestOf_o15
def c_impl_forestOf_35 : ACode := .seq c_impl_forestOf_33 c_impl_forestOf_34
def c_impl_forestOf_36 : ACode := .seq c_impl_forestOf_5 c_impl_forestOf_35
def c_impl_forestOf_37 : ACode := .seq c_impl_forestOf_4 c_impl_forestOf_36
def c_impl_forestOf_38 : ACode := .loop c_impl_forestOf_37
def c_impl_forestOf_39 : ACode := .block 0 c_impl_forestOf_38
def c_impl_forestOf_40 : ACode := .seq c_impl_forestOf_3 c_impl_forestOf_39
abbrev c_impl_forestOf_o16 : List AJ := [.o ⟨(some 55), none, false, .mv (.t 4), none⟩, .o ⟨(some 2), none, false, .mv (.t 55), (some [2])⟩]
def c_impl_forestOf_41 : ACode := .region c_impl_forestOf_o16
def c_impl_forestOf_42 : ACode := .seq c_impl_forestOf_41 .ret
def c_impl_forestOf_43 : ACode := .seq c_impl_forestOf_40 c_impl_forestOf_42
def c_impl_forestOf_44 : ACode := .seq c_impl_forestOf_2 c_impl_forestOf_43
def c_impl_forestOf_45 : ACode := .seq c_impl_forestOf_1 c_impl_forestOf_44
def c_impl_forestOf_46 : ACode := .seq c_impl_forestOf_0 c_impl_forestOf_45
section
variable (C : Cx) (n : Nat) (sk : List AItem) (e : Env) (h : Heap) (R : AV → Heap → Prop)
@[simp, simp ↓] theorem c_impl_forestOf_0_r : vc2 C (n + 1) [] (.code c_impl_forestOf_0 :: sk) e h R = (vc2 C n c_impl_forestOf_o0 sk e h R) := nr rfl
@[simp, simp ↓] theorem c_impl_forestOf_1_r : vc2 C (n + 1) [] (.code c_impl_forestOf_1 :: sk) e h R = (vc2 C n c_impl_forestOf_o1 sk e h R) := nr rfl
@[simp, simp ↓] theorem c_impl_forestOf_2_r : vc2 C (n + 1) [] (.code c_impl_forestOf_2 :: sk) e h R = (vc2 C n c_impl_forestOf_o2 sk e h R) := nr rfl
@[simp, simp ↓] theorem c_impl_forestOf_3_r : vc2 C (n + 1) [] (.code c_impl_forestOf_3 :: sk) e h R = (vc2 C n c_impl_forestOf_o3 sk e h R) := nr rfl
@[simp, simp ↓] theorem c_impl_forestOf_4_r : vc2 C (n + 1) [] (.code c_impl_forestOf_4 :: sk) e h R = (vc2 C n c_impl_forestOf_o4 sk e h R) := nr rfl
@[simp, simp ↓] theorem c_impl_forestOf_5_r : vc2 C (n + 1) [] (.code c_impl_forestOf_5 :: sk) e h R = (condK (ev e (.t 17)) (vc2 C n [] (.code .skip :: sk) e h R) (vc2 C n [] (.code (.exit 0) :: sk) e h R)) := nr rfl
@[simp, simp ↓] theorem c_impl_forestOf_6_r : vc2 C (n + 1) [] (.code c_impl_forestOf_6 :: sk) e h R = (vc2 C n c_impl_forestOf_o5 sk e h R) := nr rfl
@[simp, simp ↓] theorem c_impl_forestOf_7_r : vc2 C (n + 1) [] (.code c_impl_forestOf_7 :: sk) e h R = (draw2 C h (vK C n [] sk R h) c_impl_forestOf_o6 e) := nr rfl
@[simp, simp ↓] theorem c_impl_forestOf_8_r : vc2 C (n + 1) [] (.code c_impl_forestOf_8 :: sk) e h R = (vc2 C n c_impl_forestOf_o7 sk e h R) := nr rfl
@[simp, simp ↓] theorem c_impl_forestOf_9_r : vc2 C (n + 1) [] (.code c_impl_forestOf_9 :: sk) e h R = (condK (ev e (.t 33)) (vc2 C n [] (.code (.exit 1) :: sk) e h R) (vc2 C n [] (.code .skip :: sk) e h R)) := nr rfl
@[simp, simp ↓] theorem c_impl_forestOf_10_r : vc2 C (n + 1) [] (.code c_impl_forestOf_10 :: sk) e h R = (vc2 C n [] (.code c_impl_forestOf_8 :: .code c_impl_forestOf_9 :: sk) e h R) := nr rfl
@[simp, simp ↓] theorem c_impl_forestOf_11_r : vc2 C (n + 1) [] (.code c_impl_forestOf_11 :: sk) e h R = (vc2 C n c_impl_forestOf_o8 sk e h R) := nr rfl
@[simp, simp ↓] theorem c_impl_forestOf_12_r : vc2 C (n + 1) [] (.code c_impl_forestOf_12 :: sk) e h R = (vc2 C n c_impl_forestOf_o9 sk e h R) := nr rfl
@[simp, simp ↓] theorem c_impl_forestOf_13_r : vc2 C (n + 1) [] (.code c_impl_forestOf_13 :: sk) e h R = (vc2 C n c_impl_forestOf_o10 sk e h R) := nr rfl
@[simp, simp ↓] theorem c_impl_forestOf_14_r : vc2 C (n + 1) [] (.code c_impl_forestOf_14 :: sk) e h R = (condK (ev e (.t 41)) (vc2 C n [] (.code .skip :: sk) e h R) (vc2 C n [] (.code (.exit 2) :: sk) e h R)) := nr rfl
@[simp, simp ↓] theorem c_impl_forestOf_15_r : vc2 C (n + 1) [] (.code c_impl_forestOf_15 :: sk) e h R = (vc2 C n c_impl_forestOf_o11 sk e h R) := nr rfl
@[simp, simp ↓] theorem c_impl_forestOf_16_r : vc2 C (n + 1) [] (.code c_impl_forestOf_16 :: sk) e h R = (vc2 C n c_impl_forestOf_o12 sk e h R) := nr rfl
@[simp, simp ↓] theorem c_impl_forestOf_17_r : vc2 C (n + 1) [] (.code c_impl_forestOf_17 :: sk) e h R = (vc2 C n c_impl_forestOf_o13 sk e h R) := nr rfl
@[simp, simp ↓] theorem c_impl_forestOf_18_r : vc2 C (n + 1) [] (.code c_impl_forestOf_18 :: sk) e h R = (condK (ev e (.t 48)) (vc2 C n [] (.code c_impl_forestOf_17 :: sk) e h R) (vc2 C n [] (.code .skip :: sk) e h R)) := nr rfl
@[simp, simp ↓] theorem c_impl_forestOf_19_r : vc2 C (n + 1) [] (.code c_impl_forestOf_19 :: sk) e h R = (vc2 C n [] (.code c_impl_forestOf_16 :: .code c_impl_forestOf_18 :: sk) e h R) := nr rfl
@[simp, simp ↓] theorem c_impl_forestOf_20_r : vc2 C (n + 1) [] (.code c_impl_forestOf_20 :: sk) e h R = (vc2 C n [] (.code c_impl_forestOf_15 :: .code c_impl_forestOf_19 :: sk) e h R) := nr rfl
@[simp, simp ↓] theorem c_impl_forestOf_21_r : vc2 C (n + 1) [] (.code c_impl_forestOf_21 :: sk) e h R = (vc2 C n [] (.code c_impl_forestOf_20 :: .inBlock 3 :: sk) e h R) := nr rfl
@[simp, simp ↓] theorem c_impl_forestOf_22_r : vc2 C (n + 1) [] (.code c_impl_forestOf_22 :: sk) e h R = (vc2 C n c_impl_forestOf_o14 sk e h R) := nr rfl
@[simp, simp ↓] theorem c_impl_forestOf_23_r : vc2 C (n + 1) [] (.code c_impl_forestOf_23 :: sk) e h R = (vc2 C n [] (.code c_impl_forestOf_21 :: .code c_impl_forestOf_22 :: sk) e h R) := nr rfl
@[simp, simp ↓] theorem c_impl_forestOf_24_r : vc2 C (n + 1) [] (.code c_impl_forestOf_24 :: sk) e h R = (vc2 C n [] (.code c_impl_forestOf_14 :: .code c_impl_forestOf_23 :: sk) e h R) := nr rfl
@[simp, simp ↓] theorem c_impl_forestOf_25_r : vc2 C (n + 1) [] (.code c_impl_forestOf_25 :: sk) e h R = (vc2 C n [] (.code c_impl_forestOf_13 :: .code c_impl_forestOf_24 :: sk) e h R) := nr rfl
@[simp, simp ↓] theorem c_impl_forestOf_26_r : vc2 C (n + 1) [] (.code c_impl_forestOf_26 :: sk) e h R = (Run2 C (.code c_impl_forestOf_25 :: .inLoop c_impl_forestOf_25 :: sk) e h R) := nr rfl
@[simp, simp ↓] theorem c_impl_forestOf_27_r : vc2 C (n + 1) [] (.code c_impl_forestOf_27 :: sk) e h R = (vc2 C n [] (.code c_impl_forestOf_26 :: .inBlock 2 :: sk) e h R) := nr rfl
@[simp, simp ↓] theorem c_impl_forestOf_28_r : vc2 C (n + 1) [] (.code c_impl_forestOf_28 :: sk) e h R = (vc2 C n [] (.code c_impl_forestOf_12 :: .code c_impl_forestOf_27 :: sk) e h R) := nr rfl
@[simp, simp ↓] theorem c_impl_forestOf_29_r : vc2 C (n + 1) [] (.code c_impl_forestOf_29 :: sk) e h R = (vc2 C n [] (.code c_impl_forestOf_11 :: .code c_impl_forestOf_28 :: sk) e h R) := nr rfl
@[simp, simp ↓] theorem c_impl_forestOf_30_r : vc2 C (n + 1) [] (.code c_impl_forestOf_30 :: sk) e h R = (vc2 C n [] (.code c_impl_forestOf_10 :: .code c_impl_forestOf_29 :: sk) e h R) := nr rfl
@[simp, simp ↓] theorem c_impl_forestOf_31_r : vc2 C (n + 1) [] (.code c_impl_forestOf_31 :: sk) e h R = (vc2 C n [] (.code c_impl_forestOf_7 :: .code c_impl_forestOf_30 :: sk) e h R) := nr rfl
@[simp, simp ↓] theorem c_impl_forestOf_32_r : vc2 C (n + 1) [] (.code c_impl_forestOf_32 :: sk) e h R = (vc2 C n [] (.code c_impl_forestOf_6 :: .code c_impl_forestOf_31 :: sk) e h R) := nr rfl
@[simp, simp ↓] theorem c_impl_forestOf_33_r : vc2 C (n + 1) [] (.code c_impl_forestOf_33 :: sk) e h R = (vc2 C n [] (.code c_impl_forestOf_32 :: .inBlock 1 :: sk) e h R) := nr rfl
@[simp, simp ↓] theorem c_impl_forestOf_34_r : vc2 C (n + 1) [] (.code c_impl_forestOf_34 :: sk) e h R = (vc2 C n c_impl_forestOf_o15 sk e h R) := nr rfl
@[simp, simp ↓] theorem c_impl_forestOf_35_r : vc2 C (n + 1) [] (.code c_impl_forestOf_35 :: sk) e h R = (vc2 C n [] (.code c_impl_forestOf_33 :: .code c_impl_forestOf_34 :: sk) e h R) := nr rfl
@[simp, simp ↓] theorem c_impl_forestOf_36_r : vc2 C (n + 1) [] (.code c_impl_forestOf_36 :: sk) e h R = (vc2 C n [] (.code c_impl_forestOf_5 :: .code c_impl_forestOf_35 :: sk) e h R) := nr rfl
@[simp, simp ↓] theorem c_impl_forestOf_37_r : vc2 C (n + 1) [] (.code c_impl_forestOf_37 :: sk) e h R = (vc2 C n [] (.code c_impl_forestOf_4 :: .code c_impl_forestOf_36 :: sk) e h R) := nr rfl
@[simp, simp ↓] theorem c_impl_forestOf_38_r : vc2 C (n + 1) [] (.code c_impl_forestOf_38 :: sk) e h R = (Run2 C (.code c_impl_forestOf_37 :: .inLoop c_impl_forestOf_37 :: sk) e h R) := nr rfl
@[simp, simp ↓] theorem c_impl_forestOf_39_r : vc2 C (n + 1) [] (.code c_impl_forestOf_39 :: sk) e h R = (vc2 C n [] (.code c_impl_forestOf_38 :: .inBlock 0 :: sk) e h R) := nr rfl
@[simp, simp ↓] theorem c_impl_forestOf_40_r : vc2 C (n + 1) [] (.code c_impl_forestOf_40 :: sk) e h R = (vc2 C n [] (.code c_impl_forestOf_3 :: .code c_impl_forestOf_39 :: sk) e h R) := nr rfl
@[simp, simp ↓] theorem c_impl_forestOf_41_r : vc2 C (n + 1) [] (.code c_impl_forestOf_41 :: sk) e h R = (vc2 C n c_impl_forestOf_o16 sk e h R) := nr rfl
@[simp, simp ↓] theorem c_impl_forestOf_42_r : vc2 C (n + 1) [] (.code c_impl_forestOf_42 :: sk) e h R = (vc2 C n [] (.code c_impl_forestOf_41 :: .code .ret :: sk) e h R) := nr rfl
@[simp, simp ↓] theorem c_impl_forestOf_43_r : vc2 C (n + 1) [] (.code c_impl_forestOf_43 :: sk) e h R = (vc2 C n [] (.code c_impl_forestOf_40 :: .code c_impl_forestOf_42 :: sk) e h R) := nr rfl
@[simp, simp ↓] theorem c_impl_forestOf_44_r : vc2 C (n + 1) [] (.code c_impl_forestOf_44 :: sk) e h R = (vc2 C n [] (.code c_impl_forestOf_2 :: .code c_impl_forestOf_43 :: sk) e h R) := nr rfl
@[simp, simp ↓] theorem c_impl_forestOf_45_r : vc2 C (n + 1) [] (.code c_impl_forestOf_45 :: sk) e h R = (vc2 C n [] (.code c_impl_forestOf_1 :: .code c_impl_forestOf_44 :: sk) e h R) := nr rfl
@[simp, simp ↓] theorem c_impl_forestOf_46_r : vc2 C (n + 1) [] (.code c_impl_forestOf_46 :: sk) e h R = (vc2 C n [] (.code c_impl_forestOf_0 :: .code c_impl_forestOf_45 :: sk) e h R) := nr rfl
end
noncomputable def c_impl_forestOf_C (orc : Orc) : Cx := ⟨Try.prog, [6], 68, 56, [.tmp 2], orc⟩
@[simp] theorem c_impl_forestOf_C_P (orc : Orc) : (c_impl_forestOf_C orc).P = Try.prog := nr rfl
@[simp] theorem c_impl_forestOf_C_o (orc : Orc) : (c_impl_forestOf_C orc).orc = orc := nr rfl
@[simp] theorem c_impl_forestOf_C_r (orc : Orc) : (c_impl_forestOf_C orc).res = [.tmp 2] := nr rfl
theorem c_impl_forestOf_of {args : List AV} {h : Heap} {R : AV → Heap → Prop} {k : Nat} (ha : args.length = k) {orc : Orc} (hp : Pure Try.prog orc) (hk : Is (c_impl_forestOf_C orc) Try.f68 → Run2 (c_impl_forestOf_C orc) [.code c_impl_forestOf_46] (argEnv 0 args) h (Post R)) (hle : k ≤ 56 := by simp) : ACalls Try.prog 68 args h R :=
  contract2 [6] c_impl_forestOf_46 [.tmp 2] Try.func68 (by decide +kernel) rfl (by kernel_rfl) (by rw [ha]; exact hle) (by kernel_rfl) hp hk
theorem c_impl_forestOf_of0 {args : List AV} {h : Heap} {R : AV → Heap → Prop} {k : Nat} (ha : args.length = k) {orc : Orc} (hp : Pure Try.prog orc) (hk : Is (c_impl_forestOf_C orc) Try.f68 → Run2 (c_impl_forestOf_C orc) [.code c_impl_forestOf_46] (argEnv 0 args) h R) (hle : k ≤ 56 := by simp) : ACalls Try.prog 68 args h R :=
  contract20 [6] c_impl_forestOf_46 [.tmp 2] Try.func68 (by decide +kernel) rfl (by kernel_rfl) (by rw [ha]; exact hle) (by kernel_rfl) hp hk
noncomputable abbrev FiC : Cx := c_impl_forestOf_C (lk orcF)
theorem forI_inner (I : Is FiC Try.f68) {h : Heap} {R : AV → Heap → Prop} {sk : List AItem} {L : AV} {P P' : List Int} {a b M : Int} {i : Nat} {u : AV} {ga : Heap} {idp : Nat} {N : Nat} (hp : idp ∉ dom ga)
    (l1 : P.length = N) (l3 : P'.length = N) (hP : ∀ (v : Nat) (h1 : v < P.length) (h2 : v < P'.length), P'[v] = if P[v] = b then a else P[v]) (hN : N ≤ 12)
    (go : vc2 FiC 994 [] sk [(3, .sl idp 1 0 N none), (4, u), (7, .int .i64 a), (8, .int .i64 b), (14, L), (15, .int .i64 M), (16, .int .i64 (i : Nat)), (39, .int .i64 (N : Nat)), (40, .int .i64 (N : Nat)), (41, .bool false)] (ga ++ ((idp, ⟨1, P'.map iv⟩) :: h)) R) :
    Run2 FiC (.code c_impl_forestOf_25 :: .inLoop c_impl_forestOf_25 :: .inBlock 2 :: sk) [(3, .sl idp 1 0 N none), (4, u), (7, .int .i64 a), (8, .int .i64 b), (14, L), (15, .int .i64 M), (16, .int .i64 (i : Nat)), (39, .int .i64 (N : Nat)), (40, .int .i64 0)] (ga ++ ((idp, ⟨1, P.map iv⟩) :: h)) R := by
  rw [show P.map iv = inpl (P.map iv) (P'.map iv) 0 by simp]
  refine Run2.loopE (fun v => [(3, .sl idp 1 0 N none), (4, u), (7, .int .i64 a), (8, .int .i64 b), (14, L), (15, .int .i64 M), (16, .int .i64 (i : Nat)), (39, .int .i64 (N : Nat)), (40, .int .i64 (v : Nat))])
    (fun v => ga ++ ((idp, ⟨1, inpl (P.map iv) (P'.map iv) v⟩) :: h)) (fun v => N - v) (fun v => v ≤ N) 0 (by simp) rfl (Nat.zero_le _) fun v hv ih => ?_
  have n2 := inpl_len (l := P.map iv) (l' := P'.map iv) (v := v) (by simp; omega)
  by_cases hlt : v < N
  · have go1 := ih (v + 1) (by omega) (by omega)
    clear ih
    have g2 := inpl_get (l := P.map iv) (l' := P'.map iv) (v := v) (by simp; omega) (by simp; omega) (by rw [n2]; simp; omega)
    have s2 := inpl_set (l := P.map iv) (l' := P'.map iv) (v := v) (by simp; omega) (by simp; omega)
    have k2 := inpl_keep (l := P.map iv) (l' := P'.map iv) (v := v) (by simp; omega) (by simp; omega)
    simp only [List.getElem_map] at g2 s2 k2
    have hP := hP v (by omega) (by omega)
    rw [hP] at s2 k2
    generalize hY : inpl (P.map iv) (P'.map iv) = Y at *
    have m2 : v < (Y v).length := by rw [n2]; simp; omega
    refine Run2.of I 1000 ?_
    simp -implicitDefEqProofs [hlt, hget_app hp, hset_app hp, m2, g2]
    refine ⟨fun h1 => ⟨by omega, ?_⟩, fun h1 => ⟨by omega, ?_⟩⟩
    · simp only [iv, if_pos h1] at s2
      rw [s2]
      simpa using go1
    · simp only [iv, if_neg h1, forall_const] at k2
      rw [k2]
      simpa using go1
  · obtain rfl : v = N := by omega
    have e2 : inpl (P.map iv) (P'.map iv) v = P'.map iv := by have := inpl_end (l := P.map iv) (l' := P'.map iv) (by simp; omega); simpa [l1] using this
    refine Run2.of I 1000 ?_
    simp -implicitDefEqProofs
    rw [e2]
    exact go
theorem forestOf_w (x : Ph) (h : Heap) (hv : x.valid) : ACalls Try.prog 68 [x.av] h (fun v h' => ∃ hp, Grow 1 v (x.forest.map iv) hp ∧ (∀ j ∈ dom hp, j ∉ dom h) ∧ h' = hp ++ h) := by
  have hn1 := hv.1
  have hn2 := hv.2.1
  have hm1 := hv.2.2.1
  have hl2 := hv.2.2.2.2.2
  refine c_impl_forestOf_of rfl orcF_p fun I => ?_
  refine Run2.of I 1000 ?_
  simp -implicitDefEqProofs
  have fo := fstate_ok (x := x) hm1
  have fl := fstate_len x
  have f0 : fstate x 0 = ((List.range x.n.toNat).map Int.ofNat, List.replicate x.n.toNat 0, []) := rfl
  refine (firstChoice_w x.n _ (by omega)).mono ?_
  rintro wp h' ⟨gp, hgp, hd1, rfl⟩
  obtain ⟨N, hN⟩ : ∃ N : Nat, x.n.toNat = N := ⟨_, rfl⟩
  have hNx : x.n = (N : Int) := by omega
  have foP := fun i => (fo i).p
  have foF := fun i => (fo i).f
  simp only [hN] at foP foF f0 hgp
  have hN12 : N ≤ 12 := by omega
  generalize hLp : ((List.range N).map Int.ofNat).map iv = Lp at hgp
  cases hgp with
  | nil => have := congrArg List.length hLp; simp at this; omega
  | emp => have := congrArg List.length hLp; simp at this; omega
  | sl idp _ np hnp =>
  obtain rfl : N = np := by rw [hnp, ← hLp]; simp
  subst hLp
  have hph : idp ∉ dom h := hd1 idp (by simp [dom])
  clear hd1 hnp
  refine gK.go ?_
  simp -implicitDefEqProofs
  refine Run2.loopE (α := Nat × AV × Heap) (fun s => [(3, .sl idp 1 0 N none), (4, s.2.1), (14, .snap 3 (x.ts.map T.av)), (15, .int .i64 x.ts.length), (16, .int .i64 (s.1 : Nat))])
    (fun s => s.2.2 ++ ((idp, ⟨1, (fstate x s.1).1.map iv⟩) :: h)) (fun s => x.ts.length - s.1) (fun s => s.1 ≤ x.ts.length ∧ Grow 1 s.2.1 ((fstate x s.1).2.2.map iv) s.2.2 ∧ idp ∉ dom s.2.2 ∧ (∀ j ∈ dom s.2.2, j ∉ dom h)) (0, .nilsl, []) (by simp) (by simp [f0]) ⟨Nat.zero_le _, by simpa [f0] using Grow.nil, by simp [dom], by simp [dom]⟩ ?_
  rintro ⟨i, u, ga⟩ ⟨hi2, hg, hpa, hda⟩ ih
  simp only at hi2 hg hpa hda ih ⊢
  have foP := foP i
  have foF := foF i
  have fl := fl i
  by_cases hlt2 : i < x.ts.length
  · have go := fun w' ga' a b c => ih (i + 1, w', ga') ⟨by simp; omega, a, b, c⟩ (by simp; omega)
    clear ih
    have hst : fstate x (i + 1) = fstep x i (fstate x i) := rfl
    generalize hS : fstate x i = S at *
    obtain ⟨P, F, out⟩ := S
    simp only at foP foF hg fl
    obtain ⟨e1, e2, e3, e4, e5⟩ := Ph.edge hv hlt2
    have ef : x.ts[i].f.toNat < P.length := by omega
    have et : x.ts[i].t.toNat < P.length := by omega
    have ef' : x.ts[i].f.toNat < F.length := by omega
    have et' : x.ts[i].t.toNat < F.length := by omega
    have e6 : 0 ≤ x.ts[i].t := by omega
    have evf : x.ts[i].f.toNat < N := by omega
    have evt : x.ts[i].t.toNat < N := by omega
    have hs2 : fstep x i (P, F, out) = if P[x.ts[i].f.toNat] = P[x.ts[i].t.toNat] then (P, F, out) else
        (P.map fun c => if c = P[x.ts[i].t.toNat] then P[x.ts[i].f.toNat] else c, List.zipWith (fun c q => if c = P[x.ts[i].t.toNat] then (q + (F[x.ts[i].f.toNat] + x.ts[i].s - F[x.ts[i].t.toNat]) % x.m) % x.m else q) P F, out ++ [(i : Int)]) := by
      unfold fstep
      simp [hlt2, ef, et, ef', et']
    by_cases hab : P[x.ts[i].f.toNat] = P[x.ts[i].t.toNat]
    · rw [if_pos hab] at hs2
      refine Run2.of I 1000 ?_
      simp -implicitDefEqProofs [hlt2, hget_app hpa, e1, e6, ef, et, evf, evt, hab]
      refine ⟨by omega, ?_⟩
      have := go u ga (by simp only [hst, hs2]; exact hg) hpa hda
      simp only [hst, hs2] at this
      simpa using this
    · rw [if_neg hab] at hs2
      refine Run2.of I 1000 ?_
      simp -implicitDefEqProofs [hlt2, hget_app hpa, e1, e6, ef, et, evf, evt, hab]
      refine Grow.app_mid (pre := []) hg (fun j hj => by simp [dom]) (by simp; omega) (by simp) fun w' ga' hg' hf => ?_
      have hpb : idp ∉ dom ga' := fun h => hf idp h (by simp [dom])
      simp -implicitDefEqProofs [hget_app hpb, e1, e6, evf, evt]
      have go := go w' ga' (by simp only [hst, hs2]; simpa using hg') hpb (fun j hj hj2 => hf j hj (by simp [dom] at hj2 ⊢; exact .inr hj2))
      simp only [hst, hs2] at go
      refine forI_inner (P' := P.map fun c => if c = P[x.ts[i].t.toNat] then P[x.ts[i].f.toNat] else c) I hpb foP (by simp [foP]) (fun v h1 h2 => by simp) hN12 ?_
      simp -implicitDefEqProofs
      refine ⟨by omega, ?_⟩
      simpa using go
  · obtain rfl : i = x.ts.length := by omega
    clear ih
    refine Run2.of I 1000 ?_
    simp -implicitDefEqProofs
    refine .drop idp (.base ?_)
    rw [hdel_app hpa]
    simp [hdel]
    exact ⟨hg, hda⟩
abbrev c_impl_ForestOf_o0 : List AJ := [.o ⟨(some 1), none, false, .box false 3 (.t 0), none⟩, .o ⟨(some 2), none, false, .mv (.c .nilsl), none⟩, .o ⟨(some 3), none, false, .mv (.c (.int .i64 0)), (some [1])⟩]
def c_impl_ForestOf_0 : ACode := .region c_impl_ForestOf_o0
abbrev c_impl_ForestOf_o1 : List AJ := [.o ⟨(some 4), none, false, .load 3 true (.t 1), none⟩, .o ⟨(some 5), none, false, .call 20 [(.t 4)], none⟩, .o ⟨(some 6), none, false, .un .not (.t 5), (some [1, 6])⟩]
def c_impl_ForestOf_1 : ACode := .region c_impl_ForestOf_o1
abbrev c_impl_ForestOf_o2 : List AJ := [.o ⟨(some 2), none, false, .mv (.c .nilsl), none⟩, .o ⟨(some 3), none, false, .mv (.c (.int .i64 1)), (some [2, 3])⟩]
def c_impl_ForestOf_2 : ACode := .region c_impl_ForestOf_o2
def c_impl_ForestOf_3 : ACode := .seq c_impl_ForestOf_2 .ret
def c_impl_ForestOf_4 : ACode := .cond (.t 6) c_impl_ForestOf_3 .skip
def c_impl_ForestOf_5 : ACode := .seq c_impl_ForestOf_1 c_impl_ForestOf_4
abbrev c_impl_ForestOf_o3 : List AJ := [.o ⟨(some 7), none, false, .load 3 true (.t 1), none⟩, .o ⟨(some 8), none, false, .call 68 [(.t 7)], none⟩, .o ⟨(some 2), none, false, .mv (.t 8), none⟩, .o ⟨(some 3), none, false, .mv (.c (.int .i64 0)), (some [2, 3])⟩]
def c_impl_ForestOf_6 : ACode := .region c_impl_ForestOf_o3
def c_impl_ForestOf_7 : ACode := .seq c_impl_ForestOf_6 .ret
def c_impl_ForestOf_8 : ACode := .seq c_impl_ForestOf_5 c_impl_ForestOf_7
def c_impl_ForestOf_9 : ACode := .seq c_impl_ForestOf_0 c_impl_ForestOf_8
section
variable (C : Cx) (n : Nat) (sk : List AItem) (e : Env) (h : Heap) (R : AV → Heap → Prop)
@[simp, simp ↓] theorem c_impl_ForestOf_0_r : vc2 C (n + 1) [] (.code c_impl_ForestOf_0 :: sk) e h R = (vc2 C n c_impl_ForestOf_o0 sk e h R) := nr rfl
@[simp, simp ↓] theorem c_impl_ForestOf_1_r : vc2 C (n + 1) [] (.code c_impl_ForestOf_1 :: sk) e h R = (vc2 C n c_impl_ForestOf_o1 sk e h R) := nr rfl
@[simp, simp ↓] theorem c_impl_ForestOf_2_r : vc2 C (n + 1) [] (.code c_impl_ForestOf_2 :: sk) e h R = (vc2 C n c_impl_ForestOf_o2 sk e h R) := nr rfl
@[simp, simp ↓] theorem c_impl_ForestOf_3_r : vc2 C (n + 1) [] (.code c_impl_ForestOf_3 :: sk) e h R = (vc2 C n [] (.code c_impl_ForestOf_2 :: .code .ret :: sk) e h R) := nr rfl
@[simp, simp ↓] theorem c_impl_ForestOf_4_r : vc2 C (n + 1) [] (.code c_impl_ForestOf_4 :: sk) e h R = (condK (ev e (.t 6)) (vc2 C n [] (.code c_impl_ForestOf_3 :: sk) e h R) (vc2 C n [] (.code .skip :: sk) e h R)) := nr rfl
@[simp, simp ↓] theorem c_impl_ForestOf_5_r : vc2 C (n + 1) [] (.code c_impl_ForestOf_5 :: sk) e h R = (vc2 C n [] (.code c_impl_ForestOf_1 :: .code c_impl_ForestOf_4 :: sk) e h R) := nr rfl
@[simp, simp ↓] theorem c_impl_ForestOf_6_r : vc2 C (n + 1) [] (.code c_impl_ForestOf_6 :: sk) e h R = (vc2 C n c_impl_ForestOf_o3 sk e h R) := nr rfl
@[simp, simp ↓] theorem c_impl_ForestOf_7_r : vc2 C (n + 1) [] (.code c_impl_ForestOf_7 :: sk) e h R = (vc2 C n [] (.code c_impl_ForestOf_6 :: .code .ret :: sk) e h R) := nr rfl
@[simp, simp ↓] theorem c_impl_ForestOf_8_r : vc2 C (n + 1) [] (.code c_impl_ForestOf_8 :: sk) e h R = (vc2 C n [] (.code c_impl_ForestOf_5 :: .code c_impl_ForestOf_7 :: sk) e h R) := nr rfl
@[simp, simp ↓] theorem c_impl_ForestOf_9_r : vc2 C (n + 1) [] (.code c_impl_ForestOf_9 :: sk) e h R = (vc2 C n [] (.code c_impl_ForestOf_0 :: .code c_impl_ForestOf_8 :: sk) e h R) := nr rfl
end
noncomputable def c_impl_ForestOf_C (orc : Orc) : Cx := ⟨Try.prog, [], 36, 9, [.tmp 2, .tmp 3], orc⟩
@[simp] theorem c_impl_ForestOf_C_P (orc : Orc) : (c_impl_ForestOf_C orc).P = Try.prog := nr rfl
@[simp] theorem c_impl_ForestOf_C_o (orc : Orc) : (c_impl_ForestOf_C orc).orc = orc := nr rfl
@[simp] theorem c_impl_ForestOf_C_r (orc : Orc) : (c_impl_ForestOf_C orc).res = [.tmp 2, .tmp 3] := nr rfl
theorem c_impl_ForestOf_of {args : List AV} {h : Heap} {R : AV → Heap → Prop} {k : Nat} (ha : args.length = k) {orc : Orc} (hp : Pure Try.prog orc) (hk : Is (c_impl_ForestOf_C orc) Try.f36 → Run2 (c_impl_ForestOf_C orc) [.code c_impl_ForestOf_9] (argEnv 0 args) h (Post R)) (hle : k ≤ 9 := by simp) : ACalls Try.prog 36 args h R :=
  contract2 [] c_impl_ForestOf_9 [.tmp 2, .tmp 3] Try.func36 (by decide +kernel) rfl (by kernel_rfl) (by rw [ha]; exact hle) (by kernel_rfl) hp hk
theorem c_impl_ForestOf_of0 {args : List AV} {h : Heap} {R : AV → Heap → Prop} {k : Nat} (ha : args.length = k) {orc : Orc} (hp : Pure Try.prog orc) (hk : Is (c_impl_ForestOf_C orc) Try.f36 → Run2 (c_impl_ForestOf_C orc) [.code c_impl_ForestOf_9] (argEnv 0 args) h R) (hle : k ≤ 9 := by simp) : ACalls Try.prog 36 args h R :=
  contract20 [] c_impl_ForestOf_9 [.tmp 2, .tmp 3] Try.func36 (by decide +kernel) rfl (by kernel_rfl) (by rw [ha]; exact hle) (by kernel_rfl) hp hk
theorem implForest_o (x : Ph) (ok : x.ok) (hl : x.ts.length ≤ 1048576) : ACalls Try.prog 36 [x.av] [] (fun v h' => ∃ w, v = .tup [w, .int .i64 x.fcode] ∧ OwnL iv 1 w x.fres h') := by
  refine c_impl_ForestOf_of rfl orcF_p fun I => ?_
  refine Run2.of I 1000 ?_
  simp -implicitDefEqProofs [ok, hl]
  refine ⟨fun hv => .base ?_, fun hv => ?_⟩
  · simp [Ph.fres, Ph.fcode, hv]
    exact .nil
  refine (forestOf_w x _ hv).mono ?_
  rintro w h' ⟨hp, hg, hd, rfl⟩
  refine gK.go ?_
  simp -implicitDefEqProofs
  refine .base ?_
  simp [Ph.fres, Ph.fcode, hv]
  exact hg.own
end Go.AG
