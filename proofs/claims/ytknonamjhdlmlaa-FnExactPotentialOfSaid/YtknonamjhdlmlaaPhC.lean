/- Lists of phases, and at which edges they are wrong: what the program's and the reference's functions give. No statement is made here. -/
import Derived.Test.YtknonamjhdlmlaaPhVal
import Derived.Test.YtknonamjhdlmlaaIntS
namespace Go.AG
open Go.Proofs Go.Proofs.Ytknonamjhdlmlaa
set_option linter.unusedSimpArgs false
set_option linter.unusedVariables false
set_option maxRecDepth 4000
/-- The least number that is not negative and is n modulo p. -/
theorem mod_go {n p : Int} (hp : 0 < p) : (n.tmod p + p).tmod p = n % p := by
  have h1 := Int.tmod_lt_of_pos n hp
  have h2 : -p < n.tmod p := by
    have := Int.tmod_lt_of_pos (-n) hp
    rw [Int.neg_tmod] at this
    omega
  rw [Int.tmod_eq_emod_of_nonneg (by omega), Int.add_emod_right, Int.tmod_eq_emod]
  split
  · simp
  · rw [Int.sub_emod]
    have : (p.natAbs : Int) = p := by omega
    simp [this]
abbrev c_spec_l03Mod_o0 : List AJ := [.o ⟨(some 4), none, false, .mv (.c (.int .i64 0)), (some [0, 1])⟩]
def c_spec_l03Mod_0 : ACode := .region c_spec_l03Mod_o0
abbrev c_spec_l03Mod_o1 : List AJ := [.o ⟨(some 5), none, false, .mv (.t 0), none⟩, .o ⟨(some 6), none, false, .mv (.t 1), none⟩, .o ⟨(some 7), none, false, .bin .rem (.t 5) (.t 6), none⟩, .o ⟨(some 8), none, false, .mv (.t 1), none⟩, .o ⟨(some 9), none, true, .bin .add (.t 7) (.t 8), none⟩, .o ⟨(some 10), none, false, .mv (.t 1), none⟩, .o ⟨(some 11), none, false, .bin .rem (.t 9) (.t 10), none⟩, .o ⟨(some 4), none, false, .mv (.t 11), (some [4])⟩]
def c_spec_l03Mod_1 : ACode := .region c_spec_l03Mod_o1
def c_spec_l03Mod_2 : ACode := .seq c_spec_l03Mod_1 .ret
def c_spec_l03Mod_3 : ACode := .seq c_spec_l03Mod_0 c_spec_l03Mod_2
section
variable (C : Cx) (n : Nat) (sk : List AItem) (e : Env) (h : Heap) (R : AV → Heap → Prop)
@[simp, simp ↓] theorem c_spec_l03Mod_0_r : vc2 C (n + 1) [] (.code c_spec_l03Mod_0 :: sk) e h R = (vc2 C n c_spec_l03Mod_o0 sk e h R) := nr rfl
@[simp, simp ↓] theorem c_spec_l03Mod_1_r : vc2 C (n + 1) [] (.code c_spec_l03Mod_1 :: sk) e h R = (vc2 C n c_spec_l03Mod_o1 sk e h R) := nr rfl
@[simp, simp ↓] theorem c_spec_l03Mod_2_r : vc2 C (n + 1) [] (.code c_spec_l03Mod_2 :: sk) e h R = (vc2 C n [] (.code c_spec_l03Mod_1 :: .code .ret :: sk) e h R) := nr rfl
@[simp, simp ↓] theorem c_spec_l03Mod_3_r : vc2 C (n + 1) [] (.code c_spec_l03Mod_3 :: sk) e h R = (vc2 C n [] (.code c_spec_l03Mod_0 :: .code c_spec_l03Mod_2 :: sk) e h R) := nr rfl
end
noncomputable def c_spec_l03Mod_C (orc : Orc) : Cx := ⟨Try.prog, [], 64, 12, [.tmp 4], orc⟩
@[simp] theorem c_spec_l03Mod_C_P (orc : Orc) : (c_spec_l03Mod_C orc).P = Try.prog := nr rfl
@[simp] theorem c_spec_l03Mod_C_o (orc : Orc) : (c_spec_l03Mod_C orc).orc = orc := nr rfl
@[simp] theorem c_spec_l03Mod_C_r (orc : Orc) : (c_spec_l03Mod_C orc).res = [.tmp 4] := nr rfl
theorem c_spec_l03Mod_of {args : List AV} {h : Heap} {R : AV → Heap → Prop} {k : Nat} (ha : args.length = k) {orc : Orc} (hp : Pure Try.prog orc) (hk : Is (c_spec_l03Mod_C orc) Try.f64 → Run2 (c_spec_l03Mod_C orc) [.code c_spec_l03Mod_3] (argEnv 0 args) h (Post R)) (hle : k ≤ 12 := by simp) : ACalls Try.prog 64 args h R :=
  contract2 [] c_spec_l03Mod_3 [.tmp 4] Try.func64 (by decide +kernel) rfl (by kernel_rfl) (by rw [ha]; exact hle) (by kernel_rfl) hp hk
theorem c_spec_l03Mod_of0 {args : List AV} {h : Heap} {R : AV → Heap → Prop} {k : Nat} (ha : args.length = k) {orc : Orc} (hp : Pure Try.prog orc) (hk : Is (c_spec_l03Mod_C orc) Try.f64 → Run2 (c_spec_l03Mod_C orc) [.code c_spec_l03Mod_3] (argEnv 0 args) h R) (hle : k ≤ 12 := by simp) : ACalls Try.prog 64 args h R :=
  contract20 [] c_spec_l03Mod_3 [.tmp 4] Try.func64 (by decide +kernel) rfl (by kernel_rfl) (by rw [ha]; exact hle) (by kernel_rfl) hp hk
theorem l03Mod_c (n p : Int) (h : Heap) (hp : 0 < p ∧ p ≤ 1073741824) : ACalls Try.prog 64 [.int .i64 n, .int .i64 p] h (fun v h' => v = .int .i64 (n % p) ∧ h' = h) := by
  have h1 := Int.tmod_lt_of_pos n hp.1
  have h2 := Int.tmod_lt_of_pos (-n) hp.1
  rw [Int.neg_tmod] at h2
  refine c_spec_l03Mod_of0 rfl noPure fun I => ?_
  refine Run2.of I 1000 ?_
  simp -implicitDefEqProofs [mod_go hp.1]
  omega
noncomputable def o_l03Mod : List AV → Option (Prop × AV) := tab (fun (x : Int × Int) => match x with | (n, p) => [.int .i64 n, .int .i64 p]) (fun x => match x with | (n, p) => (0 < p ∧ p ≤ 1073741824)) (fun x => match x with | (n, p) => .int .i64 (n % p))
@[simp] theorem o_l03Mod_e (n : Int) (p : Int) : o_l03Mod [.int .i64 n, .int .i64 p] = some ((0 < p ∧ p ≤ 1073741824), .int .i64 (n % p)) := tab_at (enc := fun (x : Int × Int) => match x with | (n, p) => [.int .i64 n, .int .i64 p]) (fun x y h => by
  obtain ⟨n1, p1⟩ := x; obtain ⟨n2, p2⟩ := y; simp at h; simp [h]) _ _ (n, p)
theorem o_l03Mod_k : Knows Try.prog 64 o_l03Mod := tab_knows fun x hx h => by
  obtain ⟨n, p⟩ := x; exact l03Mod_c n p h hx
/-- A list with n numbers modulo m. -/
def vec (l : List Int) (n m : Int) : Prop := l.length = n ∧ ∀ a ∈ l, 0 ≤ a ∧ a < m
instance (l : List Int) (n m : Int) : Decidable (vec l n m) := by unfold vec; infer_instance
theorem take_all {α : Type} {l : List α} {i : Nat} (P : α → Prop) (h : i < l.length) : (∀ a ∈ l.take (i + 1), P a) ↔ (∀ a ∈ l.take i, P a) ∧ P l[i] := by
  rw [List.take_succ_eq_append_getElem h]
  simp only [List.mem_append, List.mem_singleton]
  exact ⟨fun H => ⟨fun a ha => H a (.inl ha), H _ (.inr rfl)⟩, fun H a ha => ha.elim (H.1 a) fun e => e ▸ H.2⟩
noncomputable def orcC : List (Nat × (List AV → Option (Prop × AV))) := (64, o_l03Mod) :: orcV
theorem orcC_p : Pure Try.prog (lk orcC) := (lk_pure o_l03Mod_k orcV_p)
@[simp] theorem orcC_l (g : FuncId) (l : List AV) : lk orcC g l = if g = 64 then o_l03Mod l else lk orcV g l := nr rfl
abbrev c_spec_l03Column_o0 : List AJ := [.o ⟨(some 6), none, false, .mv (.c (.bool false)), (some [0, 1, 2])⟩]
def c_spec_l03Column_0 : ACode := .region c_spec_l03Column_o0
abbrev c_spec_l03Column_o1 : List AJ := [.o ⟨(some 7), none, false, .mv (.c (.int .i64 0)), (some [0, 1, 2, 7])⟩]
def c_spec_l03Column_1 : ACode := .region c_spec_l03Column_o1
abbrev c_spec_l03Column_o2 : List AJ := [.o ⟨(some 8), none, false, .mv (.t 7), none⟩, .o ⟨(some 9), none, false, .mv (.t 0), none⟩, .o ⟨(some 10), none, false, .len (.t 9), none⟩, .o ⟨(some 11), none, false, .bin .lss (.t 8) (.t 10), (some [0, 1, 2, 7, 11])⟩]
def c_spec_l03Column_2 : ACode := .region c_spec_l03Column_o2
def c_spec_l03Column_3 : ACode := .cond (.t 11) .skip (.exit 0)
def c_spec_l03Column_4 : ACode := .seq c_spec_l03Column_2 c_spec_l03Column_3
abbrev c_spec_l03Column_o3 : List AJ := [.o ⟨(some 14), none, false, .mv (.t 0), none⟩, .o ⟨(some 15), none, false, .mv (.t 7), none⟩, .o ⟨(some 16), none, false, .idxA 1 (.t 14) (.t 15), none⟩, .o ⟨(some 17), none, false, .load 1 false (.t 16), none⟩, .o ⟨(some 18), none, false, .mv (.t 2), none⟩, .o ⟨(some 19), none, true, .bin .sub (.t 18) (.c (.int .i64 1)), none⟩, .o ⟨(some 20), none, false, .call 54 [(.t 17), (.c (.int .i64 0)), (.t 19)], none⟩, .o ⟨(some 21), none, false, .un .not (.t 20), (some [0, 1, 2, 7, 21])⟩]
def c_spec_l03Column_5 : ACode := .region c_spec_l03Column_o3
abbrev c_spec_l03Column_o4 : List AJ := [.o ⟨(some 6), none, false, .mv (.c (.bool false)), (some [6])⟩]
def c_spec_l03Column_6 : ACode := .region c_spec_l03Column_o4
def c_spec_l03Column_7 : ACode := .seq c_spec_l03Column_6 .ret
def c_spec_l03Column_8 : ACode := .cond (.t 21) c_spec_l03Column_7 .skip
def c_spec_l03Column_9 : ACode := .seq c_spec_l03Column_5 c_spec_l03Column_8
def c_spec_l03Column_10 : ACode := .block 1 c_spec_l03Column_9
abbrev c_spec_l03Column_o5 : List AJ := [.o ⟨(some 12), none, false, .mv (.t 7), none⟩, .o ⟨(some 13), none, true, .bin .add (.t 12) (.c (.int .i64 1)), none⟩, .o ⟨(some 7), none, false, .mv (.t 13), (some [0, 1, 2, 7])⟩]
def c_spec_l03Column_11 : ACode := .region c_spec_l03Column_o5
def c_spec_l03Column_12 : ACode := .seq c_spec_l03Column_10 c_spec_l03Column_11
def c_spec_l03Column_13 : ACode := .seq c_spec_l03Column_4 c_spec_l03Column_12
def c_spec_l03Column_14 : ACode := .loop c_spec_l03Column_13
def c_spec_l03Column_15 : ACode := .block 0 c_spec_l03Column_14
def c_spec_l03Column_16 : ACode := .seq c_spec_l03Column_1 c_spec_l03Column_15
abbrev c_spec_l03Column_o6 : List AJ := [.o ⟨(some 22), none, false, .mv (.t 0), none⟩, .o ⟨(some 23), none, false, .len (.t 22), none⟩, .o ⟨(some 24), none, false, .mv (.t 1), none⟩, .o ⟨(some 25), none, false, .bin .eql (.t 23) (.t 24), none⟩, .o ⟨(some 6), none, false, .mv (.t 25), (some [6])⟩]
def c_spec_l03Column_17 : ACode := .region c_spec_l03Column_o6
def c_spec_l03Column_18 : ACode := .seq c_spec_l03Column_17 .ret
def c_spec_l03Column_19 : ACode := .seq c_spec_l03Column_16 c_spec_l03Column_18
def c_spec_l03Column_20 : ACode := .seq c_spec_l03Column_0 c_spec_l03Column_19
section
variable (C : Cx) (n : Nat) (sk : List AItem) (e : Env) (h : Heap) (R : AV → Heap → Prop)
@[simp, simp ↓] theorem c_spec_l03Column_0_r : vc2 C (n + 1) [] (.code c_spec_l03Column_0 :: sk) e h R = (vc2 C n c_spec_l03Column_o0 sk e h R) := nr rfl
@[simp, simp ↓] theorem c_spec_l03Column_1_r : vc2 C (n + 1) [] (.code c_spec_l03Column_1 :: sk) e h R = (vc2 C n c_spec_l03Column_o1 sk e h R) := nr rfl
@[simp, simp ↓] theorem c_spec_l03Column_2_r : vc2 C (n + 1) [] (.code c_spec_l03Column_2 :: sk) e h R = (vc2 C n c_spec_l03Column_o2 sk e h R) := nr rfl
@[simp, simp ↓] theorem c_spec_l03Column_3_r : vc2 C (n + 1) [] (.code c_spec_l03Column_3 :: sk) e h R = (condK (ev e (.t 11)) (vc2 C n [] (.code .skip :: sk) e h R) (vc2 C n [] (.code (.exit 0) :: sk) e h R)) := nr rfl
@[simp, simp ↓] theorem c_spec_l03Column_4_r : vc2 C (n + 1) [] (.code c_spec_l03Column_4 :: sk) e h R = (vc2 C n [] (.code c_spec_l03Column_2 :: .code c_spec_l03Column_3 :: sk) e h R) := nr rfl
@[simp, simp ↓] theorem c_spec_l03Column_5_r : vc2 C (n + 1) [] (.code c_spec_l03Column_5 :: sk) e h R = (vc2 C n c_spec_l03Column_o3 sk e h R) := nr rfl
@[simp, simp ↓] theorem c_spec_l03Column_6_r : vc2 C (n + 1) [] (.code c_spec_l03Column_6 :: sk) e h R = (vc2 C n c_spec_l03Column_o4 sk e h R) := nr rfl
@[simp, simp ↓] theorem c_spec_l03Column_7_r : vc2 C (n + 1) [] (.code c_spec_l03Column_7 :: sk) e h R = (vc2 C n [] (.code c_spec_l03Column_6 :: .code .ret :: sk) e h R) := nr rfl
@[simp, simp ↓] theorem c_spec_l03Column_8_r : vc2 C (n + 1) [] (.code c_spec_l03Column_8 :: sk) e h R = (condK (ev e (.t 21)) (vc2 C n [] (.code c_spec_l03Column_7 :: sk) e h R) (vc2 C n [] (.code .skip :: sk) e h R)) := nr rfl
@[simp, simp ↓] theorem c_spec_l03Column_9_r : vc2 C (n + 1) [] (.code c_spec_l03Column_9 :: sk) e h R = (vc2 C n [] (.code c_spec_l03Column_5 :: .code c_spec_l03Column_8 :: sk) e h R) := nr rfl
@[simp, simp ↓] theorem c_spec_l03Column_10_r : vc2 C (n + 1) [] (.code c_spec_l03Column_10 :: sk) e h R = (vc2 C n [] (.code c_spec_l03Column_9 :: .inBlock 1 :: sk) e h R) := nr rfl
@[simp, simp ↓] theorem c_spec_l03Column_11_r : vc2 C (n + 1) [] (.code c_spec_l03Column_11 :: sk) e h R = (vc2 C n c_spec_l03Column_o5 sk e h R) := nr rfl
@[simp, simp ↓] theorem c_spec_l03Column_12_r : vc2 C (n + 1) [] (.code c_spec_l03Column_12 :: sk) e h R = (vc2 C n [] (.code c_spec_l03Column_10 :: .code c_spec_l03Column_11 :: sk) e h R) := nr rfl
@[simp, simp ↓] theorem c_spec_l03Column_13_r : vc2 C (n + 1) [] (.code c_spec_l03Column_13 :: sk) e h R = (vc2 C n [] (.code c_spec_l03Column_4 :: .code c_spec_l03Column_12 :: sk) e h R) := nr rfl
@[simp, simp ↓] theorem c_spec_l03Column_14_r : vc2 C (n + 1) [] (.code c_spec_l03Column_14 :: sk) e h R = (Run2 C (.code c_spec_l03Column_13 :: .inLoop c_spec_l03Column_13 :: sk) e h R) := nr rfl
@[simp, simp ↓] theorem c_spec_l03Column_15_r : vc2 C (n + 1) [] (.code c_spec_l03Column_15 :: sk) e h R = (vc2 C n [] (.code c_spec_l03Column_14 :: .inBlock 0 :: sk) e h R) := nr rfl
@[simp, simp ↓] theorem c_spec_l03Column_16_r : vc2 C (n + 1) [] (.code c_spec_l03Column_16 :: sk) e h R = (vc2 C n [] (.code c_spec_l03Column_1 :: .code c_spec_l03Column_15 :: sk) e h R) := nr rfl
@[simp, simp ↓] theorem c_spec_l03Column_17_r : vc2 C (n + 1) [] (.code c_spec_l03Column_17 :: sk) e h R = (vc2 C n c_spec_l03Column_o6 sk e h R) := nr rfl
@[simp, simp ↓] theorem c_spec_l03Column_18_r : vc2 C (n + 1) [] (.code c_spec_l03Column_18 :: sk) e h R = (vc2 C n [] (.code c_spec_l03Column_17 :: .code .ret :: sk) e h R) := nr rfl
@[simp, simp ↓] theorem c_spec_l03Column_19_r : vc2 C (n + 1) [] (.code c_spec_l03Column_19 :: sk) e h R = (vc2 C n [] (.code c_spec_l03Column_16 :: .code c_spec_l03Column_18 :: sk) e h R) := nr rfl
@[simp, simp ↓] theorem c_spec_l03Column_20_r : vc2 C (n + 1) [] (.code c_spec_l03Column_20 :: sk) e h R = (vc2 C n [] (.code c_spec_l03Column_0 :: .code c_spec_l03Column_19 :: sk) e h R) := nr rfl
end
noncomputable def c_spec_l03Column_C (orc : Orc) : Cx := ⟨Try.prog, [], 93, 26, [.tmp 6], orc⟩
@[simp] theorem c_spec_l03Column_C_P (orc : Orc) : (c_spec_l03Column_C orc).P = Try.prog := nr rfl
@[simp] theorem c_spec_l03Column_C_o (orc : Orc) : (c_spec_l03Column_C orc).orc = orc := nr rfl
@[simp] theorem c_spec_l03Column_C_r (orc : Orc) : (c_spec_l03Column_C orc).res = [.tmp 6] := nr rfl
theorem c_spec_l03Column_of {args : List AV} {h : Heap} {R : AV → Heap → Prop} {k : Nat} (ha : args.length = k) {orc : Orc} (hp : Pure Try.prog orc) (hk : Is (c_spec_l03Column_C orc) Try.f93 → Run2 (c_spec_l03Column_C orc) [.code c_spec_l03Column_20] (argEnv 0 args) h (Post R)) (hle : k ≤ 26 := by simp) : ACalls Try.prog 93 args h R :=
  contract2 [] c_spec_l03Column_20 [.tmp 6] Try.func93 (by decide +kernel) rfl (by kernel_rfl) (by rw [ha]; exact hle) (by kernel_rfl) hp hk
theorem c_spec_l03Column_of0 {args : List AV} {h : Heap} {R : AV → Heap → Prop} {k : Nat} (ha : args.length = k) {orc : Orc} (hp : Pure Try.prog orc) (hk : Is (c_spec_l03Column_C orc) Try.f93 → Run2 (c_spec_l03Column_C orc) [.code c_spec_l03Column_20] (argEnv 0 args) h R) (hle : k ≤ 26 := by simp) : ACalls Try.prog 93 args h R :=
  contract20 [] c_spec_l03Column_20 [.tmp 6] Try.func93 (by decide +kernel) rfl (by kernel_rfl) (by rw [ha]; exact hle) (by kernel_rfl) hp hk
theorem l03Column_s (l : List Int) (n m : Int) (h : Heap) (hl : l.length ≤ 1048576) (hm : 0 < m ∧ m ≤ 1073741824) : ACalls Try.prog 93 [.snap 1 (l.map iv), .int .i64 n, .int .i64 m] h (fun v h' => v = .bool (decide (vec l n m)) ∧ h' = h) := by
  refine c_spec_l03Column_of0 rfl orcC_p fun I => ?_
  refine Run2.of I 1000 ?_
  simp -implicitDefEqProofs
  refine Run2.loopE (fun i => [(0, .snap 1 (l.map iv)), (1, .int .i64 n), (2, .int .i64 m), (7, .int .i64 (i : Nat))]) (fun i => h) (fun i => l.length - i) (fun i => i ≤ l.length ∧ ∀ a ∈ l.take i, 0 ≤ a ∧ a < m) 0 (by simp) rfl (by simp) fun i hi ih => ?_
  by_cases hlt : i < l.length
  · have hbad : ¬ (0 ≤ l[i] ∧ l[i] < m) → ¬ vec l n m := fun h1 h2 => h1 (h2.2 _ (List.getElem_mem hlt))
    have go := fun (h1 : 0 ≤ l[i] ∧ l[i] < m) => ih (i + 1) ⟨by omega, (take_all _ hlt).2 ⟨hi.2, h1⟩⟩ (by omega)
    clear ih
    refine Run2.of I 1000 ?_
    simp -implicitDefEqProofs [hlt]
    simp at go
    repeat' (first | refine And.intro ?_ ?_ | intro _)
    all_goals first | omega | grind
  · obtain rfl : i = l.length := by omega
    have h2 := hi.2
    rw [List.take_length] at h2
    refine Run2.of I 1000 ?_
    simp -implicitDefEqProofs
    exact ⟨fun h => ⟨h, h2⟩, fun h => h.1⟩
theorem l03Column_c (u : AV) (n m : Int) (h : Heap) (hu : isInts u) (hl : (intsOf u).length ≤ 1048576) (hm : 0 < m ∧ m ≤ 1073741824) : ACalls Try.prog 93 [u, .int .i64 n, .int .i64 m] h (fun v h' => v = .bool (decide (vec (intsOf u) n m)) ∧ h' = h) :=
  (l03Column_s _ n m h hl hm).wk (.cons (.ints hu) (.refl _))
noncomputable def o_l03Column : List AV → Option (Prop × AV) := tab (fun (x : AV × Int × Int) => match x with | (u, n, m) => [u, .int .i64 n, .int .i64 m]) (fun x => match x with | (u, n, m) => (isInts u ∧ (intsOf u).length ≤ 1048576 ∧ (0 < m ∧ m ≤ 1073741824))) (fun x => match x with | (u, n, m) => .bool (decide (vec (intsOf u) n m)))
@[simp] theorem o_l03Column_e (u : AV) (n : Int) (m : Int) : o_l03Column [u, .int .i64 n, .int .i64 m] = some ((isInts u ∧ (intsOf u).length ≤ 1048576 ∧ (0 < m ∧ m ≤ 1073741824)), .bool (decide (vec (intsOf u) n m))) := tab_at (enc := fun (x : AV × Int × Int) => match x with | (u, n, m) => [u, .int .i64 n, .int .i64 m]) (fun x y h => by
  obtain ⟨u1, n1, m1⟩ := x; obtain ⟨u2, n2, m2⟩ := y; simp at h; simp [h]) _ _ (u, n, m)
theorem o_l03Column_k : Knows Try.prog 93 o_l03Column := tab_knows fun x hx h => by
  obtain ⟨u, n, m⟩ := x; exact l03Column_c u n m h hx.1 hx.2.1 hx.2.2
noncomputable def orcC2 : List (Nat × (List AV → Option (Prop × AV))) := (93, o_l03Column) :: orcC
theorem orcC2_p : Pure Try.prog (lk orcC2) := (lk_pure o_l03Column_k orcC_p)
@[simp] theorem orcC2_l (g : FuncId) (l : List AV) : lk orcC2 g l = if g = 93 then o_l03Column l else lk orcC g l := nr rfl
abbrev c_spec_l23List_o0 : List AJ := [.o ⟨(some 4), none, false, .mv (.c (.bool false)), (some [0, 1])⟩]
def c_spec_l23List_0 : ACode := .region c_spec_l23List_o0
abbrev c_spec_l23List_o1 : List AI := [⟨(some 5), none, false, .mv (.t 1), none⟩, ⟨(some 6), none, false, .mv (.t 0), none⟩, ⟨(some 7), none, false, .nilchk (.t 6), none⟩, ⟨(some 8), none, false, .fieldA 0 (.t 7), none⟩, ⟨(some 9), none, false, .load 1 false (.t 8), none⟩, ⟨(some 10), none, false, .mv (.t 0), none⟩, ⟨(some 11), none, false, .nilchk (.t 10), none⟩, ⟨(some 12), none, false, .fieldA 1 (.t 11), none⟩, ⟨(some 13), none, false, .load 1 false (.t 12), none⟩, ⟨(some 14), none, false, .call 93 [(.t 5), (.t 9), (.t 13)], none⟩, ⟨(some 4), none, false, .mv (.t 14), (some [4])⟩]
def c_spec_l23List_1 : ACode := .draw c_spec_l23List_o1 [] rfl
def c_spec_l23List_2 : ACode := .seq c_spec_l23List_1 .ret
def c_spec_l23List_3 : ACode := .seq c_spec_l23List_0 c_spec_l23List_2
section
variable (C : Cx) (n : Nat) (sk : List AItem) (e : Env) (h : Heap) (R : AV → Heap → Prop)
@[simp, simp ↓] theorem c_spec_l23List_0_r : vc2 C (n + 1) [] (.code c_spec_l23List_0 :: sk) e h R = (vc2 C n c_spec_l23List_o0 sk e h R) := nr rfl
@[simp, simp ↓] theorem c_spec_l23List_1_r : vc2 C (n + 1) [] (.code c_spec_l23List_1 :: sk) e h R = (draw2 C h (vK C n [] sk R h) c_spec_l23List_o1 e) := nr rfl
@[simp, simp ↓] theorem c_spec_l23List_2_r : vc2 C (n + 1) [] (.code c_spec_l23List_2 :: sk) e h R = (vc2 C n [] (.code c_spec_l23List_1 :: .code .ret :: sk) e h R) := nr rfl
@[simp, simp ↓] theorem c_spec_l23List_3_r : vc2 C (n + 1) [] (.code c_spec_l23List_3 :: sk) e h R = (vc2 C n [] (.code c_spec_l23List_0 :: .code c_spec_l23List_2 :: sk) e h R) := nr rfl
end
noncomputable def c_spec_l23List_C (orc : Orc) : Cx := ⟨Try.prog, [], 58, 15, [.tmp 4], orc⟩
@[simp] theorem c_spec_l23List_C_P (orc : Orc) : (c_spec_l23List_C orc).P = Try.prog := nr rfl
@[simp] theorem c_spec_l23List_C_o (orc : Orc) : (c_spec_l23List_C orc).orc = orc := nr rfl
@[simp] theorem c_spec_l23List_C_r (orc : Orc) : (c_spec_l23List_C orc).res = [.tmp 4] := nr rfl
theorem c_spec_l23List_of {args : List AV} {h : Heap} {R : AV → Heap → Prop} {k : Nat} (ha : args.length = k) {orc : Orc} (hp : Pure Try.prog orc) (hk : Is (c_spec_l23List_C orc) Try.f58 → Run2 (c_spec_l23List_C orc) [.code c_spec_l23List_3] (argEnv 0 args) h (Post R)) (hle : k ≤ 15 := by simp) : ACalls Try.prog 58 args h R :=
  contract2 [] c_spec_l23List_3 [.tmp 4] Try.func58 (by decide +kernel) rfl (by kernel_rfl) (by rw [ha]; exact hle) (by kernel_rfl) hp hk
theorem c_spec_l23List_of0 {args : List AV} {h : Heap} {R : AV → Heap → Prop} {k : Nat} (ha : args.length = k) {orc : Orc} (hp : Pure Try.prog orc) (hk : Is (c_spec_l23List_C orc) Try.f58 → Run2 (c_spec_l23List_C orc) [.code c_spec_l23List_3] (argEnv 0 args) h R) (hle : k ≤ 15 := by simp) : ACalls Try.prog 58 args h R :=
  contract20 [] c_spec_l23List_3 [.tmp 4] Try.func58 (by decide +kernel) rfl (by kernel_rfl) (by rw [ha]; exact hle) (by kernel_rfl) hp hk
theorem l23List_c (n m : Int) (ts : AV) (u : AV) (h : Heap) (hu : isInts u) (hl : (intsOf u).length ≤ 1048576) (hm : 0 < m ∧ m ≤ 1073741824) : ACalls Try.prog 58 [.ip [.int .i64 n, .int .i64 m, ts], u] h (fun v h' => v = .bool (decide (vec (intsOf u) n m)) ∧ h' = h) := by
  refine c_spec_l23List_of0 rfl orcC2_p fun I => ?_
  refine Run2.of I 1000 ?_
  simp -implicitDefEqProofs [hu, hl, hm.1, hm.2]
noncomputable def o_l23List : List AV → Option (Prop × AV) := tab (fun (x : Int × Int × AV × AV) => match x with | (n, m, ts, u) => [.ip [.int .i64 n, .int .i64 m, ts], u]) (fun x => match x with | (n, m, ts, u) => (isInts u ∧ (intsOf u).length ≤ 1048576 ∧ (0 < m ∧ m ≤ 1073741824))) (fun x => match x with | (n, m, ts, u) => .bool (decide (vec (intsOf u) n m)))
@[simp] theorem o_l23List_e (n : Int) (m : Int) (ts : AV) (u : AV) : o_l23List [.ip [.int .i64 n, .int .i64 m, ts], u] = some ((isInts u ∧ (intsOf u).length ≤ 1048576 ∧ (0 < m ∧ m ≤ 1073741824)), .bool (decide (vec (intsOf u) n m))) := tab_at (enc := fun (x : Int × Int × AV × AV) => match x with | (n, m, ts, u) => [.ip [.int .i64 n, .int .i64 m, ts], u]) (fun x y h => by
  obtain ⟨n1, m1, ts1, u1⟩ := x; obtain ⟨n2, m2, ts2, u2⟩ := y; simp at h; simp [h]) _ _ (n, m, ts, u)
theorem o_l23List_k : Knows Try.prog 58 o_l23List := tab_knows fun x hx h => by
  obtain ⟨n, m, ts, u⟩ := x; exact l23List_c n m ts u h hx.1 hx.2.1 hx.2.2
/-! ## Where phases are wrong -/
def Ph.bad (x : Ph) (p : List Int) (t : T) : Bool := decide ((p.getD t.f.toNat 0 + t.s) % x.m ≠ p.getD t.t.toNat 0)
def Ph.wr (x : Ph) (p : List Int) (i : Nat) : List Int := ((List.range i).filter fun k => x.bad p (x.ts.getD k default)).map Int.ofNat
theorem Ph.wr_succ (x : Ph) (p : List Int) {i : Nat} (hi : i < x.ts.length) : x.wr p (i + 1) = x.wr p i ++ if x.bad p x.ts[i] then [(i : Int)] else [] := by
  unfold Ph.wr
  have : x.ts.getD i default = x.ts[i] := by simp [hi]
  rw [List.range_succ, List.filter_append, List.map_append]
  congr 1
  simp only [List.filter_cons, List.filter_nil, this]
  split <;> simp_all
theorem Ph.wr_len (x : Ph) (p : List Int) (i : Nat) : (x.wr p i).length ≤ i := by
  unfold Ph.wr
  rw [List.length_map]
  exact Nat.le_trans (List.length_filter_le _ _) (by simp)
theorem Ph.edge {x : Ph} (hv : x.valid) {i : Nat} (hi : i < x.ts.length) : x.el x.ts[i] := (hv.2.2.2.2.1 i hi hi).1
/-- What is known of an edge's ends in a list of phases. -/
theorem Ph.ends {x : Ph} (hv : x.valid) {p : List Int} (hp : vec p x.n x.m) {i : Nat} (hi : i < x.ts.length) :
    ∃ (h1 : x.ts[i].f.toNat < p.length) (h2 : x.ts[i].t.toNat < p.length), 0 ≤ x.ts[i].f ∧ 0 ≤ x.ts[i].t ∧ 0 ≤ x.ts[i].s ∧ x.ts[i].s < x.m ∧ (0 ≤ p[x.ts[i].f.toNat] ∧ p[x.ts[i].f.toNat] < x.m) ∧ (0 ≤ p[x.ts[i].t.toNat] ∧ p[x.ts[i].t.toNat] < x.m) ∧
      x.bad p x.ts[i] = decide ((p[x.ts[i].f.toNat] + x.ts[i].s) % x.m ≠ p[x.ts[i].t.toNat]) := by
  obtain ⟨e1, e2, e3, e4, e5⟩ := Ph.edge hv hi
  have hn := hp.1
  have h1 : x.ts[i].f.toNat < p.length := by omega
  have h2 : x.ts[i].t.toNat < p.length := by omega
  refine ⟨h1, h2, e1, by omega, e4, e5, hp.2 _ (List.getElem_mem h1), hp.2 _ (List.getElem_mem h2), ?_⟩
  unfold Ph.bad
  simp [h1, h2]
theorem bad_iff {a b s m : Int} (hb : 0 ≤ b ∧ b < m) : (b - a - s) % m = 0 ↔ (a + s) % m = b := by
  have : (b - a - s) = b - (a + s) := by omega
  rw [this, Int.sub_emod, Int.emod_eq_of_lt hb.1 hb.2]
  have h1 := Int.emod_nonneg (a + s) (show m ≠ 0 by omega)
  have h2 := Int.emod_lt_of_pos (a + s) (show 0 < m by omega)
  constructor
  · intro h
    rcases Int.lt_trichotomy (b - (a + s) % m) 0 with hlt | heq | hgt
    · have : (b - (a + s) % m) % m = b - (a + s) % m + m := by
        rw [← Int.add_emod_right, Int.emod_eq_of_lt (by omega) (by omega)]
      omega
    · omega
    · rw [Int.emod_eq_of_lt (by omega) (by omega)] at h; omega
  · intro h; rw [h]; simp
abbrev c_spec_l23Wrong_o0 : List AJ := [.o ⟨(some 4), none, false, .mv (.c .nilsl), (some [0, 1])⟩]
def c_spec_l23Wrong_0 : ACode := .region c_spec_l23Wrong_o0
abbrev c_spec_l23Wrong_o1 : List AJ := [.e 8 1 none, .o ⟨(some 5), none, false, .mv (.t 8), (some [0, 1, 5])⟩]
def c_spec_l23Wrong_1 : ACode := .region c_spec_l23Wrong_o1
abbrev c_spec_l23Wrong_o2 : List AJ := [.o ⟨(some 6), none, false, .mv (.c (.int .i64 0)), (some [0, 1, 5, 6])⟩]
def c_spec_l23Wrong_2 : ACode := .region c_spec_l23Wrong_o2
abbrev c_spec_l23Wrong_o3 : List AJ := [.o ⟨(some 9), none, false, .mv (.t 6), none⟩, .o ⟨(some 10), none, false, .mv (.t 0), none⟩, .o ⟨(some 11), none, false, .nilchk (.t 10), none⟩, .o ⟨(some 12), none, false, .fieldA 2 (.t 11), none⟩, .o ⟨(some 13), none, false, .load 1 false (.t 12), none⟩, .o ⟨(some 14), none, false, .len (.t 13), none⟩, .o ⟨(some 15), none, false, .bin .lss (.t 9) (.t 14), (some [0, 1, 5, 6, 15])⟩]
def c_spec_l23Wrong_3 : ACode := .region c_spec_l23Wrong_o3
def c_spec_l23Wrong_4 : ACode := .cond (.t 15) .skip (.exit 0)
def c_spec_l23Wrong_5 : ACode := .seq c_spec_l23Wrong_3 c_spec_l23Wrong_4
abbrev c_spec_l23Wrong_o4 : List AJ := [.o ⟨(some 18), none, false, .mv (.t 0), none⟩, .o ⟨(some 19), none, false, .nilchk (.t 18), none⟩, .o ⟨(some 20), none, false, .fieldA 2 (.t 19), none⟩, .o ⟨(some 21), none, false, .load 1 false (.t 20), none⟩, .o ⟨(some 22), none, false, .mv (.t 6), none⟩, .o ⟨(some 23), none, false, .idxA 3 (.t 21) (.t 22), none⟩, .o ⟨(some 24), none, false, .load 3 true (.t 23), none⟩, .v 7 3 (.agg [(.int .i64 0), (.int .i64 0), (.int .i64 0)]) [] (.t 24) (some [0, 1, 5, 6, 7])]
def c_spec_l23Wrong_6 : ACode := .region c_spec_l23Wrong_o4
abbrev c_spec_l23Wrong_o5 : List AI := [⟨(some 25), none, false, .mv (.t 1), none⟩, ⟨(some 26), none, false, .fieldA 1 (.t 7), none⟩, ⟨(some 27), none, false, .load 1 false (.t 26), none⟩, ⟨(some 28), none, false, .idxA 1 (.t 25) (.t 27), none⟩, ⟨(some 29), none, false, .load 1 false (.t 28), none⟩, ⟨(some 30), none, false, .mv (.t 1), none⟩, ⟨(some 31), none, false, .fieldA 0 (.t 7), none⟩, ⟨(some 32), none, false, .load 1 false (.t 31), none⟩, ⟨(some 33), none, false, .idxA 1 (.t 30) (.t 32), none⟩, ⟨(some 34), none, false, .load 1 false (.t 33), none⟩, ⟨(some 35), none, true, .bin .sub (.t 29) (.t 34), none⟩, ⟨(some 36), none, false, .fieldA 2 (.t 7), none⟩, ⟨(some 37), none, false, .load 1 false (.t 36), none⟩, ⟨(some 38), none, true, .bin .sub (.t 35) (.t 37), (some [0, 1, 5, 6, 38])⟩, ⟨(some 39), none, false, .mv (.t 0), none⟩, ⟨(some 40), none, false, .nilchk (.t 39), none⟩, ⟨(some 41), none, false, .fieldA 1 (.t 40), none⟩, ⟨(some 42), none, false, .load 1 false (.t 41), none⟩, ⟨(some 43), none, false, .call 64 [(.t 38), (.t 42)], none⟩, ⟨(some 44), none, false, .bin .neq (.t 43) (.c (.int .i64 0)), (some [0, 1, 5, 6, 44])⟩]
def c_spec_l23Wrong_7 : ACode := .draw c_spec_l23Wrong_o5 [] rfl
abbrev c_spec_l23Wrong_o6 : List AJ := [.o ⟨(some 45), none, false, .mv (.t 5), none⟩, .o ⟨(some 46), none, false, .mv (.t 6), none⟩, .o ⟨(some 47), none, false, .bsl false 1 [(.t 46)], none⟩, .o ⟨(some 48), none, false, .append 1 8 (.t 45) (.t 47), none⟩, .o ⟨(some 5), none, false, .mv (.t 48), (some [0, 1, 5, 6])⟩]
def c_spec_l23Wrong_8 : ACode := .region c_spec_l23Wrong_o6
def c_spec_l23Wrong_9 : ACode := .cond (.t 44) c_spec_l23Wrong_8 .skip
def c_spec_l23Wrong_10 : ACode := .seq c_spec_l23Wrong_7 c_spec_l23Wrong_9
def c_spec_l23Wrong_11 : ACode := .seq c_spec_l23Wrong_6 c_spec_l23Wrong_10
def c_spec_l23Wrong_12 : ACode := .block 1 c_spec_l23Wrong_11
abbrev c_spec_l23Wrong_o7 : List AJ := [.o ⟨(some 16), none, false, .mv (.t 6), none⟩, .o ⟨(some 17), none, true, .bin .add (.t 16) (.c (.int .i64 1)), none⟩, .o ⟨(some 6), none, false, .mv (.t 17), (some [0, 1, 5, 6])⟩]
def c_spec_l23Wrong_13 : ACode := .region c_spec_l23Wrong_o7
def c_spec_l23Wrong_14 : ACode := .seq c_spec_l23Wrong_12 c_spec_l23Wrong_13
def c_spec_l23Wrong_15 : ACode := .seq c_spec_l23Wrong_5 c_spec_l23Wrong_14
def c_spec_l23Wrong_16 : ACode := .loop c_spec_l23Wrong_15
def c_spec_l23Wrong_17 : ACode := .block 0 c_spec_l23Wrong_16
def c_spec_l23Wrong_18 : ACode := .seq c_spec_l23Wrong_2 c_spec_l23Wrong_17
abbrev c_spec_l23Wrong_o8 : List AJ := [.o ⟨(some 49), none, false, .mv (.t 5), none⟩, .o ⟨(some 4), none, false, .mv (.t 49), (some [4])⟩]
def c_spec_l23Wrong_19 : ACode := .region c_spec_l23Wrong_o8
def c_spec_l23Wrong_20 : ACode := .seq c_spec_l23Wrong_19 .ret
def c_spec_l23Wrong_21 : ACode := .seq c_spec_l23Wrong_18 c_spec_l23Wrong_20
def c_spec_l23Wrong_22 : ACode := .seq c_spec_l23Wrong_1 c_spec_l23Wrong_21
def c_spec_l23Wrong_23 : ACode := .seq c_spec_l23Wrong_0 c_spec_l23Wrong_22
section
variable (C : Cx) (n : Nat) (sk : List AItem) (e : Env) (h : Heap) (R : AV → Heap → Prop)
@[simp, simp ↓] theorem c_spec_l23Wrong_0_r : vc2 C (n + 1) [] (.code c_spec_l23Wrong_0 :: sk) e h R = (vc2 C n c_spec_l23Wrong_o0 sk e h R) := nr rfl
@[simp, simp ↓] theorem c_spec_l23Wrong_1_r : vc2 C (n + 1) [] (.code c_spec_l23Wrong_1 :: sk) e h R = (vc2 C n c_spec_l23Wrong_o1 sk e h R) := nr rfl
@[simp, simp ↓] theorem c_spec_l23Wrong_2_r : vc2 C (n + 1) [] (.code c_spec_l23Wrong_2 :: sk) e h R = (vc2 C n c_spec_l23Wrong_o2 sk e h R) := nr rfl
@[simp, simp ↓] theorem c_spec_l23Wrong_3_r : vc2 C (n + 1) [] (.code c_spec_l23Wrong_3 :: sk) e h R = (vc2 C n c_spec_l23Wrong_o3 sk e h R) := nr rfl
@[simp, simp ↓] theorem c_spec_l23Wrong_4_r : vc2 C (n + 1) [] (.code c_spec_l23Wrong_4 :: sk) e h R = (condK (ev e (.t 15)) (vc2 C n [] (.code .skip :: sk) e h R) (vc2 C n [] (.code (.exit 0) :: sk) e h R)) := nr rfl
@[simp, simp ↓] theorem c_spec_l23Wrong_5_r : vc2 C (n + 1) [] (.code c_spec_l23Wrong_5 :: sk) e h R = (vc2 C n [] (.code c_spec_l23Wrong_3 :: .code c_spec_l23Wrong_4 :: sk) e h R) := nr rfl
@[simp, simp ↓] theorem c_spec_l23Wrong_6_r : vc2 C (n + 1) [] (.code c_spec_l23Wrong_6 :: sk) e h R = (vc2 C n c_spec_l23Wrong_o4 sk e h R) := nr rfl
@[simp, simp ↓] theorem c_spec_l23Wrong_7_r : vc2 C (n + 1) [] (.code c_spec_l23Wrong_7 :: sk) e h R = (draw2 C h (vK C n [] sk R h) c_spec_l23Wrong_o5 e) := nr rfl
@[simp, simp ↓] theorem c_spec_l23Wrong_8_r : vc2 C (n + 1) [] (.code c_spec_l23Wrong_8 :: sk) e h R = (vc2 C n c_spec_l23Wrong_o6 sk e h R) := nr rfl
@[simp, simp ↓] theorem c_spec_l23Wrong_9_r : vc2 C (n + 1) [] (.code c_spec_l23Wrong_9 :: sk) e h R = (condK (ev e (.t 44)) (vc2 C n [] (.code c_spec_l23Wrong_8 :: sk) e h R) (vc2 C n [] (.code .skip :: sk) e h R)) := nr rfl
@[simp, simp ↓] theorem c_spec_l23Wrong_10_r : vc2 C (n + 1) [] (.code c_spec_l23Wrong_10 :: sk) e h R = (vc2 C n [] (.code c_spec_l23Wrong_7 :: .code c_spec_l23Wrong_9 :: sk) e h R) := nr rfl
@[simp, simp ↓] theorem c_spec_l23Wrong_11_r : vc2 C (n + 1) [] (.code c_spec_l23Wrong_11 :: sk) e h R = (vc2 C n [] (.code c_spec_l23Wrong_6 :: .code c_spec_l23Wrong_10 :: sk) e h R) := nr rfl
@[simp, simp ↓] theorem c_spec_l23Wrong_12_r : vc2 C (n + 1) [] (.code c_spec_l23Wrong_12 :: sk) e h R = (vc2 C n [] (.code c_spec_l23Wrong_11 :: .inBlock 1 :: sk) e h R) := nr rfl
@[simp, simp ↓] theorem c_spec_l23Wrong_13_r : vc2 C (n + 1) [] (.code c_spec_l23Wrong_13 :: sk) e h R = (vc2 C n c_spec_l23Wrong_o7 sk e h R) := nr rfl
@[simp, simp ↓] theorem c_spec_l23Wrong_14_r : vc2 C (n + 1) [] (.code c_spec_l23Wrong_14 :: sk) e h R = (vc2 C n [] (.code c_spec_l23Wrong_12 :: .code c_spec_l23Wrong_13 :: sk) e h R) := nr rfl
@[simp, simp ↓] theorem c_spec_l23Wrong_15_r : vc2 C (n + 1) [] (.code c_spec_l23Wrong_15 :: sk) e h R = (vc2 C n [] (.code c_spec_l23Wrong_5 :: .code c_spec_l23Wrong_14 :: sk) e h R) := nr rfl
@[simp, simp ↓] theorem c_spec_l23Wrong_16_r : vc2 C (n + 1) [] (.code c_spec_l23Wrong_16 :: sk) e h R = (Run2 C (.code c_spec_l23Wrong_15 :: .inLoop c_spec_l23Wrong_15 :: sk) e h R) := nr rfl
@[simp, simp ↓] theorem c_spec_l23Wrong_17_r : vc2 C (n + 1) [] (.code c_spec_l23Wrong_17 :: sk) e h R = (vc2 C n [] (.code c_spec_l23Wrong_16 :: .inBlock 0 :: sk) e h R) := nr rfl
@[simp, simp ↓] theorem c_spec_l23Wrong_18_r : vc2 C (n + 1) [] (.code c_spec_l23Wrong_18 :: sk) e h R = (vc2 C n [] (.code c_spec_l23Wrong_2 :: .code c_spec_l23Wrong_17 :: sk) e h R) := nr rfl
@[simp, simp ↓] theorem c_spec_l23Wrong_19_r : vc2 C (n + 1) [] (.code c_spec_l23Wrong_19 :: sk) e h R = (vc2 C n c_spec_l23Wrong_o8 sk e h R) := nr rfl
@[simp, simp ↓] theorem c_spec_l23Wrong_20_r : vc2 C (n + 1) [] (.code c_spec_l23Wrong_20 :: sk) e h R = (vc2 C n [] (.code c_spec_l23Wrong_19 :: .code .ret :: sk) e h R) := nr rfl
@[simp, simp ↓] theorem c_spec_l23Wrong_21_r : vc2 C (n + 1) [] (.code c_spec_l23Wrong_21 :: sk) e h R = (vc2 C n [] (.code c_spec_l23Wrong_18 :: .code c_spec_l23Wrong_20 :: sk) e h R) := nr rfl
@[simp, simp ↓] theorem c_spec_l23Wrong_22_r : vc2 C (n + 1) [] (.code c_spec_l23Wrong_22 :: sk) e h R = (vc2 C n [] (.code c_spec_l23Wrong_1 :: .code c_spec_l23Wrong_21 :: sk) e h R) := nr rfl
@[simp, simp ↓] theorem c_spec_l23Wrong_23_r : vc2 C (n + 1) [] (.code c_spec_l23Wrong_23 :: sk) e h R = (vc2 C n [] (.code c_spec_l23Wrong_0 :: .code c_spec_l23Wrong_22 :: sk) e h R) := nr rfl
end
noncomputable def c_spec_l23Wrong_C (orc : Orc) : Cx := ⟨Try.prog, [7, 8], 59, 50, [.tmp 4], orc⟩
@[simp] theorem c_spec_l23Wrong_C_P (orc : Orc) : (c_spec_l23Wrong_C orc).P = Try.prog := nr rfl
@[simp] theorem c_spec_l23Wrong_C_o (orc : Orc) : (c_spec_l23Wrong_C orc).orc = orc := nr rfl
@[simp] theorem c_spec_l23Wrong_C_r (orc : Orc) : (c_spec_l23Wrong_C orc).res = [.tmp 4] := nr rfl
theorem c_spec_l23Wrong_of {args : List AV} {h : Heap} {R : AV → Heap → Prop} {k : Nat} (ha : args.length = k) {orc : Orc} (hp : Pure Try.prog orc) (hk : Is (c_spec_l23Wrong_C orc) Try.f59 → Run2 (c_spec_l23Wrong_C orc) [.code c_spec_l23Wrong_23] (argEnv 0 args) h (Post R)) (hle : k ≤ 50 := by simp) : ACalls Try.prog 59 args h R :=
  contract2 [7, 8] c_spec_l23Wrong_23 [.tmp 4] Try.func59 (by decide +kernel) rfl (by kernel_rfl) (by rw [ha]; exact hle) (by kernel_rfl) hp hk
theorem c_spec_l23Wrong_of0 {args : List AV} {h : Heap} {R : AV → Heap → Prop} {k : Nat} (ha : args.length = k) {orc : Orc} (hp : Pure Try.prog orc) (hk : Is (c_spec_l23Wrong_C orc) Try.f59 → Run2 (c_spec_l23Wrong_C orc) [.code c_spec_l23Wrong_23] (argEnv 0 args) h R) (hle : k ≤ 50 := by simp) : ACalls Try.prog 59 args h R :=
  contract20 [7, 8] c_spec_l23Wrong_23 [.tmp 4] Try.func59 (by decide +kernel) rfl (by kernel_rfl) (by rw [ha]; exact hle) (by kernel_rfl) hp hk
theorem l23Wrong_c (x : Ph) (p : List Int) (h : Heap) (hv : x.valid) (hp : vec p x.n x.m) : ACalls Try.prog 59 [.ip [.int .i64 x.n, .int .i64 x.m, .snap 3 (x.ts.map T.av)], .snap 1 (p.map iv)] h (fun v h' => v = .snap 1 ((x.wr p x.ts.length).map iv) ∧ h' = h) := by
  have hm1 := hv.2.2.1
  have hm2 := hv.2.2.2.1
  have hl := hv.2.2.2.2.2
  refine c_spec_l23Wrong_of rfl orcC_p fun I => ?_
  refine Run2.of I 1000 ?_
  simp -implicitDefEqProofs
  refine Run2.loopE (α := Nat × AV × Heap) (fun s => [(0, .ip [.int .i64 x.n, .int .i64 x.m, .snap 3 (x.ts.map T.av)]), (1, .snap 1 (p.map iv)), (5, s.2.1), (6, .int .i64 (s.1 : Nat))]) (fun s => s.2.2 ++ h) (fun s => x.ts.length - s.1) (fun s => s.1 ≤ x.ts.length ∧ Grow 1 s.2.1 ((x.wr p s.1).map iv) s.2.2) (0, .emp, []) (by simp) rfl ⟨Nat.zero_le _, by simpa [Ph.wr] using Grow.emp⟩ ?_
  rintro ⟨i, w, hp'⟩ ⟨hi, hg⟩ ih
  by_cases hlt : i < x.ts.length
  · obtain ⟨h1, h2, e1, e2, e3, e4, e5, e6, hb⟩ := Ph.ends hv hp hlt
    have hbi := bad_iff (a := p[x.ts[i].f.toNat]) (s := x.ts[i].s) e6
    have hw := x.wr_succ p hlt
    have hwl := x.wr_len p i
    have go := fun w' hp'' hg' => ih (i + 1, w', hp'') ⟨by simp; omega, hg'⟩ (by simp; omega)
    clear ih
    refine Run2.of I 1000 ?_
    simp -implicitDefEqProofs [hlt, h1, h2, e1, e2]
    repeat' (first | refine And.intro ?_ ?_ | intro _)
    all_goals first | omega | skip
    · rename_i hne
      refine Grow.app hg (by simp; omega) (by simp) fun w' hp'' hg' => ?_
      simp -implicitDefEqProofs
      rw [hb, if_pos (by simpa using fun h => hne (hbi.2 h))] at hw
      exact ⟨by omega, go w' hp'' (by rw [hw]; simpa using hg')⟩
    · rename_i hne
      rw [hb, if_neg (by simpa using hbi.1 hne), List.append_nil] at hw
      exact go w hp' (by rw [hw]; exact hg)
  · obtain rfl : i = x.ts.length := by simp at hi hlt; omega
    refine Run2.of I 1000 ?_
    simp -implicitDefEqProofs
    exact hg.froze (fun v => v) (fun _ _ _ => rfl) (fun _ _ h => h) (.base ⟨rfl, rfl⟩)
noncomputable def o_l23Wrong : List AV → Option (Prop × AV) := tab (fun (x : Int × Int × List T × List Int) => match x with | (n, m, ts, p) => [.ip [.int .i64 n, .int .i64 m, .snap 3 (ts.map T.av)], .snap 1 (p.map iv)]) (fun x => match x with | (n, m, ts, p) => (Ph.valid ⟨n, m, ts⟩ ∧ vec p n m)) (fun x => match x with | (n, m, ts, p) => .snap 1 ((Ph.wr ⟨n, m, ts⟩ p ts.length).map iv))
@[simp] theorem o_l23Wrong_e (n : Int) (m : Int) (ts : List T) (p : List Int) : o_l23Wrong [.ip [.int .i64 n, .int .i64 m, .snap 3 (ts.map T.av)], .snap 1 (p.map iv)] = some ((Ph.valid ⟨n, m, ts⟩ ∧ vec p n m), .snap 1 ((Ph.wr ⟨n, m, ts⟩ p ts.length).map iv)) := tab_at (enc := fun (x : Int × Int × List T × List Int) => match x with | (n, m, ts, p) => [.ip [.int .i64 n, .int .i64 m, .snap 3 (ts.map T.av)], .snap 1 (p.map iv)]) (fun x y h => by
  obtain ⟨n1, m1, ts1, p1⟩ := x; obtain ⟨n2, m2, ts2, p2⟩ := y; simp at h; simp [h]) _ _ (n, m, ts, p)
theorem o_l23Wrong_k : Knows Try.prog 59 o_l23Wrong := tab_knows fun x hx h => by
  obtain ⟨n, m, ts, p⟩ := x; exact l23Wrong_c ⟨n, m, ts⟩ p h hx.1 hx.2
noncomputable def orcC3 : List (Nat × (List AV → Option (Prop × AV))) := (59, o_l23Wrong) :: (58, o_l23List) :: orcC
theorem orcC3_p : Pure Try.prog (lk orcC3) := (lk_pure o_l23Wrong_k (lk_pure o_l23List_k orcC_p))
@[simp] theorem orcC3_l (g : FuncId) (l : List AV) : lk orcC3 g l = if g = 59 then o_l23Wrong l else if g = 58 then o_l23List l else lk orcC g l := nr rfl
/-- What ErrorsOf gives: a list and a code. -/
noncomputable def Ph.eres (x : Ph) (p : List Int) : List Int := if x.valid ∧ vec p x.n x.m then x.wr p x.ts.length else []
noncomputable def Ph.ecode (x : Ph) (p : List Int) : Int := if x.valid then (if vec p x.n x.m then 0 else 7) else 1
noncomputable def Ph.eav (x : Ph) (p : List Int) : AV := if x.valid ∧ vec p x.n x.m then .snap 1 ((x.wr p x.ts.length).map iv) else .nilsl
theorem Ph.eav_is (x : Ph) (p : List Int) : IsL iv 1 (x.eav p) (x.eres p) := by
  unfold Ph.eav Ph.eres
  split
  · exact .snap _
  · exact .nil
theorem Ph.valid_m {x : Ph} (h : x.valid) : 0 < x.m ∧ x.m ≤ 1073741824 := by
  have := h.2.2.1; have := h.2.2.2.1; omega
theorem Ph.eres_len (x : Ph) (p : List Int) : (x.eres p).length ≤ 24 := by
  unfold Ph.eres
  split
  · rename_i h
    exact Nat.le_trans (x.wr_len p _) h.1.2.2.2.2.2
  · simp
abbrev c_spec_ErrorsOf_o0 : List AJ := [.o ⟨(some 2), none, false, .box false 3 (.t 0), none⟩, .o ⟨(some 4), none, false, .mv (.c .nilsl), none⟩, .o ⟨(some 5), none, false, .mv (.c (.int .i64 0)), (some [1, 2])⟩]
def c_spec_ErrorsOf_0 : ACode := .region c_spec_ErrorsOf_o0
abbrev c_spec_ErrorsOf_o1 : List AJ := [.o ⟨(some 6), none, false, .call 49 [(.t 2)], none⟩, .o ⟨(some 7), none, false, .un .not (.t 6), (some [1, 2, 7])⟩]
def c_spec_ErrorsOf_1 : ACode := .region c_spec_ErrorsOf_o1
abbrev c_spec_ErrorsOf_o2 : List AJ := [.o ⟨(some 4), none, false, .mv (.c .nilsl), none⟩, .o ⟨(some 5), none, false, .mv (.c (.int .i64 1)), (some [4, 5])⟩]
def c_spec_ErrorsOf_2 : ACode := .region c_spec_ErrorsOf_o2
def c_spec_ErrorsOf_3 : ACode := .seq c_spec_ErrorsOf_2 .ret
def c_spec_ErrorsOf_4 : ACode := .cond (.t 7) c_spec_ErrorsOf_3 .skip
def c_spec_ErrorsOf_5 : ACode := .seq c_spec_ErrorsOf_1 c_spec_ErrorsOf_4
abbrev c_spec_ErrorsOf_o3 : List AJ := [.o ⟨(some 8), none, false, .mv (.t 1), none⟩, .o ⟨(some 9), none, false, .call 58 [(.t 2), (.t 8)], none⟩, .o ⟨(some 10), none, false, .un .not (.t 9), (some [1, 2, 10])⟩]
def c_spec_ErrorsOf_6 : ACode := .region c_spec_ErrorsOf_o3
abbrev c_spec_ErrorsOf_o4 : List AJ := [.o ⟨(some 4), none, false, .mv (.c .nilsl), none⟩, .o ⟨(some 5), none, false, .mv (.c (.int .i64 7)), (some [4, 5])⟩]
def c_spec_ErrorsOf_7 : ACode := .region c_spec_ErrorsOf_o4
def c_spec_ErrorsOf_8 : ACode := .seq c_spec_ErrorsOf_7 .ret
def c_spec_ErrorsOf_9 : ACode := .cond (.t 10) c_spec_ErrorsOf_8 .skip
def c_spec_ErrorsOf_10 : ACode := .seq c_spec_ErrorsOf_6 c_spec_ErrorsOf_9
abbrev c_spec_ErrorsOf_o5 : List AJ := [.o ⟨(some 11), none, false, .mv (.t 1), none⟩, .o ⟨(some 12), none, false, .call 59 [(.t 2), (.t 11)], none⟩, .o ⟨(some 4), none, false, .mv (.t 12), none⟩, .o ⟨(some 5), none, false, .mv (.c (.int .i64 0)), (some [4, 5])⟩]
def c_spec_ErrorsOf_11 : ACode := .region c_spec_ErrorsOf_o5
def c_spec_ErrorsOf_12 : ACode := .seq c_spec_ErrorsOf_11 .ret
def c_spec_ErrorsOf_13 : ACode := .seq c_spec_ErrorsOf_10 c_spec_ErrorsOf_12
def c_spec_ErrorsOf_14 : ACode := .seq c_spec_ErrorsOf_5 c_spec_ErrorsOf_13
def c_spec_ErrorsOf_15 : ACode := .seq c_spec_ErrorsOf_0 c_spec_ErrorsOf_14
section
variable (C : Cx) (n : Nat) (sk : List AItem) (e : Env) (h : Heap) (R : AV → Heap → Prop)
@[simp, simp ↓] theorem c_spec_ErrorsOf_0_r : vc2 C (n + 1) [] (.code c_spec_ErrorsOf_0 :: sk) e h R = (vc2 C n c_spec_ErrorsOf_o0 sk e h R) := nr rfl
@[simp, simp ↓] theorem c_spec_ErrorsOf_1_r : vc2 C (n + 1) [] (.code c_spec_ErrorsOf_1 :: sk) e h R = (vc2 C n c_spec_ErrorsOf_o1 sk e h R) := nr rfl
@[simp, simp ↓] theorem c_spec_ErrorsOf_2_r : vc2 C (n + 1) [] (.code c_spec_ErrorsOf_2 :: sk) e h R = (vc2 C n c_spec_ErrorsOf_o2 sk e h R) := nr rfl
@[simp, simp ↓] theorem c_spec_ErrorsOf_3_r : vc2 C (n + 1) [] (.code c_spec_ErrorsOf_3 :: sk) e h R = (vc2 C n [] (.code c_spec_ErrorsOf_2 :: .code .ret :: sk) e h R) := nr rfl
@[simp, simp ↓] theorem c_spec_ErrorsOf_4_r : vc2 C (n + 1) [] (.code c_spec_ErrorsOf_4 :: sk) e h R = (condK (ev e (.t 7)) (vc2 C n [] (.code c_spec_ErrorsOf_3 :: sk) e h R) (vc2 C n [] (.code .skip :: sk) e h R)) := nr rfl
@[simp, simp ↓] theorem c_spec_ErrorsOf_5_r : vc2 C (n + 1) [] (.code c_spec_ErrorsOf_5 :: sk) e h R = (vc2 C n [] (.code c_spec_ErrorsOf_1 :: .code c_spec_ErrorsOf_4 :: sk) e h R) := nr rfl
@[simp, simp ↓] theorem c_spec_ErrorsOf_6_r : vc2 C (n + 1) [] (.code c_spec_ErrorsOf_6 :: sk) e h R = (vc2 C n c_spec_ErrorsOf_o3 sk e h R) := nr rfl
@[simp, simp ↓] theorem c_spec_ErrorsOf_7_r : vc2 C (n + 1) [] (.code c_spec_ErrorsOf_7 :: sk) e h R = (vc2 C n c_spec_ErrorsOf_o4 sk e h R) := nr rfl
@[simp, simp ↓] theorem c_spec_ErrorsOf_8_r : vc2 C (n + 1) [] (.code c_spec_ErrorsOf_8 :: sk) e h R = (vc2 C n [] (.code c_spec_ErrorsOf_7 :: .code .ret :: sk) e h R) := nr rfl
@[simp, simp ↓] theorem c_spec_ErrorsOf_9_r : vc2 C (n + 1) [] (.code c_spec_ErrorsOf_9 :: sk) e h R = (condK (ev e (.t 10)) (vc2 C n [] (.code c_spec_ErrorsOf_8 :: sk) e h R) (vc2 C n [] (.code .skip :: sk) e h R)) := nr rfl
@[simp, simp ↓] theorem c_spec_ErrorsOf_10_r : vc2 C (n + 1) [] (.code c_spec_ErrorsOf_10 :: sk) e h R = (vc2 C n [] (.code c_spec_ErrorsOf_6 :: .code c_spec_ErrorsOf_9 :: sk) e h R) := nr rfl
@[simp, simp ↓] theorem c_spec_ErrorsOf_11_r : vc2 C (n + 1) [] (.code c_spec_ErrorsOf_11 :: sk) e h R = (vc2 C n c_spec_ErrorsOf_o5 sk e h R) := nr rfl
@[simp, simp ↓] theorem c_spec_ErrorsOf_12_r : vc2 C (n + 1) [] (.code c_spec_ErrorsOf_12 :: sk) e h R = (vc2 C n [] (.code c_spec_ErrorsOf_11 :: .code .ret :: sk) e h R) := nr rfl
@[simp, simp ↓] theorem c_spec_ErrorsOf_13_r : vc2 C (n + 1) [] (.code c_spec_ErrorsOf_13 :: sk) e h R = (vc2 C n [] (.code c_spec_ErrorsOf_10 :: .code c_spec_ErrorsOf_12 :: sk) e h R) := nr rfl
@[simp, simp ↓] theorem c_spec_ErrorsOf_14_r : vc2 C (n + 1) [] (.code c_spec_ErrorsOf_14 :: sk) e h R = (vc2 C n [] (.code c_spec_ErrorsOf_5 :: .code c_spec_ErrorsOf_13 :: sk) e h R) := nr rfl
@[simp, simp ↓] theorem c_spec_ErrorsOf_15_r : vc2 C (n + 1) [] (.code c_spec_ErrorsOf_15 :: sk) e h R = (vc2 C n [] (.code c_spec_ErrorsOf_0 :: .code c_spec_ErrorsOf_14 :: sk) e h R) := nr rfl
end
noncomputable def c_spec_ErrorsOf_C (orc : Orc) : Cx := ⟨Try.prog, [], 27, 13, [.tmp 4, .tmp 5], orc⟩
@[simp] theorem c_spec_ErrorsOf_C_P (orc : Orc) : (c_spec_ErrorsOf_C orc).P = Try.prog := nr rfl
@[simp] theorem c_spec_ErrorsOf_C_o (orc : Orc) : (c_spec_ErrorsOf_C orc).orc = orc := nr rfl
@[simp] theorem c_spec_ErrorsOf_C_r (orc : Orc) : (c_spec_ErrorsOf_C orc).res = [.tmp 4, .tmp 5] := nr rfl
theorem c_spec_ErrorsOf_of {args : List AV} {h : Heap} {R : AV → Heap → Prop} {k : Nat} (ha : args.length = k) {orc : Orc} (hp : Pure Try.prog orc) (hk : Is (c_spec_ErrorsOf_C orc) Try.f27 → Run2 (c_spec_ErrorsOf_C orc) [.code c_spec_ErrorsOf_15] (argEnv 0 args) h (Post R)) (hle : k ≤ 13 := by simp) : ACalls Try.prog 27 args h R :=
  contract2 [] c_spec_ErrorsOf_15 [.tmp 4, .tmp 5] Try.func27 (by decide +kernel) rfl (by kernel_rfl) (by rw [ha]; exact hle) (by kernel_rfl) hp hk
theorem c_spec_ErrorsOf_of0 {args : List AV} {h : Heap} {R : AV → Heap → Prop} {k : Nat} (ha : args.length = k) {orc : Orc} (hp : Pure Try.prog orc) (hk : Is (c_spec_ErrorsOf_C orc) Try.f27 → Run2 (c_spec_ErrorsOf_C orc) [.code c_spec_ErrorsOf_15] (argEnv 0 args) h R) (hle : k ≤ 13 := by simp) : ACalls Try.prog 27 args h R :=
  contract20 [] c_spec_ErrorsOf_15 [.tmp 4, .tmp 5] Try.func27 (by decide +kernel) rfl (by kernel_rfl) (by rw [ha]; exact hle) (by kernel_rfl) hp hk
theorem specErrors_c (x : Ph) (p : List Int) (h : Heap) (ok : x.ok) (hl : x.ts.length ≤ 1048576) (hp : p.length ≤ 1048576) : ACalls Try.prog 27 [x.av, .snap 1 (p.map iv)] h (fun v h' => v = .tup [x.eav p, .int .i64 (x.ecode p)] ∧ h' = h) := by
  refine c_spec_ErrorsOf_of0 rfl orcC3_p fun I => ?_
  refine Run2.of I 1000 ?_
  simp -implicitDefEqProofs [ok, hl, hp]
  unfold Ph.eav Ph.ecode
  refine ⟨fun h => by simp [h], fun h => ⟨Ph.valid_m h, fun h2 => by simp [h, h2], fun h2 => ⟨⟨h, h2⟩, by simp [h, h2]⟩⟩⟩
abbrev c_spec_IsPotential_o0 : List AJ := [.o ⟨(some 2), none, false, .box false 3 (.t 0), none⟩, .o ⟨(some 4), none, false, .mv (.c (.bool false)), (some [1, 2])⟩]
def c_spec_IsPotential_0 : ACode := .region c_spec_IsPotential_o0
abbrev c_spec_IsPotential_o1 : List AJ := [.o ⟨(some 5), none, false, .call 49 [(.t 2)], none⟩, .o ⟨(some 6), none, false, .mv (.t 5), none⟩, .o ⟨(some 7), (some (6, true)), false, .mv (.t 1), none⟩, .o ⟨(some 8), (some (6, true)), false, .call 58 [(.t 2), (.t 7)], none⟩, .o ⟨(some 9), none, false, .pick (.t 6) (.t 8) (.c (.bool false)), none⟩, .o ⟨(some 10), none, false, .mv (.t 9), none⟩, .o ⟨(some 11), (some (10, true)), false, .mv (.t 1), none⟩, .o ⟨(some 12), (some (10, true)), false, .call 59 [(.t 2), (.t 11)], none⟩, .o ⟨(some 13), (some (10, true)), false, .len (.t 12), (some [10, 13])⟩, .o ⟨(some 14), (some (10, true)), false, .bin .eql (.t 13) (.c (.int .i64 0)), none⟩, .o ⟨(some 15), none, false, .pick (.t 10) (.t 14) (.c (.bool false)), none⟩, .o ⟨(some 4), none, false, .mv (.t 15), (some [4])⟩]
def c_spec_IsPotential_1 : ACode := .region c_spec_IsPotential_o1
def c_spec_IsPotential_2 : ACode := .seq c_spec_IsPotential_1 .ret
def c_spec_IsPotential_3 : ACode := .seq c_spec_IsPotential_0 c_spec_IsPotential_2
section
variable (C : Cx) (n : Nat) (sk : List AItem) (e : Env) (h : Heap) (R : AV → Heap → Prop)
@[simp, simp ↓] theorem c_spec_IsPotential_0_r : vc2 C (n + 1) [] (.code c_spec_IsPotential_0 :: sk) e h R = (vc2 C n c_spec_IsPotential_o0 sk e h R) := nr rfl
@[simp, simp ↓] theorem c_spec_IsPotential_1_r : vc2 C (n + 1) [] (.code c_spec_IsPotential_1 :: sk) e h R = (vc2 C n c_spec_IsPotential_o1 sk e h R) := nr rfl
@[simp, simp ↓] theorem c_spec_IsPotential_2_r : vc2 C (n + 1) [] (.code c_spec_IsPotential_2 :: sk) e h R = (vc2 C n [] (.code c_spec_IsPotential_1 :: .code .ret :: sk) e h R) := nr rfl
@[simp, simp ↓] theorem c_spec_IsPotential_3_r : vc2 C (n + 1) [] (.code c_spec_IsPotential_3 :: sk) e h R = (vc2 C n [] (.code c_spec_IsPotential_0 :: .code c_spec_IsPotential_2 :: sk) e h R) := nr rfl
end
noncomputable def c_spec_IsPotential_C (orc : Orc) : Cx := ⟨Try.prog, [], 25, 16, [.tmp 4], orc⟩
@[simp] theorem c_spec_IsPotential_C_P (orc : Orc) : (c_spec_IsPotential_C orc).P = Try.prog := nr rfl
@[simp] theorem c_spec_IsPotential_C_o (orc : Orc) : (c_spec_IsPotential_C orc).orc = orc := nr rfl
@[simp] theorem c_spec_IsPotential_C_r (orc : Orc) : (c_spec_IsPotential_C orc).res = [.tmp 4] := nr rfl
theorem c_spec_IsPotential_of {args : List AV} {h : Heap} {R : AV → Heap → Prop} {k : Nat} (ha : args.length = k) {orc : Orc} (hp : Pure Try.prog orc) (hk : Is (c_spec_IsPotential_C orc) Try.f25 → Run2 (c_spec_IsPotential_C orc) [.code c_spec_IsPotential_3] (argEnv 0 args) h (Post R)) (hle : k ≤ 16 := by simp) : ACalls Try.prog 25 args h R :=
  contract2 [] c_spec_IsPotential_3 [.tmp 4] Try.func25 (by decide +kernel) rfl (by kernel_rfl) (by rw [ha]; exact hle) (by kernel_rfl) hp hk
theorem c_spec_IsPotential_of0 {args : List AV} {h : Heap} {R : AV → Heap → Prop} {k : Nat} (ha : args.length = k) {orc : Orc} (hp : Pure Try.prog orc) (hk : Is (c_spec_IsPotential_C orc) Try.f25 → Run2 (c_spec_IsPotential_C orc) [.code c_spec_IsPotential_3] (argEnv 0 args) h R) (hle : k ≤ 16 := by simp) : ACalls Try.prog 25 args h R :=
  contract20 [] c_spec_IsPotential_3 [.tmp 4] Try.func25 (by decide +kernel) rfl (by kernel_rfl) (by rw [ha]; exact hle) (by kernel_rfl) hp hk
theorem specIsPot_c (x : Ph) (p : List Int) (h : Heap) (ok : x.ok) (hl : x.ts.length ≤ 1048576) (hp : p.length ≤ 1048576) : ACalls Try.prog 25 [x.av, .snap 1 (p.map iv)] h (fun v h' => v = .bool (decide (x.valid ∧ vec p x.n x.m ∧ x.wr p x.ts.length = [])) ∧ h' = h) := by
  refine c_spec_IsPotential_of0 rfl orcC3_p fun I => ?_
  refine Run2.of I 1000 ?_
  simp -implicitDefEqProofs [ok, hl, hp]
  refine ⟨fun h => ⟨Ph.valid_m h, fun h2 => ⟨⟨h, h2⟩, by simp [h, h2]⟩, fun h2 _ h3 => absurd h3 h2⟩, fun h h2 => absurd h2 h⟩
/-! ## The program's functions -/
abbrev c_impl_size_int64_o0 : List AJ := [.o ⟨(some 2), none, false, .mv (.c (.int .i64 0)), (some [0])⟩]
def c_impl_size_int64_0 : ACode := .region c_impl_size_int64_o0
abbrev c_impl_size_int64_o1 : List AJ := [.o ⟨(some 3), none, false, .mv (.t 0), none⟩, .o ⟨(some 4), none, false, .len (.t 3), none⟩, .o ⟨(some 2), none, false, .mv (.t 4), (some [2])⟩]
def c_impl_size_int64_1 : ACode := .region c_impl_size_int64_o1
def c_impl_size_int64_2 : ACode := .seq c_impl_size_int64_1 .ret
def c_impl_size_int64_3 : ACode := .seq c_impl_size_int64_0 c_impl_size_int64_2
section
variable (C : Cx) (n : Nat) (sk : List AItem) (e : Env) (h : Heap) (R : AV → Heap → Prop)
@[simp, simp ↓] theorem c_impl_size_int64_0_r : vc2 C (n + 1) [] (.code c_impl_size_int64_0 :: sk) e h R = (vc2 C n c_impl_size_int64_o0 sk e h R) := nr rfl
@[simp, simp ↓] theorem c_impl_size_int64_1_r : vc2 C (n + 1) [] (.code c_impl_size_int64_1 :: sk) e h R = (vc2 C n c_impl_size_int64_o1 sk e h R) := nr rfl
@[simp, simp ↓] theorem c_impl_size_int64_2_r : vc2 C (n + 1) [] (.code c_impl_size_int64_2 :: sk) e h R = (vc2 C n [] (.code c_impl_size_int64_1 :: .code .ret :: sk) e h R) := nr rfl
@[simp, simp ↓] theorem c_impl_size_int64_3_r : vc2 C (n + 1) [] (.code c_impl_size_int64_3 :: sk) e h R = (vc2 C n [] (.code c_impl_size_int64_0 :: .code c_impl_size_int64_2 :: sk) e h R) := nr rfl
end
noncomputable def c_impl_size_int64_C (orc : Orc) : Cx := ⟨Try.prog, [], 99, 5, [.tmp 2], orc⟩
@[simp] theorem c_impl_size_int64_C_P (orc : Orc) : (c_impl_size_int64_C orc).P = Try.prog := nr rfl
@[simp] theorem c_impl_size_int64_C_o (orc : Orc) : (c_impl_size_int64_C orc).orc = orc := nr rfl
@[simp] theorem c_impl_size_int64_C_r (orc : Orc) : (c_impl_size_int64_C orc).res = [.tmp 2] := nr rfl
theorem c_impl_size_int64_of {args : List AV} {h : Heap} {R : AV → Heap → Prop} {k : Nat} (ha : args.length = k) {orc : Orc} (hp : Pure Try.prog orc) (hk : Is (c_impl_size_int64_C orc) Try.f99 → Run2 (c_impl_size_int64_C orc) [.code c_impl_size_int64_3] (argEnv 0 args) h (Post R)) (hle : k ≤ 5 := by simp) : ACalls Try.prog 99 args h R :=
  contract2 [] c_impl_size_int64_3 [.tmp 2] Try.func99 (by decide +kernel) rfl (by kernel_rfl) (by rw [ha]; exact hle) (by kernel_rfl) hp hk
theorem c_impl_size_int64_of0 {args : List AV} {h : Heap} {R : AV → Heap → Prop} {k : Nat} (ha : args.length = k) {orc : Orc} (hp : Pure Try.prog orc) (hk : Is (c_impl_size_int64_C orc) Try.f99 → Run2 (c_impl_size_int64_C orc) [.code c_impl_size_int64_3] (argEnv 0 args) h R) (hle : k ≤ 5 := by simp) : ACalls Try.prog 99 args h R :=
  contract20 [] c_impl_size_int64_3 [.tmp 2] Try.func99 (by decide +kernel) rfl (by kernel_rfl) (by rw [ha]; exact hle) (by kernel_rfl) hp hk
theorem size_c (u : AV) (h : Heap) (hu : isInts u) (hl : (intsOf u).length ≤ 1048576) : ACalls Try.prog 99 [u] h (fun v h' => v = .int .i64 (intsOf u).length ∧ h' = h) := by
  refine ACalls.wk (.cons (.ints hu) .nil) ?_
  refine c_impl_size_int64_of0 rfl noPure fun I => ?_
  refine Run2.of I 1000 ?_
  simp -implicitDefEqProofs
noncomputable def o_size : List AV → Option (Prop × AV) := tab (fun (x : AV) => match x with | u => [u]) (fun x => match x with | u => (isInts u ∧ (intsOf u).length ≤ 1048576)) (fun x => match x with | u => .int .i64 (intsOf u).length)
@[simp] theorem o_size_e (u : AV) : o_size [u] = some ((isInts u ∧ (intsOf u).length ≤ 1048576), .int .i64 (intsOf u).length) := tab_at (enc := fun (x : AV) => match x with | u => [u]) (fun x y h => by
  simp at h; simp [h]) _ _ u
theorem o_size_k : Knows Try.prog 99 o_size := tab_knows fun x hx h => by
  exact size_c x h hx.1 hx.2
abbrev c_impl_areElements_1_o0 : List AJ := [.o ⟨(some 3), none, false, .mv (.c (.bool false)), (some [0, 1])⟩]
def c_impl_areElements_1_0 : ACode := .region c_impl_areElements_1_o0
abbrev c_impl_areElements_1_o1 : List AJ := [.o ⟨(some 4), none, false, .mv (.t 0), none⟩, .o ⟨(some 5), none, false, .load 1 false (.t 1), none⟩, .o ⟨(some 6), none, false, .call 50 [(.t 4), (.t 5)], none⟩, .o ⟨(some 7), none, false, .un .not (.t 6), none⟩, .o ⟨(some 3), none, false, .mv (.t 7), (some [3])⟩]
def c_impl_areElements_1_1 : ACode := .region c_impl_areElements_1_o1
def c_impl_areElements_1_2 : ACode := .seq c_impl_areElements_1_1 .ret
def c_impl_areElements_1_3 : ACode := .seq c_impl_areElements_1_0 c_impl_areElements_1_2
section
variable (C : Cx) (n : Nat) (sk : List AItem) (e : Env) (h : Heap) (R : AV → Heap → Prop)
@[simp, simp ↓] theorem c_impl_areElements_1_0_r : vc2 C (n + 1) [] (.code c_impl_areElements_1_0 :: sk) e h R = (vc2 C n c_impl_areElements_1_o0 sk e h R) := nr rfl
@[simp, simp ↓] theorem c_impl_areElements_1_1_r : vc2 C (n + 1) [] (.code c_impl_areElements_1_1 :: sk) e h R = (vc2 C n c_impl_areElements_1_o1 sk e h R) := nr rfl
@[simp, simp ↓] theorem c_impl_areElements_1_2_r : vc2 C (n + 1) [] (.code c_impl_areElements_1_2 :: sk) e h R = (vc2 C n [] (.code c_impl_areElements_1_1 :: .code .ret :: sk) e h R) := nr rfl
@[simp, simp ↓] theorem c_impl_areElements_1_3_r : vc2 C (n + 1) [] (.code c_impl_areElements_1_3 :: sk) e h R = (vc2 C n [] (.code c_impl_areElements_1_0 :: .code c_impl_areElements_1_2 :: sk) e h R) := nr rfl
end
noncomputable def c_impl_areElements_1_C (orc : Orc) : Cx := ⟨Try.prog, [], 91, 8, [.tmp 3], orc⟩
@[simp] theorem c_impl_areElements_1_C_P (orc : Orc) : (c_impl_areElements_1_C orc).P = Try.prog := nr rfl
@[simp] theorem c_impl_areElements_1_C_o (orc : Orc) : (c_impl_areElements_1_C orc).orc = orc := nr rfl
@[simp] theorem c_impl_areElements_1_C_r (orc : Orc) : (c_impl_areElements_1_C orc).res = [.tmp 3] := nr rfl
theorem c_impl_areElements_1_of {args : List AV} {h : Heap} {R : AV → Heap → Prop} {k : Nat} (ha : args.length = k) {orc : Orc} (hp : Pure Try.prog orc) (hk : Is (c_impl_areElements_1_C orc) Try.f91 → Run2 (c_impl_areElements_1_C orc) [.code c_impl_areElements_1_3] (argEnv 0 args) h (Post R)) (hle : k ≤ 8 := by simp) : ACalls Try.prog 91 args h R :=
  contract2 [] c_impl_areElements_1_3 [.tmp 3] Try.func91 (by decide +kernel) rfl (by kernel_rfl) (by rw [ha]; exact hle) (by kernel_rfl) hp hk
theorem c_impl_areElements_1_of0 {args : List AV} {h : Heap} {R : AV → Heap → Prop} {k : Nat} (ha : args.length = k) {orc : Orc} (hp : Pure Try.prog orc) (hk : Is (c_impl_areElements_1_C orc) Try.f91 → Run2 (c_impl_areElements_1_C orc) [.code c_impl_areElements_1_3] (argEnv 0 args) h R) (hle : k ≤ 8 := by simp) : ACalls Try.prog 91 args h R :=
  contract20 [] c_impl_areElements_1_3 [.tmp 3] Try.func91 (by decide +kernel) rfl (by kernel_rfl) (by rw [ha]; exact hle) (by kernel_rfl) hp hk
theorem areElements1_c (a p : Int) (h : Heap) (hp : 0 < p ∧ p ≤ 1073741824) : ACalls Try.prog 91 [.int .i64 a, .ip [.int .i64 p]] h (fun v h' => v = .bool (!decide (0 ≤ a ∧ a < p)) ∧ h' = h) := by
  refine c_impl_areElements_1_of0 rfl orc2_p fun I => ?_
  refine Run2.of I 1000 ?_
  simp -implicitDefEqProofs [wrap_m1 (n := p) (by omega)]
  grind
abbrev c_slices_IndexFunc_int64_int64_o0 : List AJ := [.o ⟨(some 4), none, false, .mv (.c (.int .i64 0)), (some [0, 1])⟩]
def c_slices_IndexFunc_int64_int64_0 : ACode := .region c_slices_IndexFunc_int64_int64_o0
abbrev c_slices_IndexFunc_int64_int64_o1 : List AJ := [.o ⟨(some 6), none, false, .mv (.t 0), none⟩, .o ⟨(some 7), none, false, .len (.t 6), none⟩, .o ⟨(some 8), none, false, .mv (.c (.int .i64 0)), (some [0, 1, 7, 8])⟩]
def c_slices_IndexFunc_int64_int64_1 : ACode := .region c_slices_IndexFunc_int64_int64_o1
abbrev c_slices_IndexFunc_int64_int64_o2 : List AJ := [.o ⟨(some 9), none, false, .bin .lss (.t 8) (.t 7), (some [0, 1, 7, 8, 9])⟩]
def c_slices_IndexFunc_int64_int64_2 : ACode := .region c_slices_IndexFunc_int64_int64_o2
def c_slices_IndexFunc_int64_int64_3 : ACode := .cond (.t 9) .skip (.exit 0)
abbrev c_slices_IndexFunc_int64_int64_o3 : List AJ := [.o ⟨(some 10), none, false, .mv (.t 8), none⟩, .o ⟨(some 5), none, false, .mv (.t 10), (some [0, 1, 5, 7, 8])⟩]
def c_slices_IndexFunc_int64_int64_4 : ACode := .region c_slices_IndexFunc_int64_int64_o3
abbrev c_slices_IndexFunc_int64_int64_o4 : List AJ := [.o ⟨(some 11), none, false, .mv (.t 1), none⟩, .o ⟨(some 12), none, false, .mv (.t 0), none⟩, .o ⟨(some 13), none, false, .mv (.t 5), none⟩, .o ⟨(some 14), none, false, .idxA 1 (.t 12) (.t 13), none⟩, .o ⟨(some 15), none, false, .load 1 false (.t 14), none⟩, .o ⟨(some 16), none, false, .callv (.t 11) [(.t 15)], (some [0, 1, 5, 7, 8, 16])⟩]
def c_slices_IndexFunc_int64_int64_5 : ACode := .region c_slices_IndexFunc_int64_int64_o4
abbrev c_slices_IndexFunc_int64_int64_o5 : List AJ := [.o ⟨(some 17), none, false, .mv (.t 5), none⟩, .o ⟨(some 4), none, false, .mv (.t 17), (some [4])⟩]
def c_slices_IndexFunc_int64_int64_6 : ACode := .region c_slices_IndexFunc_int64_int64_o5
def c_slices_IndexFunc_int64_int64_7 : ACode := .seq c_slices_IndexFunc_int64_int64_6 .ret
def c_slices_IndexFunc_int64_int64_8 : ACode := .cond (.t 16) c_slices_IndexFunc_int64_int64_7 .skip
def c_slices_IndexFunc_int64_int64_9 : ACode := .seq c_slices_IndexFunc_int64_int64_5 c_slices_IndexFunc_int64_int64_8
def c_slices_IndexFunc_int64_int64_10 : ACode := .seq c_slices_IndexFunc_int64_int64_4 c_slices_IndexFunc_int64_int64_9
def c_slices_IndexFunc_int64_int64_11 : ACode := .block 1 c_slices_IndexFunc_int64_int64_10
abbrev c_slices_IndexFunc_int64_int64_o6 : List AJ := [.o ⟨(some 18), none, true, .bin .add (.t 8) (.c (.int .i64 1)), none⟩, .o ⟨(some 8), none, false, .mv (.t 18), (some [0, 1, 7, 8])⟩]
def c_slices_IndexFunc_int64_int64_12 : ACode := .region c_slices_IndexFunc_int64_int64_o6
def c_slices_IndexFunc_int64_int64_13 : ACode := .seq c_slices_IndexFunc_int64_int64_11 c_slices_IndexFunc_int64_int64_12
def c_slices_IndexFunc_int64_int64_14 : ACode := .seq c_slices_IndexFunc_int64_int64_3 c_slices_IndexFunc_int64_int64_13
def c_slices_IndexFunc_int64_int64_15 : ACode := .seq c_slices_IndexFunc_int64_int64_2 c_slices_IndexFunc_int64_int64_14
def c_slices_IndexFunc_int64_int64_16 : ACode := .loop c_slices_IndexFunc_int64_int64_15
def c_slices_IndexFunc_int64_int64_17 : ACode := .block 0 c_slices_IndexFunc_int64_int64_16
def c_slices_IndexFunc_int64_int64_18 : ACode := .seq c_slices_IndexFunc_int64_int64_1 c_slices_IndexFunc_int64_int64_17
abbrev c_slices_IndexFunc_int64_int64_o7 : List AJ := [.o ⟨(some 4), none, false, .mv (.c (.int .i64 (-1))), (some [4])⟩]
def c_slices_IndexFunc_int64_int64_19 : ACode := .region c_slices_IndexFunc_int64_int64_o7
def c_slices_IndexFunc_int64_int64_20 : ACode := .seq c_slices_IndexFunc_int64_int64_19 .ret
def c_slices_IndexFunc_int64_int64_21 : ACode := .seq c_slices_IndexFunc_int64_int64_18 c_slices_IndexFunc_int64_int64_20
def c_slices_IndexFunc_int64_int64_22 : ACode := .seq c_slices_IndexFunc_int64_int64_0 c_slices_IndexFunc_int64_int64_21
section
variable (C : Cx) (n : Nat) (sk : List AItem) (e : Env) (h : Heap) (R : AV → Heap → Prop)
@[simp, simp ↓] theorem c_slices_IndexFunc_int64_int64_0_r : vc2 C (n + 1) [] (.code c_slices_IndexFunc_int64_int64_0 :: sk) e h R = (vc2 C n c_slices_IndexFunc_int64_int64_o0 sk e h R) := nr rfl
@[simp, simp ↓] theorem c_slices_IndexFunc_int64_int64_1_r : vc2 C (n + 1) [] (.code c_slices_IndexFunc_int64_int64_1 :: sk) e h R = (vc2 C n c_slices_IndexFunc_int64_int64_o1 sk e h R) := nr rfl
@[simp, simp ↓] theorem c_slices_IndexFunc_int64_int64_2_r : vc2 C (n + 1) [] (.code c_slices_IndexFunc_int64_int64_2 :: sk) e h R = (vc2 C n c_slices_IndexFunc_int64_int64_o2 sk e h R) := nr rfl
@[simp, simp ↓] theorem c_slices_IndexFunc_int64_int64_3_r : vc2 C (n + 1) [] (.code c_slices_IndexFunc_int64_int64_3 :: sk) e h R = (condK (ev e (.t 9)) (vc2 C n [] (.code .skip :: sk) e h R) (vc2 C n [] (.code (.exit 0) :: sk) e h R)) := nr rfl
@[simp, simp ↓] theorem c_slices_IndexFunc_int64_int64_4_r : vc2 C (n + 1) [] (.code c_slices_IndexFunc_int64_int64_4 :: sk) e h R = (vc2 C n c_slices_IndexFunc_int64_int64_o3 sk e h R) := nr rfl
@[simp, simp ↓] theorem c_slices_IndexFunc_int64_int64_5_r : vc2 C (n + 1) [] (.code c_slices_IndexFunc_int64_int64_5 :: sk) e h R = (vc2 C n c_slices_IndexFunc_int64_int64_o4 sk e h R) := nr rfl
@[simp, simp ↓] theorem c_slices_IndexFunc_int64_int64_6_r : vc2 C (n + 1) [] (.code c_slices_IndexFunc_int64_int64_6 :: sk) e h R = (vc2 C n c_slices_IndexFunc_int64_int64_o5 sk e h R) := nr rfl
@[simp, simp ↓] theorem c_slices_IndexFunc_int64_int64_7_r : vc2 C (n + 1) [] (.code c_slices_IndexFunc_int64_int64_7 :: sk) e h R = (vc2 C n [] (.code c_slices_IndexFunc_int64_int64_6 :: .code .ret :: sk) e h R) := nr rfl
@[simp, simp ↓] theorem c_slices_IndexFunc_int64_int64_8_r : vc2 C (n + 1) [] (.code c_slices_IndexFunc_int64_int64_8 :: sk) e h R = (condK (ev e (.t 16)) (vc2 C n [] (.code c_slices_IndexFunc_int64_int64_7 :: sk) e h R) (vc2 C n [] (.code .skip :: sk) e h R)) := nr rfl
@[simp, simp ↓] theorem c_slices_IndexFunc_int64_int64_9_r : vc2 C (n + 1) [] (.code c_slices_IndexFunc_int64_int64_9 :: sk) e h R = (vc2 C n [] (.code c_slices_IndexFunc_int64_int64_5 :: .code c_slices_IndexFunc_int64_int64_8 :: sk) e h R) := nr rfl
@[simp, simp ↓] theorem c_slices_IndexFunc_int64_int64_10_r : vc2 C (n + 1) [] (.code c_slices_IndexFunc_int64_int64_10 :: sk) e h R = (vc2 C n [] (.code c_slices_IndexFunc_int64_int64_4 :: .code c_slices_IndexFunc_int64_int64_9 :: sk) e h R) := nr rfl
@[simp, simp ↓] theorem c_slices_IndexFunc_int64_int64_11_r : vc2 C (n + 1) [] (.code c_slices_IndexFunc_int64_int64_11 :: sk) e h R = (vc2 C n [] (.code c_slices_IndexFunc_int64_int64_10 :: .inBlock 1 :: sk) e h R) := nr rfl
@[simp, simp ↓] theorem c_slices_IndexFunc_int64_int64_12_r : vc2 C (n + 1) [] (.code c_slices_IndexFunc_int64_int64_12 :: sk) e h R = (vc2 C n c_slices_IndexFunc_int64_int64_o6 sk e h R) := nr rfl
@[simp, simp ↓] theorem c_slices_IndexFunc_int64_int64_13_r : vc2 C (n + 1) [] (.code c_slices_IndexFunc_int64_int64_13 :: sk) e h R = (vc2 C n [] (.code c_slices_IndexFunc_int64_int64_11 :: .code c_slices_IndexFunc_int64_int64_12 :: sk) e h R) := nr rfl
@[simp, simp ↓] theorem c_slices_IndexFunc_int64_int64_14_r : vc2 C (n + 1) [] (.code c_slices_IndexFunc_int64_int64_14 :: sk) e h R = (vc2 C n [] (.code c_slices_IndexFunc_int64_int64_3 :: .code c_slices_IndexFunc_int64_int64_13 :: sk) e h R) := nr rfl
@[simp, simp ↓] theorem c_slices_IndexFunc_int64_int64_15_r : vc2 C (n + 1) [] (.code c_slices_IndexFunc_int64_int64_15 :: sk) e h R = (vc2 C n [] (.code c_slices_IndexFunc_int64_int64_2 :: .code c_slices_IndexFunc_int64_int64_14 :: sk) e h R) := nr rfl
@[simp, simp ↓] theorem c_slices_IndexFunc_int64_int64_16_r : vc2 C (n + 1) [] (.code c_slices_IndexFunc_int64_int64_16 :: sk) e h R = (Run2 C (.code c_slices_IndexFunc_int64_int64_15 :: .inLoop c_slices_IndexFunc_int64_int64_15 :: sk) e h R) := nr rfl
@[simp, simp ↓] theorem c_slices_IndexFunc_int64_int64_17_r : vc2 C (n + 1) [] (.code c_slices_IndexFunc_int64_int64_17 :: sk) e h R = (vc2 C n [] (.code c_slices_IndexFunc_int64_int64_16 :: .inBlock 0 :: sk) e h R) := nr rfl
@[simp, simp ↓] theorem c_slices_IndexFunc_int64_int64_18_r : vc2 C (n + 1) [] (.code c_slices_IndexFunc_int64_int64_18 :: sk) e h R = (vc2 C n [] (.code c_slices_IndexFunc_int64_int64_1 :: .code c_slices_IndexFunc_int64_int64_17 :: sk) e h R) := nr rfl
@[simp, simp ↓] theorem c_slices_IndexFunc_int64_int64_19_r : vc2 C (n + 1) [] (.code c_slices_IndexFunc_int64_int64_19 :: sk) e h R = (vc2 C n c_slices_IndexFunc_int64_int64_o7 sk e h R) := nr rfl
@[simp, simp ↓] theorem c_slices_IndexFunc_int64_int64_20_r : vc2 C (n + 1) [] (.code c_slices_IndexFunc_int64_int64_20 :: sk) e h R = (vc2 C n [] (.code c_slices_IndexFunc_int64_int64_19 :: .code .ret :: sk) e h R) := nr rfl
@[simp, simp ↓] theorem c_slices_IndexFunc_int64_int64_21_r : vc2 C (n + 1) [] (.code c_slices_IndexFunc_int64_int64_21 :: sk) e h R = (vc2 C n [] (.code c_slices_IndexFunc_int64_int64_18 :: .code c_slices_IndexFunc_int64_int64_20 :: sk) e h R) := nr rfl
@[simp, simp ↓] theorem c_slices_IndexFunc_int64_int64_22_r : vc2 C (n + 1) [] (.code c_slices_IndexFunc_int64_int64_22 :: sk) e h R = (vc2 C n [] (.code c_slices_IndexFunc_int64_int64_0 :: .code c_slices_IndexFunc_int64_int64_21 :: sk) e h R) := nr rfl
end
noncomputable def c_slices_IndexFunc_int64_int64_C (orc : Orc) : Cx := ⟨Try.prog, [], 103, 19, [.tmp 4], orc⟩
@[simp] theorem c_slices_IndexFunc_int64_int64_C_P (orc : Orc) : (c_slices_IndexFunc_int64_int64_C orc).P = Try.prog := nr rfl
@[simp] theorem c_slices_IndexFunc_int64_int64_C_o (orc : Orc) : (c_slices_IndexFunc_int64_int64_C orc).orc = orc := nr rfl
@[simp] theorem c_slices_IndexFunc_int64_int64_C_r (orc : Orc) : (c_slices_IndexFunc_int64_int64_C orc).res = [.tmp 4] := nr rfl
theorem c_slices_IndexFunc_int64_int64_of {args : List AV} {h : Heap} {R : AV → Heap → Prop} {k : Nat} (ha : args.length = k) {orc : Orc} (hp : Pure Try.prog orc) (hk : Is (c_slices_IndexFunc_int64_int64_C orc) Try.f103 → Run2 (c_slices_IndexFunc_int64_int64_C orc) [.code c_slices_IndexFunc_int64_int64_22] (argEnv 0 args) h (Post R)) (hle : k ≤ 19 := by simp) : ACalls Try.prog 103 args h R :=
  contract2 [] c_slices_IndexFunc_int64_int64_22 [.tmp 4] Try.func103 (by decide +kernel) rfl (by kernel_rfl) (by rw [ha]; exact hle) (by kernel_rfl) hp hk
theorem c_slices_IndexFunc_int64_int64_of0 {args : List AV} {h : Heap} {R : AV → Heap → Prop} {k : Nat} (ha : args.length = k) {orc : Orc} (hp : Pure Try.prog orc) (hk : Is (c_slices_IndexFunc_int64_int64_C orc) Try.f103 → Run2 (c_slices_IndexFunc_int64_int64_C orc) [.code c_slices_IndexFunc_int64_int64_22] (argEnv 0 args) h R) (hle : k ≤ 19 := by simp) : ACalls Try.prog 103 args h R :=
  contract20 [] c_slices_IndexFunc_int64_int64_22 [.tmp 4] Try.func103 (by decide +kernel) rfl (by kernel_rfl) (by rw [ha]; exact hle) (by kernel_rfl) hp hk
/-- The first place where q holds. -/
def idxf (q : Int → Bool) (l : List Int) : Int := match l.findIdx? q with
  | some i => i
  | none => -1
theorem idxf_at {q : Int → Bool} {l : List Int} {i : Nat} (h : i < l.length) (hb : ∀ j (hj : j < l.length), j < i → q l[j] = false) (ht : q l[i] = true) : idxf q l = i := by
  have : l.findIdx? q = some i := List.findIdx?_eq_some_iff_getElem.2 ⟨h, ht, fun j hj => by simp [hb j (by omega) hj]⟩
  unfold idxf; rw [this]
theorem idxf_none {q : Int → Bool} {l : List Int} (hb : ∀ j (hj : j < l.length), q l[j] = false) : idxf q l = -1 := by
  have : l.findIdx? q = none := List.findIdx?_eq_none_iff.2 fun a ha => by
    obtain ⟨j, hj, rfl⟩ := List.mem_iff_getElem.1 ha
    simp [hb j hj]
  unfold idxf; rw [this]
theorem idxf_ge (q : Int → Bool) (l : List Int) : (0 ≤ idxf q l) ↔ ∃ a ∈ l, q a = true := by
  unfold idxf
  cases h : l.findIdx? q with
  | none =>
    rw [List.findIdx?_eq_none_iff] at h
    simp only [show ¬ (0 : Int) ≤ -1 by omega, false_iff]
    rintro ⟨a, ha, hq⟩
    have := h a ha
    rw [hq] at this; cases this
  | some i =>
    obtain ⟨hi, hq, _⟩ := List.findIdx?_eq_some_iff_getElem.1 h
    simp only [Int.natCast_nonneg, true_iff]
    exact ⟨_, List.getElem_mem hi, hq⟩
theorem IndexFunc_s (l : List Int) (g : FuncId) (caps : List AV) (q : Int → Bool) (h : Heap) (hl : l.length ≤ 1048576) (hq : ∀ a ∈ l, ACalls Try.prog g (.int .i64 a :: caps) h (fun v h' => v = .bool (q a) ∧ h' = h)) :
    ACalls Try.prog 103 [.snap 1 (l.map iv), .fn g caps] h (fun v h' => v = .int .i64 (idxf q l) ∧ h' = h) := by
  refine c_slices_IndexFunc_int64_int64_of0 rfl noPure fun I => ?_
  refine Run2.of I 1000 ?_
  simp -implicitDefEqProofs
  refine Run2.loopE (fun i => [(0, .snap 1 (l.map iv)), (1, .fn g caps), (7, .int .i64 l.length), (8, .int .i64 (i : Nat))]) (fun i => h) (fun i => l.length - i) (fun i => i ≤ l.length ∧ ∀ j (hj : j < l.length), j < i → q l[j] = false) 0 (by simp) rfl ⟨Nat.zero_le _, fun _ _ h => absurd h (Nat.not_lt_zero _)⟩ fun i hi ih => ?_
  by_cases hlt : i < l.length
  · have go := fun (h1 : q l[i] = false) => ih (i + 1) ⟨by omega, fun j hj hji => by
      rcases Nat.lt_or_ge j i with h | h
      · exact hi.2 j hj h
      · obtain rfl : j = i := by omega
        exact h1⟩ (by omega)
    have hat := idxf_at (q := q) hlt hi.2
    clear ih
    refine Run2.of I 1000 ?_
    simp -implicitDefEqProofs [hlt]
    refine (hq _ (List.getElem_mem hlt)).mono ?_
    rintro v h' ⟨rfl, rfl⟩
    refine gK.go ?_
    simp -implicitDefEqProofs
    refine ⟨fun h => (hat h).symm, fun h => ⟨by omega, ?_⟩⟩
    simpa using go h
  · obtain rfl : i = l.length := by omega
    have := idxf_none (q := q) (l := l) fun j hj => hi.2 j hj hj
    refine Run2.of I 1000 ?_
    simp -implicitDefEqProofs
    exact this.symm
abbrev c_slices_ContainsFunc_int64_int64_o0 : List AJ := [.o ⟨(some 4), none, false, .mv (.c (.bool false)), (some [0, 1])⟩]
def c_slices_ContainsFunc_int64_int64_0 : ACode := .region c_slices_ContainsFunc_int64_int64_o0
abbrev c_slices_ContainsFunc_int64_int64_o1 : List AJ := [.o ⟨(some 5), none, false, .mv (.t 0), none⟩, .o ⟨(some 6), none, false, .mv (.t 1), none⟩, .o ⟨(some 7), none, false, .call 103 [(.t 5), (.t 6)], none⟩, .o ⟨(some 8), none, false, .bin .geq (.t 7) (.c (.int .i64 0)), none⟩, .o ⟨(some 4), none, false, .mv (.t 8), (some [4])⟩]
def c_slices_ContainsFunc_int64_int64_1 : ACode := .region c_slices_ContainsFunc_int64_int64_o1
def c_slices_ContainsFunc_int64_int64_2 : ACode := .seq c_slices_ContainsFunc_int64_int64_1 .ret
def c_slices_ContainsFunc_int64_int64_3 : ACode := .seq c_slices_ContainsFunc_int64_int64_0 c_slices_ContainsFunc_int64_int64_2
section
variable (C : Cx) (n : Nat) (sk : List AItem) (e : Env) (h : Heap) (R : AV → Heap → Prop)
@[simp, simp ↓] theorem c_slices_ContainsFunc_int64_int64_0_r : vc2 C (n + 1) [] (.code c_slices_ContainsFunc_int64_int64_0 :: sk) e h R = (vc2 C n c_slices_ContainsFunc_int64_int64_o0 sk e h R) := nr rfl
@[simp, simp ↓] theorem c_slices_ContainsFunc_int64_int64_1_r : vc2 C (n + 1) [] (.code c_slices_ContainsFunc_int64_int64_1 :: sk) e h R = (vc2 C n c_slices_ContainsFunc_int64_int64_o1 sk e h R) := nr rfl
@[simp, simp ↓] theorem c_slices_ContainsFunc_int64_int64_2_r : vc2 C (n + 1) [] (.code c_slices_ContainsFunc_int64_int64_2 :: sk) e h R = (vc2 C n [] (.code c_slices_ContainsFunc_int64_int64_1 :: .code .ret :: sk) e h R) := nr rfl
@[simp, simp ↓] theorem c_slices_ContainsFunc_int64_int64_3_r : vc2 C (n + 1) [] (.code c_slices_ContainsFunc_int64_int64_3 :: sk) e h R = (vc2 C n [] (.code c_slices_ContainsFunc_int64_int64_0 :: .code c_slices_ContainsFunc_int64_int64_2 :: sk) e h R) := nr rfl
end
noncomputable def c_slices_ContainsFunc_int64_int64_C (orc : Orc) : Cx := ⟨Try.prog, [], 90, 9, [.tmp 4], orc⟩
@[simp] theorem c_slices_ContainsFunc_int64_int64_C_P (orc : Orc) : (c_slices_ContainsFunc_int64_int64_C orc).P = Try.prog := nr rfl
@[simp] theorem c_slices_ContainsFunc_int64_int64_C_o (orc : Orc) : (c_slices_ContainsFunc_int64_int64_C orc).orc = orc := nr rfl
@[simp] theorem c_slices_ContainsFunc_int64_int64_C_r (orc : Orc) : (c_slices_ContainsFunc_int64_int64_C orc).res = [.tmp 4] := nr rfl
theorem c_slices_ContainsFunc_int64_int64_of {args : List AV} {h : Heap} {R : AV → Heap → Prop} {k : Nat} (ha : args.length = k) {orc : Orc} (hp : Pure Try.prog orc) (hk : Is (c_slices_ContainsFunc_int64_int64_C orc) Try.f90 → Run2 (c_slices_ContainsFunc_int64_int64_C orc) [.code c_slices_ContainsFunc_int64_int64_3] (argEnv 0 args) h (Post R)) (hle : k ≤ 9 := by simp) : ACalls Try.prog 90 args h R :=
  contract2 [] c_slices_ContainsFunc_int64_int64_3 [.tmp 4] Try.func90 (by decide +kernel) rfl (by kernel_rfl) (by rw [ha]; exact hle) (by kernel_rfl) hp hk
theorem c_slices_ContainsFunc_int64_int64_of0 {args : List AV} {h : Heap} {R : AV → Heap → Prop} {k : Nat} (ha : args.length = k) {orc : Orc} (hp : Pure Try.prog orc) (hk : Is (c_slices_ContainsFunc_int64_int64_C orc) Try.f90 → Run2 (c_slices_ContainsFunc_int64_int64_C orc) [.code c_slices_ContainsFunc_int64_int64_3] (argEnv 0 args) h R) (hle : k ≤ 9 := by simp) : ACalls Try.prog 90 args h R :=
  contract20 [] c_slices_ContainsFunc_int64_int64_3 [.tmp 4] Try.func90 (by decide +kernel) rfl (by kernel_rfl) (by rw [ha]; exact hle) (by kernel_rfl) hp hk
theorem ContainsFunc_s (l : List Int) (g : FuncId) (caps : List AV) (q : Int → Bool) (h : Heap) (hl : l.length ≤ 1048576) (hq : ∀ a ∈ l, ACalls Try.prog g (.int .i64 a :: caps) h (fun v h' => v = .bool (q a) ∧ h' = h)) :
    ACalls Try.prog 90 [.snap 1 (l.map iv), .fn g caps] h (fun v h' => v = .bool (l.any q) ∧ h' = h) := by
  refine c_slices_ContainsFunc_int64_int64_of0 rfl noPure fun I => ?_
  refine Run2.of I 1000 ?_
  simp -implicitDefEqProofs
  refine (IndexFunc_s l g caps q h hl hq).mono ?_
  rintro v h' ⟨rfl, rfl⟩
  refine gK.go ?_
  simp -implicitDefEqProofs [idxf_ge]
  rw [Bool.eq_iff_iff]
  simp
abbrev c_impl_areElements_o0 : List AJ := [.o ⟨(some 3), none, false, .box false 1 (.t 1), none⟩, .o ⟨(some 4), none, false, .mv (.c (.bool false)), (some [0, 3])⟩]
def c_impl_areElements_0 : ACode := .region c_impl_areElements_o0
abbrev c_impl_areElements_o1 : List AJ := [.o ⟨(some 5), none, false, .mv (.t 0), none⟩, .o ⟨(some 6), none, false, .mkfn 91 [(.t 3)], none⟩, .o ⟨(some 7), none, false, .call 90 [(.t 5), (.t 6)], none⟩, .o ⟨(some 8), none, false, .un .not (.t 7), none⟩, .o ⟨(some 4), none, false, .mv (.t 8), (some [4])⟩]
def c_impl_areElements_1 : ACode := .region c_impl_areElements_o1
def c_impl_areElements_2 : ACode := .seq c_impl_areElements_1 .ret
def c_impl_areElements_3 : ACode := .seq c_impl_areElements_0 c_impl_areElements_2
section
variable (C : Cx) (n : Nat) (sk : List AItem) (e : Env) (h : Heap) (R : AV → Heap → Prop)
@[simp, simp ↓] theorem c_impl_areElements_0_r : vc2 C (n + 1) [] (.code c_impl_areElements_0 :: sk) e h R = (vc2 C n c_impl_areElements_o0 sk e h R) := nr rfl
@[simp, simp ↓] theorem c_impl_areElements_1_r : vc2 C (n + 1) [] (.code c_impl_areElements_1 :: sk) e h R = (vc2 C n c_impl_areElements_o1 sk e h R) := nr rfl
@[simp, simp ↓] theorem c_impl_areElements_2_r : vc2 C (n + 1) [] (.code c_impl_areElements_2 :: sk) e h R = (vc2 C n [] (.code c_impl_areElements_1 :: .code .ret :: sk) e h R) := nr rfl
@[simp, simp ↓] theorem c_impl_areElements_3_r : vc2 C (n + 1) [] (.code c_impl_areElements_3 :: sk) e h R = (vc2 C n [] (.code c_impl_areElements_0 :: .code c_impl_areElements_2 :: sk) e h R) := nr rfl
end
noncomputable def c_impl_areElements_C (orc : Orc) : Cx := ⟨Try.prog, [], 56, 9, [.tmp 4], orc⟩
@[simp] theorem c_impl_areElements_C_P (orc : Orc) : (c_impl_areElements_C orc).P = Try.prog := nr rfl
@[simp] theorem c_impl_areElements_C_o (orc : Orc) : (c_impl_areElements_C orc).orc = orc := nr rfl
@[simp] theorem c_impl_areElements_C_r (orc : Orc) : (c_impl_areElements_C orc).res = [.tmp 4] := nr rfl
theorem c_impl_areElements_of {args : List AV} {h : Heap} {R : AV → Heap → Prop} {k : Nat} (ha : args.length = k) {orc : Orc} (hp : Pure Try.prog orc) (hk : Is (c_impl_areElements_C orc) Try.f56 → Run2 (c_impl_areElements_C orc) [.code c_impl_areElements_3] (argEnv 0 args) h (Post R)) (hle : k ≤ 9 := by simp) : ACalls Try.prog 56 args h R :=
  contract2 [] c_impl_areElements_3 [.tmp 4] Try.func56 (by decide +kernel) rfl (by kernel_rfl) (by rw [ha]; exact hle) (by kernel_rfl) hp hk
theorem c_impl_areElements_of0 {args : List AV} {h : Heap} {R : AV → Heap → Prop} {k : Nat} (ha : args.length = k) {orc : Orc} (hp : Pure Try.prog orc) (hk : Is (c_impl_areElements_C orc) Try.f56 → Run2 (c_impl_areElements_C orc) [.code c_impl_areElements_3] (argEnv 0 args) h R) (hle : k ≤ 9 := by simp) : ACalls Try.prog 56 args h R :=
  contract20 [] c_impl_areElements_3 [.tmp 4] Try.func56 (by decide +kernel) rfl (by kernel_rfl) (by rw [ha]; exact hle) (by kernel_rfl) hp hk
theorem areElements_c (u : AV) (p : Int) (h : Heap) (hu : isInts u) (hl : (intsOf u).length ≤ 1048576) (hp : 0 < p ∧ p ≤ 1073741824) : ACalls Try.prog 56 [u, .int .i64 p] h (fun v h' => v = .bool (decide (∀ a ∈ intsOf u, 0 ≤ a ∧ a < p)) ∧ h' = h) := by
  refine ACalls.wk (.cons (.ints hu) (.refl _)) ?_
  refine c_impl_areElements_of0 rfl noPure fun I => ?_
  refine Run2.of I 1000 ?_
  simp -implicitDefEqProofs
  refine (ContainsFunc_s _ _ _ (fun a => !decide (0 ≤ a ∧ a < p)) h hl fun a _ => areElements1_c a p h hp).mono ?_
  rintro v h' ⟨rfl, rfl⟩
  refine gK.go ?_
  simp -implicitDefEqProofs
  rw [Bool.eq_iff_iff]
  simp
  constructor <;> rintro ⟨a, ha, h⟩ <;> exact ⟨a, ha, by omega⟩
noncomputable def o_areElements : List AV → Option (Prop × AV) := tab (fun (x : AV × Int) => match x with | (u, p) => [u, .int .i64 p]) (fun x => match x with | (u, p) => (isInts u ∧ (intsOf u).length ≤ 1048576 ∧ (0 < p ∧ p ≤ 1073741824))) (fun x => match x with | (u, p) => .bool (decide (∀ a ∈ intsOf u, 0 ≤ a ∧ a < p)))
@[simp] theorem o_areElements_e (u : AV) (p : Int) : o_areElements [u, .int .i64 p] = some ((isInts u ∧ (intsOf u).length ≤ 1048576 ∧ (0 < p ∧ p ≤ 1073741824)), .bool (decide (∀ a ∈ intsOf u, 0 ≤ a ∧ a < p))) := tab_at (enc := fun (x : AV × Int) => match x with | (u, p) => [u, .int .i64 p]) (fun x y h => by
  obtain ⟨u1, p1⟩ := x; obtain ⟨u2, p2⟩ := y; simp at h; simp [h]) _ _ (u, p)
theorem o_areElements_k : Knows Try.prog 56 o_areElements := tab_knows fun x hx h => by
  obtain ⟨u, p⟩ := x; exact areElements_c u p h hx.1 hx.2.1 hx.2.2
noncomputable def orcE : List (Nat × (List AV → Option (Prop × AV))) := (99, o_size) :: (56, o_areElements) :: orcC3
theorem orcE_p : Pure Try.prog (lk orcE) := (lk_pure o_size_k (lk_pure o_areElements_k orcC3_p))
@[simp] theorem orcE_l (g : FuncId) (l : List AV) : lk orcE g l = if g = 99 then o_size l else if g = 56 then o_areElements l else lk orcC3 g l := nr rfl
abbrev c_impl_isVector_o0 : List AJ := [.o ⟨(some 6), none, false, .mv (.c (.bool false)), (some [0, 1, 2])⟩]
def c_impl_isVector_0 : ACode := .region c_impl_isVector_o0
abbrev c_impl_isVector_o1 : List AJ := [.o ⟨(some 7), none, false, .mv (.t 0), none⟩, .o ⟨(some 8), none, false, .call 99 [(.t 7)], none⟩, .o ⟨(some 9), none, false, .mv (.t 1), none⟩, .o ⟨(some 10), none, false, .bin .eql (.t 8) (.t 9), none⟩, .o ⟨(some 11), none, false, .mv (.t 10), none⟩, .o ⟨(some 12), (some (11, true)), false, .mv (.t 0), none⟩, .o ⟨(some 13), (some (11, true)), false, .mv (.t 2), none⟩, .o ⟨(some 14), (some (11, true)), false, .call 56 [(.t 12), (.t 13)], none⟩, .o ⟨(some 15), none, false, .pick (.t 11) (.t 14) (.c (.bool false)), none⟩, .o ⟨(some 6), none, false, .mv (.t 15), (some [6])⟩]
def c_impl_isVector_1 : ACode := .region c_impl_isVector_o1
def c_impl_isVector_2 : ACode := .seq c_impl_isVector_1 .ret
def c_impl_isVector_3 : ACode := .seq c_impl_isVector_0 c_impl_isVector_2
section
variable (C : Cx) (n : Nat) (sk : List AItem) (e : Env) (h : Heap) (R : AV → Heap → Prop)
@[simp, simp ↓] theorem c_impl_isVector_0_r : vc2 C (n + 1) [] (.code c_impl_isVector_0 :: sk) e h R = (vc2 C n c_impl_isVector_o0 sk e h R) := nr rfl
@[simp, simp ↓] theorem c_impl_isVector_1_r : vc2 C (n + 1) [] (.code c_impl_isVector_1 :: sk) e h R = (vc2 C n c_impl_isVector_o1 sk e h R) := nr rfl
@[simp, simp ↓] theorem c_impl_isVector_2_r : vc2 C (n + 1) [] (.code c_impl_isVector_2 :: sk) e h R = (vc2 C n [] (.code c_impl_isVector_1 :: .code .ret :: sk) e h R) := nr rfl
@[simp, simp ↓] theorem c_impl_isVector_3_r : vc2 C (n + 1) [] (.code c_impl_isVector_3 :: sk) e h R = (vc2 C n [] (.code c_impl_isVector_0 :: .code c_impl_isVector_2 :: sk) e h R) := nr rfl
end
noncomputable def c_impl_isVector_C (orc : Orc) : Cx := ⟨Try.prog, [], 94, 16, [.tmp 6], orc⟩
@[simp] theorem c_impl_isVector_C_P (orc : Orc) : (c_impl_isVector_C orc).P = Try.prog := nr rfl
@[simp] theorem c_impl_isVector_C_o (orc : Orc) : (c_impl_isVector_C orc).orc = orc := nr rfl
@[simp] theorem c_impl_isVector_C_r (orc : Orc) : (c_impl_isVector_C orc).res = [.tmp 6] := nr rfl
theorem c_impl_isVector_of {args : List AV} {h : Heap} {R : AV → Heap → Prop} {k : Nat} (ha : args.length = k) {orc : Orc} (hp : Pure Try.prog orc) (hk : Is (c_impl_isVector_C orc) Try.f94 → Run2 (c_impl_isVector_C orc) [.code c_impl_isVector_3] (argEnv 0 args) h (Post R)) (hle : k ≤ 16 := by simp) : ACalls Try.prog 94 args h R :=
  contract2 [] c_impl_isVector_3 [.tmp 6] Try.func94 (by decide +kernel) rfl (by kernel_rfl) (by rw [ha]; exact hle) (by kernel_rfl) hp hk
theorem c_impl_isVector_of0 {args : List AV} {h : Heap} {R : AV → Heap → Prop} {k : Nat} (ha : args.length = k) {orc : Orc} (hp : Pure Try.prog orc) (hk : Is (c_impl_isVector_C orc) Try.f94 → Run2 (c_impl_isVector_C orc) [.code c_impl_isVector_3] (argEnv 0 args) h R) (hle : k ≤ 16 := by simp) : ACalls Try.prog 94 args h R :=
  contract20 [] c_impl_isVector_3 [.tmp 6] Try.func94 (by decide +kernel) rfl (by kernel_rfl) (by rw [ha]; exact hle) (by kernel_rfl) hp hk
theorem isVector_c (u : AV) (n p : Int) (h : Heap) (hu : isInts u) (hl : (intsOf u).length ≤ 1048576) (hp : 0 < p ∧ p ≤ 1073741824) : ACalls Try.prog 94 [u, .int .i64 n, .int .i64 p] h (fun v h' => v = .bool (decide (vec (intsOf u) n p)) ∧ h' = h) := by
  refine c_impl_isVector_of0 rfl orcE_p fun I => ?_
  refine Run2.of I 1000 ?_
  simp -implicitDefEqProofs [hu, hl, hp.1, hp.2]
  unfold vec
  grind
noncomputable def o_isVector : List AV → Option (Prop × AV) := tab (fun (x : AV × Int × Int) => match x with | (u, n, p) => [u, .int .i64 n, .int .i64 p]) (fun x => match x with | (u, n, p) => (isInts u ∧ (intsOf u).length ≤ 1048576 ∧ (0 < p ∧ p ≤ 1073741824))) (fun x => match x with | (u, n, p) => .bool (decide (vec (intsOf u) n p)))
@[simp] theorem o_isVector_e (u : AV) (n : Int) (p : Int) : o_isVector [u, .int .i64 n, .int .i64 p] = some ((isInts u ∧ (intsOf u).length ≤ 1048576 ∧ (0 < p ∧ p ≤ 1073741824)), .bool (decide (vec (intsOf u) n p))) := tab_at (enc := fun (x : AV × Int × Int) => match x with | (u, n, p) => [u, .int .i64 n, .int .i64 p]) (fun x y h => by
  obtain ⟨u1, n1, p1⟩ := x; obtain ⟨u2, n2, p2⟩ := y; simp at h; simp [h]) _ _ (u, n, p)
theorem o_isVector_k : Knows Try.prog 94 o_isVector := tab_knows fun x hx h => by
  obtain ⟨u, n, p⟩ := x; exact isVector_c u n p h hx.1 hx.2.1 hx.2.2
noncomputable def orcE2 : List (Nat × (List AV → Option (Prop × AV))) := (94, o_isVector) :: orcE
theorem orcE2_p : Pure Try.prog (lk orcE2) := (lk_pure o_isVector_k orcE_p)
@[simp] theorem orcE2_l (g : FuncId) (l : List AV) : lk orcE2 g l = if g = 94 then o_isVector l else lk orcE g l := nr rfl
abbrev c_impl_arePhases_o0 : List AJ := [.o ⟨(some 2), none, false, .box false 3 (.t 0), none⟩, .o ⟨(some 4), none, false, .mv (.c (.bool false)), (some [1, 2])⟩]
def c_impl_arePhases_0 : ACode := .region c_impl_arePhases_o0
abbrev c_impl_arePhases_o1 : List AJ := [.o ⟨(some 5), none, false, .mv (.t 1), none⟩, .o ⟨(some 6), none, false, .fieldA 0 (.t 2), none⟩, .o ⟨(some 7), none, false, .load 1 false (.t 6), none⟩, .o ⟨(some 8), none, false, .fieldA 1 (.t 2), none⟩, .o ⟨(some 9), none, false, .load 1 false (.t 8), none⟩, .o ⟨(some 10), none, false, .call 94 [(.t 5), (.t 7), (.t 9)], none⟩, .o ⟨(some 4), none, false, .mv (.t 10), (some [4])⟩]
def c_impl_arePhases_1 : ACode := .region c_impl_arePhases_o1
def c_impl_arePhases_2 : ACode := .seq c_impl_arePhases_1 .ret
def c_impl_arePhases_3 : ACode := .seq c_impl_arePhases_0 c_impl_arePhases_2
section
variable (C : Cx) (n : Nat) (sk : List AItem) (e : Env) (h : Heap) (R : AV → Heap → Prop)
@[simp, simp ↓] theorem c_impl_arePhases_0_r : vc2 C (n + 1) [] (.code c_impl_arePhases_0 :: sk) e h R = (vc2 C n c_impl_arePhases_o0 sk e h R) := nr rfl
@[simp, simp ↓] theorem c_impl_arePhases_1_r : vc2 C (n + 1) [] (.code c_impl_arePhases_1 :: sk) e h R = (vc2 C n c_impl_arePhases_o1 sk e h R) := nr rfl
@[simp, simp ↓] theorem c_impl_arePhases_2_r : vc2 C (n + 1) [] (.code c_impl_arePhases_2 :: sk) e h R = (vc2 C n [] (.code c_impl_arePhases_1 :: .code .ret :: sk) e h R) := nr rfl
@[simp, simp ↓] theorem c_impl_arePhases_3_r : vc2 C (n + 1) [] (.code c_impl_arePhases_3 :: sk) e h R = (vc2 C n [] (.code c_impl_arePhases_0 :: .code c_impl_arePhases_2 :: sk) e h R) := nr rfl
end
noncomputable def c_impl_arePhases_C (orc : Orc) : Cx := ⟨Try.prog, [], 60, 11, [.tmp 4], orc⟩
@[simp] theorem c_impl_arePhases_C_P (orc : Orc) : (c_impl_arePhases_C orc).P = Try.prog := nr rfl
@[simp] theorem c_impl_arePhases_C_o (orc : Orc) : (c_impl_arePhases_C orc).orc = orc := nr rfl
@[simp] theorem c_impl_arePhases_C_r (orc : Orc) : (c_impl_arePhases_C orc).res = [.tmp 4] := nr rfl
theorem c_impl_arePhases_of {args : List AV} {h : Heap} {R : AV → Heap → Prop} {k : Nat} (ha : args.length = k) {orc : Orc} (hp : Pure Try.prog orc) (hk : Is (c_impl_arePhases_C orc) Try.f60 → Run2 (c_impl_arePhases_C orc) [.code c_impl_arePhases_3] (argEnv 0 args) h (Post R)) (hle : k ≤ 11 := by simp) : ACalls Try.prog 60 args h R :=
  contract2 [] c_impl_arePhases_3 [.tmp 4] Try.func60 (by decide +kernel) rfl (by kernel_rfl) (by rw [ha]; exact hle) (by kernel_rfl) hp hk
theorem c_impl_arePhases_of0 {args : List AV} {h : Heap} {R : AV → Heap → Prop} {k : Nat} (ha : args.length = k) {orc : Orc} (hp : Pure Try.prog orc) (hk : Is (c_impl_arePhases_C orc) Try.f60 → Run2 (c_impl_arePhases_C orc) [.code c_impl_arePhases_3] (argEnv 0 args) h R) (hle : k ≤ 11 := by simp) : ACalls Try.prog 60 args h R :=
  contract20 [] c_impl_arePhases_3 [.tmp 4] Try.func60 (by decide +kernel) rfl (by kernel_rfl) (by rw [ha]; exact hle) (by kernel_rfl) hp hk
theorem arePhases_c (n p : Int) (ts u : AV) (h : Heap) (hts : isCell ts = true) (hu : isInts u) (hl : (intsOf u).length ≤ 1048576) (hp : 0 < p ∧ p ≤ 1073741824) : ACalls Try.prog 60 [.agg [.int .i64 n, .int .i64 p, ts], u] h (fun v h' => v = .bool (decide (vec (intsOf u) n p)) ∧ h' = h) := by
  refine c_impl_arePhases_of0 rfl orcE2_p fun I => ?_
  refine Run2.of I 1000 ?_
  simp -implicitDefEqProofs [hu, hl, hp.1, hp.2, hts]
noncomputable def o_arePhases : List AV → Option (Prop × AV) := tab (fun (x : Int × Int × AV × AV) => match x with | (n, p, ts, u) => [.agg [.int .i64 n, .int .i64 p, ts], u]) (fun x => match x with | (n, p, ts, u) => (isCell ts = true ∧ isInts u ∧ (intsOf u).length ≤ 1048576 ∧ (0 < p ∧ p ≤ 1073741824))) (fun x => match x with | (n, p, ts, u) => .bool (decide (vec (intsOf u) n p)))
@[simp] theorem o_arePhases_e (n : Int) (p : Int) (ts : AV) (u : AV) : o_arePhases [.agg [.int .i64 n, .int .i64 p, ts], u] = some ((isCell ts = true ∧ isInts u ∧ (intsOf u).length ≤ 1048576 ∧ (0 < p ∧ p ≤ 1073741824)), .bool (decide (vec (intsOf u) n p))) := tab_at (enc := fun (x : Int × Int × AV × AV) => match x with | (n, p, ts, u) => [.agg [.int .i64 n, .int .i64 p, ts], u]) (fun x y h => by
  obtain ⟨n1, p1, ts1, u1⟩ := x; obtain ⟨n2, p2, ts2, u2⟩ := y; simp at h; simp [h]) _ _ (n, p, ts, u)
theorem o_arePhases_k : Knows Try.prog 60 o_arePhases := tab_knows fun x hx h => by
  obtain ⟨n, p, ts, u⟩ := x; exact arePhases_c n p ts u h hx.1 hx.2.1 hx.2.2.1 hx.2.2.2
abbrev c_impl_errorsOf_o0 : List AJ := [.o ⟨(some 2), none, false, .box false 3 (.t 0), none⟩, .o ⟨(some 4), none, false, .mv (.c .nilsl), (some [1, 2])⟩]
def c_impl_errorsOf_0 : ACode := .region c_impl_errorsOf_o0
abbrev c_impl_errorsOf_o1 : List AJ := [.o ⟨(some 5), none, false, .mv (.c .nilsl), (some [1, 2, 5])⟩]
def c_impl_errorsOf_1 : ACode := .region c_impl_errorsOf_o1
abbrev c_impl_errorsOf_o2 : List AJ := [.o ⟨(some 8), none, false, .fieldA 2 (.t 2), none⟩, .o ⟨(some 9), none, false, .load 1 false (.t 8), none⟩, .o ⟨(some 10), none, false, .len (.t 9), none⟩, .o ⟨(some 11), none, false, .mv (.c (.int .i64 0)), (some [1, 2, 5, 9, 10, 11])⟩]
def c_impl_errorsOf_2 : ACode := .region c_impl_errorsOf_o2
abbrev c_impl_errorsOf_o3 : List AJ := [.o ⟨(some 12), none, false, .bin .lss (.t 11) (.t 10), (some [1, 2, 5, 9, 10, 11, 12])⟩]
def c_impl_errorsOf_3 : ACode := .region c_impl_errorsOf_o3
def c_impl_errorsOf_4 : ACode := .cond (.t 12) .skip (.exit 0)
abbrev c_impl_errorsOf_o4 : List AJ := [.o ⟨(some 13), none, false, .mv (.t 11), none⟩, .o ⟨(some 14), none, false, .idxA 3 (.t 9) (.t 11), none⟩, .o ⟨(some 15), none, false, .load 3 true (.t 14), none⟩, .v 7 3 (.agg [(.int .i64 0), (.int .i64 0), (.int .i64 0)]) [(6, (.t 13))] (.t 15) (some [1, 2, 5, 6, 7, 9, 10, 11])]
def c_impl_errorsOf_5 : ACode := .region c_impl_errorsOf_o4
abbrev c_impl_errorsOf_o5 : List AI := [⟨(some 16), none, false, .mv (.t 1), none⟩, ⟨(some 17), none, false, .fieldA 0 (.t 7), none⟩, ⟨(some 18), none, false, .load 1 false (.t 17), none⟩, ⟨(some 19), none, false, .idxA 1 (.t 16) (.t 18), none⟩, ⟨(some 20), none, false, .load 1 false (.t 19), none⟩, ⟨(some 21), none, false, .fieldA 2 (.t 7), none⟩, ⟨(some 22), none, false, .load 1 false (.t 21), none⟩, ⟨(some 23), none, true, .bin .add (.t 20) (.t 22), none⟩, ⟨(some 24), none, false, .fieldA 1 (.t 2), none⟩, ⟨(some 25), none, false, .load 1 false (.t 24), none⟩, ⟨(some 26), none, false, .bin .rem (.t 23) (.t 25), none⟩, ⟨(some 27), none, false, .mv (.t 1), none⟩, ⟨(some 28), none, false, .fieldA 1 (.t 7), none⟩, ⟨(some 29), none, false, .load 1 false (.t 28), (some [1, 2, 5, 6, 9, 10, 11, 26, 27, 29])⟩, ⟨(some 30), none, false, .idxA 1 (.t 27) (.t 29), none⟩, ⟨(some 31), none, false, .load 1 false (.t 30), none⟩, ⟨(some 32), none, false, .bin .neq (.t 26) (.t 31), (some [1, 2, 5, 6, 9, 10, 11, 32])⟩]
def c_impl_errorsOf_6 : ACode := .draw c_impl_errorsOf_o5 [] rfl
abbrev c_impl_errorsOf_o6 : List AJ := [.o ⟨(some 33), none, false, .mv (.t 5), none⟩, .o ⟨(some 34), none, false, .mv (.t 6), none⟩, .o ⟨(some 35), none, false, .bsl false 1 [(.t 34)], none⟩, .o ⟨(some 36), none, false, .append 1 8 (.t 33) (.t 35), none⟩, .o ⟨(some 5), none, false, .mv (.t 36), (some [1, 2, 5, 9, 10, 11])⟩]
def c_impl_errorsOf_7 : ACode := .region c_impl_errorsOf_o6
def c_impl_errorsOf_8 : ACode := .cond (.t 32) c_impl_errorsOf_7 .skip
def c_impl_errorsOf_9 : ACode := .seq c_impl_errorsOf_6 c_impl_errorsOf_8
def c_impl_errorsOf_10 : ACode := .seq c_impl_errorsOf_5 c_impl_errorsOf_9
def c_impl_errorsOf_11 : ACode := .block 1 c_impl_errorsOf_10
abbrev c_impl_errorsOf_o7 : List AJ := [.o ⟨(some 37), none, true, .bin .add (.t 11) (.c (.int .i64 1)), none⟩, .o ⟨(some 11), none, false, .mv (.t 37), (some [1, 2, 5, 9, 10, 11])⟩]
def c_impl_errorsOf_12 : ACode := .region c_impl_errorsOf_o7
def c_impl_errorsOf_13 : ACode := .seq c_impl_errorsOf_11 c_impl_errorsOf_12
def c_impl_errorsOf_14 : ACode := .seq c_impl_errorsOf_4 c_impl_errorsOf_13
def c_impl_errorsOf_15 : ACode := .seq c_impl_errorsOf_3 c_impl_errorsOf_14
def c_impl_errorsOf_16 : ACode := .loop c_impl_errorsOf_15
def c_impl_errorsOf_17 : ACode := .block 0 c_impl_errorsOf_16
def c_impl_errorsOf_18 : ACode := .seq c_impl_errorsOf_2 c_impl_errorsOf_17
abbrev c_impl_errorsOf_o8 : List AJ := [.o ⟨(some 38), none, false, .mv (.t 5), none⟩, .o ⟨(some 4), none, false, .mv (.t 38), (some [4])⟩]
def c_impl_errorsOf_19 : ACode := .region c_impl_errorsOf_o8
def c_impl_errorsOf_20 : ACode := .seq c_impl_errorsOf_19 .ret
def c_impl_errorsOf_21 : ACode := .seq c_impl_errorsOf_18 c_impl_errorsOf_20
def c_impl_errorsOf_22 : ACode := .seq c_impl_errorsOf_1 c_impl_errorsOf_21
def c_impl_errorsOf_23 : ACode := .seq c_impl_errorsOf_0 c_impl_errorsOf_22
section
variable (C : Cx) (n : Nat) (sk : List AItem) (e : Env) (h : Heap) (R : AV → Heap → Prop)
@[simp, simp ↓] theorem c_impl_errorsOf_0_r : vc2 C (n + 1) [] (.code c_impl_errorsOf_0 :: sk) e h R = (vc2 C n c_impl_errorsOf_o0 sk e h R) := nr rfl
@[simp, simp ↓] theorem c_impl_errorsOf_1_r : vc2 C (n + 1) [] (.code c_impl_errorsOf_1 :: sk) e h R = (vc2 C n c_impl_errorsOf_o1 sk e h R) := nr rfl
@[simp, simp ↓] theorem c_impl_errorsOf_2_r : vc2 C (n + 1) [] (.code c_impl_errorsOf_2 :: sk) e h R = (vc2 C n c_impl_errorsOf_o2 sk e h R) := nr rfl
@[simp, simp ↓] theorem c_impl_errorsOf_3_r : vc2 C (n + 1) [] (.code c_impl_errorsOf_3 :: sk) e h R = (vc2 C n c_impl_errorsOf_o3 sk e h R) := nr rfl
@[simp, simp ↓] theorem c_impl_errorsOf_4_r : vc2 C (n + 1) [] (.code c_impl_errorsOf_4 :: sk) e h R = (condK (ev e (.t 12)) (vc2 C n [] (.code .skip :: sk) e h R) (vc2 C n [] (.code (.exit 0) :: sk) e h R)) := nr rfl
@[simp, simp ↓] theorem c_impl_errorsOf_5_r : vc2 C (n + 1) [] (.code c_impl_errorsOf_5 :: sk) e h R = (vc2 C n c_impl_errorsOf_o4 sk e h R) := nr rfl
@[simp, simp ↓] theorem c_impl_errorsOf_6_r : vc2 C (n + 1) [] (.code c_impl_errorsOf_6 :: sk) e h R = (draw2 C h (vK C n [] sk R h) c_impl_errorsOf_o5 e) := nr rfl
@[simp, simp ↓] theorem c_impl_errorsOf_7_r : vc2 C (n + 1) [] (.code c_impl_errorsOf_7 :: sk) e h R = (vc2 C n c_impl_errorsOf_o6 sk e h R) := nr rfl
@[simp, simp ↓] theorem c_impl_errorsOf_8_r : vc2 C (n + 1) [] (.code c_impl_errorsOf_8 :: sk) e h R = (condK (ev e (.t 32)) (vc2 C n [] (.code c_impl_errorsOf_7 :: sk) e h R) (vc2 C n [] (.code .skip :: sk) e h R)) := nr rfl
@[simp, simp ↓] theorem c_impl_errorsOf_9_r : vc2 C (n + 1) [] (.code c_impl_errorsOf_9 :: sk) e h R = (vc2 C n [] (.code c_impl_errorsOf_6 :: .code c_impl_errorsOf_8 :: sk) e h R) := nr rfl
@[simp, simp ↓] theorem c_impl_errorsOf_10_r : vc2 C (n + 1) [] (.code c_impl_errorsOf_10 :: sk) e h R = (vc2 C n [] (.code c_impl_errorsOf_5 :: .code c_impl_errorsOf_9 :: sk) e h R) := nr rfl
@[simp, simp ↓] theorem c_impl_errorsOf_11_r : vc2 C (n + 1) [] (.code c_impl_errorsOf_11 :: sk) e h R = (vc2 C n [] (.code c_impl_errorsOf_10 :: .inBlock 1 :: sk) e h R) := nr rfl
@[simp, simp ↓] theorem c_impl_errorsOf_12_r : vc2 C (n + 1) [] (.code c_impl_errorsOf_12 :: sk) e h R = (vc2 C n c_impl_errorsOf_o7 sk e h R) := nr rfl
@[simp, simp ↓] theorem c_impl_errorsOf_13_r : vc2 C (n + 1) [] (.code c_impl_errorsOf_13 :: sk) e h R = (vc2 C n [] (.code c_impl_errorsOf_11 :: .code c_impl_errorsOf_12 :: sk) e h R) := nr rfl
@[simp, simp ↓] theorem c_impl_errorsOf_14_r : vc2 C (n + 1) [] (.code c_impl_errorsOf_14 :: sk) e h R = (vc2 C n [] (.code c_impl_errorsOf_4 :: .code c_impl_errorsOf_13 :: sk) e h R) := nr rfl
@[simp, simp ↓] theorem c_impl_errorsOf_15_r : vc2 C (n + 1) [] (.code c_impl_errorsOf_15 :: sk) e h R = (vc2 C n [] (.code c_impl_errorsOf_3 :: .code c_impl_errorsOf_14 :: sk) e h R) := nr rfl
@[simp, simp ↓] theorem c_impl_errorsOf_16_r : vc2 C (n + 1) [] (.code c_impl_errorsOf_16 :: sk) e h R = (Run2 C (.code c_impl_errorsOf_15 :: .inLoop c_impl_errorsOf_15 :: sk) e h R) := nr rfl
@[simp, simp ↓] theorem c_impl_errorsOf_17_r : vc2 C (n + 1) [] (.code c_impl_errorsOf_17 :: sk) e h R = (vc2 C n [] (.code c_impl_errorsOf_16 :: .inBlock 0 :: sk) e h R) := nr rfl
@[simp, simp ↓] theorem c_impl_errorsOf_18_r : vc2 C (n + 1) [] (.code c_impl_errorsOf_18 :: sk) e h R = (vc2 C n [] (.code c_impl_errorsOf_2 :: .code c_impl_errorsOf_17 :: sk) e h R) := nr rfl
@[simp, simp ↓] theorem c_impl_errorsOf_19_r : vc2 C (n + 1) [] (.code c_impl_errorsOf_19 :: sk) e h R = (vc2 C n c_impl_errorsOf_o8 sk e h R) := nr rfl
@[simp, simp ↓] theorem c_impl_errorsOf_20_r : vc2 C (n + 1) [] (.code c_impl_errorsOf_20 :: sk) e h R = (vc2 C n [] (.code c_impl_errorsOf_19 :: .code .ret :: sk) e h R) := nr rfl
@[simp, simp ↓] theorem c_impl_errorsOf_21_r : vc2 C (n + 1) [] (.code c_impl_errorsOf_21 :: sk) e h R = (vc2 C n [] (.code c_impl_errorsOf_18 :: .code c_impl_errorsOf_20 :: sk) e h R) := nr rfl
@[simp, simp ↓] theorem c_impl_errorsOf_22_r : vc2 C (n + 1) [] (.code c_impl_errorsOf_22 :: sk) e h R = (vc2 C n [] (.code c_impl_errorsOf_1 :: .code c_impl_errorsOf_21 :: sk) e h R) := nr rfl
@[simp, simp ↓] theorem c_impl_errorsOf_23_r : vc2 C (n + 1) [] (.code c_impl_errorsOf_23 :: sk) e h R = (vc2 C n [] (.code c_impl_errorsOf_0 :: .code c_impl_errorsOf_22 :: sk) e h R) := nr rfl
end
noncomputable def c_impl_errorsOf_C (orc : Orc) : Cx := ⟨Try.prog, [7], 61, 39, [.tmp 4], orc⟩
@[simp] theorem c_impl_errorsOf_C_P (orc : Orc) : (c_impl_errorsOf_C orc).P = Try.prog := nr rfl
@[simp] theorem c_impl_errorsOf_C_o (orc : Orc) : (c_impl_errorsOf_C orc).orc = orc := nr rfl
@[simp] theorem c_impl_errorsOf_C_r (orc : Orc) : (c_impl_errorsOf_C orc).res = [.tmp 4] := nr rfl
theorem c_impl_errorsOf_of {args : List AV} {h : Heap} {R : AV → Heap → Prop} {k : Nat} (ha : args.length = k) {orc : Orc} (hp : Pure Try.prog orc) (hk : Is (c_impl_errorsOf_C orc) Try.f61 → Run2 (c_impl_errorsOf_C orc) [.code c_impl_errorsOf_23] (argEnv 0 args) h (Post R)) (hle : k ≤ 39 := by simp) : ACalls Try.prog 61 args h R :=
  contract2 [7] c_impl_errorsOf_23 [.tmp 4] Try.func61 (by decide +kernel) rfl (by kernel_rfl) (by rw [ha]; exact hle) (by kernel_rfl) hp hk
theorem c_impl_errorsOf_of0 {args : List AV} {h : Heap} {R : AV → Heap → Prop} {k : Nat} (ha : args.length = k) {orc : Orc} (hp : Pure Try.prog orc) (hk : Is (c_impl_errorsOf_C orc) Try.f61 → Run2 (c_impl_errorsOf_C orc) [.code c_impl_errorsOf_23] (argEnv 0 args) h R) (hle : k ≤ 39 := by simp) : ACalls Try.prog 61 args h R :=
  contract20 [7] c_impl_errorsOf_23 [.tmp 4] Try.func61 (by decide +kernel) rfl (by kernel_rfl) (by rw [ha]; exact hle) (by kernel_rfl) hp hk
theorem errorsOf_w (x : Ph) (p : List Int) (h : Heap) (hv : x.valid) (hp : vec p x.n x.m) : ACalls Try.prog 61 [x.av, .snap 1 (p.map iv)] h (fun v h' => ∃ hp, Grow 1 v ((x.wr p x.ts.length).map iv) hp ∧ h' = hp ++ h) := by
  have hm1 := hv.2.2.1
  have hm2 := hv.2.2.2.1
  have hl := hv.2.2.2.2.2
  refine c_impl_errorsOf_of0 rfl noPure fun I => ?_
  refine Run2.of I 1000 ?_
  simp -implicitDefEqProofs
  refine Run2.loopE (α := Nat × AV × Heap) (fun s => [(1, .snap 1 (p.map iv)), (2, .ip [.int .i64 x.n, .int .i64 x.m, .snap 3 (x.ts.map T.av)]), (5, s.2.1), (9, .snap 3 (x.ts.map T.av)), (10, .int .i64 x.ts.length), (11, .int .i64 (s.1 : Nat))]) (fun s => s.2.2 ++ h) (fun s => x.ts.length - s.1) (fun s => s.1 ≤ x.ts.length ∧ Grow 1 s.2.1 ((x.wr p s.1).map iv) s.2.2) (0, .nilsl, []) (by simp) rfl ⟨Nat.zero_le _, by simpa [Ph.wr] using Grow.nil⟩ ?_
  rintro ⟨i, w, hp'⟩ ⟨hi, hg⟩ ih
  by_cases hlt : i < x.ts.length
  · obtain ⟨h1, h2, e1, e2, e3, e4, e5, e6, hb⟩ := Ph.ends hv hp hlt
    have hw := x.wr_succ p hlt
    have hwl := x.wr_len p i
    have htm : (p[x.ts[i].f.toNat] + x.ts[i].s).tmod x.m = (p[x.ts[i].f.toNat] + x.ts[i].s) % x.m := Int.tmod_eq_emod_of_nonneg (by omega)
    have go := fun w' hp'' hg' => ih (i + 1, w', hp'') ⟨by simp; omega, hg'⟩ (by simp; omega)
    clear ih
    refine Run2.of I 1000 ?_
    simp -implicitDefEqProofs [hlt, h1, h2, e1, e2, htm]
    repeat' (first | refine And.intro ?_ ?_ | intro _)
    all_goals first | omega | skip
    · rename_i hne
      refine Grow.app hg (by simp; omega) (by simp) fun w' hp'' hg' => ?_
      simp -implicitDefEqProofs
      rw [hb, if_pos (by simpa using hne)] at hw
      exact ⟨by omega, go w' hp'' (by rw [hw]; simpa using hg')⟩
    · rename_i hne
      rw [hb, if_neg (by simpa using hne), List.append_nil] at hw
      exact go w hp' (by rw [hw]; exact hg)
  · obtain rfl : i = x.ts.length := by simp at hi hlt; omega
    refine Run2.of I 1000 ?_
    simp -implicitDefEqProofs
    exact hg
noncomputable def orcF : List (Nat × (List AV → Option (Prop × AV))) := (20, o_valid) :: (60, o_arePhases) :: orcE2
theorem orcF_p : Pure Try.prog (lk orcF) := (lk_pure o_valid_k (lk_pure o_arePhases_k orcE2_p))
@[simp] theorem orcF_l (g : FuncId) (l : List AV) : lk orcF g l = if g = 20 then o_valid l else if g = 60 then o_arePhases l else lk orcE2 g l := nr rfl
abbrev c_impl_ErrorsOf_o0 : List AJ := [.o ⟨(some 2), none, false, .box false 3 (.t 0), none⟩, .o ⟨(some 4), none, false, .mv (.c .nilsl), none⟩, .o ⟨(some 5), none, false, .mv (.c (.int .i64 0)), (some [1, 2])⟩]
def c_impl_ErrorsOf_0 : ACode := .region c_impl_ErrorsOf_o0
abbrev c_impl_ErrorsOf_o1 : List AJ := [.o ⟨(some 6), none, false, .load 3 true (.t 2), none⟩, .o ⟨(some 7), none, false, .call 20 [(.t 6)], none⟩, .o ⟨(some 8), none, false, .un .not (.t 7), (some [1, 2, 8])⟩]
def c_impl_ErrorsOf_1 : ACode := .region c_impl_ErrorsOf_o1
abbrev c_impl_ErrorsOf_o2 : List AJ := [.o ⟨(some 4), none, false, .mv (.c .nilsl), none⟩, .o ⟨(some 5), none, false, .mv (.c (.int .i64 1)), (some [4, 5])⟩]
def c_impl_ErrorsOf_2 : ACode := .region c_impl_ErrorsOf_o2
def c_impl_ErrorsOf_3 : ACode := .seq c_impl_ErrorsOf_2 .ret
def c_impl_ErrorsOf_4 : ACode := .cond (.t 8) c_impl_ErrorsOf_3 .skip
def c_impl_ErrorsOf_5 : ACode := .seq c_impl_ErrorsOf_1 c_impl_ErrorsOf_4
abbrev c_impl_ErrorsOf_o3 : List AJ := [.o ⟨(some 9), none, false, .load 3 true (.t 2), none⟩, .o ⟨(some 10), none, false, .mv (.t 1), none⟩, .o ⟨(some 11), none, false, .call 60 [(.t 9), (.t 10)], none⟩, .o ⟨(some 12), none, false, .un .not (.t 11), (some [1, 2, 12])⟩]
def c_impl_ErrorsOf_6 : ACode := .region c_impl_ErrorsOf_o3
abbrev c_impl_ErrorsOf_o4 : List AJ := [.o ⟨(some 4), none, false, .mv (.c .nilsl), none⟩, .o ⟨(some 5), none, false, .mv (.c (.int .i64 7)), (some [4, 5])⟩]
def c_impl_ErrorsOf_7 : ACode := .region c_impl_ErrorsOf_o4
def c_impl_ErrorsOf_8 : ACode := .seq c_impl_ErrorsOf_7 .ret
def c_impl_ErrorsOf_9 : ACode := .cond (.t 12) c_impl_ErrorsOf_8 .skip
def c_impl_ErrorsOf_10 : ACode := .seq c_impl_ErrorsOf_6 c_impl_ErrorsOf_9
abbrev c_impl_ErrorsOf_o5 : List AJ := [.o ⟨(some 13), none, false, .load 3 true (.t 2), none⟩, .o ⟨(some 14), none, false, .mv (.t 1), none⟩, .o ⟨(some 15), none, false, .call 61 [(.t 13), (.t 14)], none⟩, .o ⟨(some 4), none, false, .mv (.t 15), none⟩, .o ⟨(some 5), none, false, .mv (.c (.int .i64 0)), (some [4, 5])⟩]
def c_impl_ErrorsOf_11 : ACode := .region c_impl_ErrorsOf_o5
def c_impl_ErrorsOf_12 : ACode := .seq c_impl_ErrorsOf_11 .ret
def c_impl_ErrorsOf_13 : ACode := .seq c_impl_ErrorsOf_10 c_impl_ErrorsOf_12
def c_impl_ErrorsOf_14 : ACode := .seq c_impl_ErrorsOf_5 c_impl_ErrorsOf_13
def c_impl_ErrorsOf_15 : ACode := .seq c_impl_ErrorsOf_0 c_impl_ErrorsOf_14
section
variable (C : Cx) (n : Nat) (sk : List AItem) (e : Env) (h : Heap) (R : AV → Heap → Prop)
@[simp, simp ↓] theorem c_impl_ErrorsOf_0_r : vc2 C (n + 1) [] (.code c_impl_ErrorsOf_0 :: sk) e h R = (vc2 C n c_impl_ErrorsOf_o0 sk e h R) := nr rfl
@[simp, simp ↓] theorem c_impl_ErrorsOf_1_r : vc2 C (n + 1) [] (.code c_impl_ErrorsOf_1 :: sk) e h R = (vc2 C n c_impl_ErrorsOf_o1 sk e h R) := nr rfl
@[simp, simp ↓] theorem c_impl_ErrorsOf_2_r : vc2 C (n + 1) [] (.code c_impl_ErrorsOf_2 :: sk) e h R = (vc2 C n c_impl_ErrorsOf_o2 sk e h R) := nr rfl
@[simp, simp ↓] theorem c_impl_ErrorsOf_3_r : vc2 C (n + 1) [] (.code c_impl_ErrorsOf_3 :: sk) e h R = (vc2 C n [] (.code c_impl_ErrorsOf_2 :: .code .ret :: sk) e h R) := nr rfl
@[simp, simp ↓] theorem c_impl_ErrorsOf_4_r : vc2 C (n + 1) [] (.code c_impl_ErrorsOf_4 :: sk) e h R = (condK (ev e (.t 8)) (vc2 C n [] (.code c_impl_ErrorsOf_3 :: sk) e h R) (vc2 C n [] (.code .skip :: sk) e h R)) := nr rfl
@[simp, simp ↓] theorem c_impl_ErrorsOf_5_r : vc2 C (n + 1) [] (.code c_impl_ErrorsOf_5 :: sk) e h R = (vc2 C n [] (.code c_impl_ErrorsOf_1 :: .code c_impl_ErrorsOf_4 :: sk) e h R) := nr rfl
@[simp, simp ↓] theorem c_impl_ErrorsOf_6_r : vc2 C (n + 1) [] (.code c_impl_ErrorsOf_6 :: sk) e h R = (vc2 C n c_impl_ErrorsOf_o3 sk e h R) := nr rfl
@[simp, simp ↓] theorem c_impl_ErrorsOf_7_r : vc2 C (n + 1) [] (.code c_impl_ErrorsOf_7 :: sk) e h R = (vc2 C n c_impl_ErrorsOf_o4 sk e h R) := nr rfl
@[simp, simp ↓] theorem c_impl_ErrorsOf_8_r : vc2 C (n + 1) [] (.code c_impl_ErrorsOf_8 :: sk) e h R = (vc2 C n [] (.code c_impl_ErrorsOf_7 :: .code .ret :: sk) e h R) := nr rfl
@[simp, simp ↓] theorem c_impl_ErrorsOf_9_r : vc2 C (n + 1) [] (.code c_impl_ErrorsOf_9 :: sk) e h R = (condK (ev e (.t 12)) (vc2 C n [] (.code c_impl_ErrorsOf_8 :: sk) e h R) (vc2 C n [] (.code .skip :: sk) e h R)) := nr rfl
@[simp, simp ↓] theorem c_impl_ErrorsOf_10_r : vc2 C (n + 1) [] (.code c_impl_ErrorsOf_10 :: sk) e h R = (vc2 C n [] (.code c_impl_ErrorsOf_6 :: .code c_impl_ErrorsOf_9 :: sk) e h R) := nr rfl
@[simp, simp ↓] theorem c_impl_ErrorsOf_11_r : vc2 C (n + 1) [] (.code c_impl_ErrorsOf_11 :: sk) e h R = (vc2 C n c_impl_ErrorsOf_o5 sk e h R) := nr rfl
@[simp, simp ↓] theorem c_impl_ErrorsOf_12_r : vc2 C (n + 1) [] (.code c_impl_ErrorsOf_12 :: sk) e h R = (vc2 C n [] (.code c_impl_ErrorsOf_11 :: .code .ret :: sk) e h R) := nr rfl
@[simp, simp ↓] theorem c_impl_ErrorsOf_13_r : vc2 C (n + 1) [] (.code c_impl_ErrorsOf_13 :: sk) e h R = (vc2 C n [] (.code c_impl_ErrorsOf_10 :: .code c_impl_ErrorsOf_12 :: sk) e h R) := nr rfl
@[simp, simp ↓] theorem c_impl_ErrorsOf_14_r : vc2 C (n + 1) [] (.code c_impl_ErrorsOf_14 :: sk) e h R = (vc2 C n [] (.code c_impl_ErrorsOf_5 :: .code c_impl_ErrorsOf_13 :: sk) e h R) := nr rfl
@[simp, simp ↓] theorem c_impl_ErrorsOf_15_r : vc2 C (n + 1) [] (.code c_impl_ErrorsOf_15 :: sk) e h R = (vc2 C n [] (.code c_impl_ErrorsOf_0 :: .code c_impl_ErrorsOf_14 :: sk) e h R) := nr rfl
end
noncomputable def c_impl_ErrorsOf_C (orc : Orc) : Cx := ⟨Try.prog, [], 28, 16, [.tmp 4, .tmp 5], orc⟩
@[simp] theorem c_impl_ErrorsOf_C_P (orc : Orc) : (c_impl_ErrorsOf_C orc).P = Try.prog := nr rfl
@[simp] theorem c_impl_ErrorsOf_C_o (orc : Orc) : (c_impl_ErrorsOf_C orc).orc = orc := nr rfl
@[simp] theorem c_impl_ErrorsOf_C_r (orc : Orc) : (c_impl_ErrorsOf_C orc).res = [.tmp 4, .tmp 5] := nr rfl
theorem c_impl_ErrorsOf_of {args : List AV} {h : Heap} {R : AV → Heap → Prop} {k : Nat} (ha : args.length = k) {orc : Orc} (hp : Pure Try.prog orc) (hk : Is (c_impl_ErrorsOf_C orc) Try.f28 → Run2 (c_impl_ErrorsOf_C orc) [.code c_impl_ErrorsOf_15] (argEnv 0 args) h (Post R)) (hle : k ≤ 16 := by simp) : ACalls Try.prog 28 args h R :=
  contract2 [] c_impl_ErrorsOf_15 [.tmp 4, .tmp 5] Try.func28 (by decide +kernel) rfl (by kernel_rfl) (by rw [ha]; exact hle) (by kernel_rfl) hp hk
theorem c_impl_ErrorsOf_of0 {args : List AV} {h : Heap} {R : AV → Heap → Prop} {k : Nat} (ha : args.length = k) {orc : Orc} (hp : Pure Try.prog orc) (hk : Is (c_impl_ErrorsOf_C orc) Try.f28 → Run2 (c_impl_ErrorsOf_C orc) [.code c_impl_ErrorsOf_15] (argEnv 0 args) h R) (hle : k ≤ 16 := by simp) : ACalls Try.prog 28 args h R :=
  contract20 [] c_impl_ErrorsOf_15 [.tmp 4, .tmp 5] Try.func28 (by decide +kernel) rfl (by kernel_rfl) (by rw [ha]; exact hle) (by kernel_rfl) hp hk
theorem implErrors_w (x : Ph) (p : List Int) (h : Heap) (ok : x.ok) (hl : x.ts.length ≤ 1048576) (hp : p.length ≤ 1048576) : ACalls Try.prog 28 [x.av, .snap 1 (p.map iv)] h (fun v h' => ∃ w hp, v = .tup [w, .int .i64 (x.ecode p)] ∧ Grow 1 w ((x.eres p).map iv) hp ∧ h' = hp ++ h) := by
  refine c_impl_ErrorsOf_of0 rfl orcF_p fun I => ?_
  refine Run2.of I 1000 ?_
  simp -implicitDefEqProofs [ok, hl, hp]
  unfold Ph.eres Ph.ecode
  refine ⟨fun hv => ?_, fun hv => ⟨Ph.valid_m hv, fun h2 => ?_, fun h2 => ?_⟩⟩
  · exact ⟨_, ⟨rfl, by simp [hv]⟩, by simpa [hv] using Grow.nil⟩
  · exact ⟨_, ⟨rfl, by simp [hv, h2]⟩, by simpa [hv, h2] using Grow.nil⟩
  · refine (errorsOf_w x p h hv h2).mono ?_
    rintro v h' ⟨hp', hg, rfl⟩
    refine gK.go ?_
    simp -implicitDefEqProofs
    refine ⟨_, ⟨rfl, by simp [hv, h2]⟩, ?_⟩
    rw [if_pos ⟨hv, h2⟩]; exact hg
theorem implErrors_o (x : Ph) (p : List Int) (ok : x.ok) (hl : x.ts.length ≤ 1048576) (hp : p.length ≤ 1048576) : ACalls Try.prog 28 [x.av, .snap 1 (p.map iv)] [] (fun v h' => ∃ w, v = .tup [w, .int .i64 (x.ecode p)] ∧ OwnL iv 1 w (x.eres p) h') :=
  (implErrors_w x p [] ok hl hp).mono fun v h' ⟨w, hq, e, hg, e2⟩ => ⟨w, e, by rw [e2]; simpa using hg.own⟩
abbrev c_impl_IsPotential_o0 : List AJ := [.o ⟨(some 2), none, false, .box false 3 (.t 0), none⟩, .o ⟨(some 4), none, false, .mv (.c (.bool false)), (some [1, 2])⟩]
def c_impl_IsPotential_0 : ACode := .region c_impl_IsPotential_o0
abbrev c_impl_IsPotential_o1 : List AJ := [.o ⟨(some 8), none, false, .load 3 true (.t 2), none⟩, .o ⟨(some 9), none, false, .mv (.t 1), none⟩, .o ⟨(some 10), none, false, .call 28 [(.t 8), (.t 9)], none⟩, .o ⟨(some 7), none, false, .mv (.t 10), none⟩, .o ⟨(some 11), none, false, .extract (.t 7) 0, none⟩, .o ⟨(some 12), none, false, .extract (.t 7) 1, none⟩, .o ⟨(some 5), none, false, .mv (.t 11), none⟩, .o ⟨(some 6), none, false, .mv (.t 12), (some [5, 6])⟩]
def c_impl_IsPotential_1 : ACode := .region c_impl_IsPotential_o1
abbrev c_impl_IsPotential_o2 : List AJ := [.o ⟨(some 13), none, false, .mv (.t 6), none⟩, .o ⟨(some 14), none, false, .bin .eql (.t 13) (.c (.int .i64 0)), none⟩, .o ⟨(some 15), none, false, .mv (.t 14), none⟩, .o ⟨(some 16), (some (15, true)), false, .mv (.t 5), none⟩, .o ⟨(some 17), (some (15, true)), false, .len (.t 16), none⟩, .o ⟨(some 18), (some (15, true)), false, .bin .eql (.t 17) (.c (.int .i64 0)), none⟩, .o ⟨(some 19), none, false, .pick (.t 15) (.t 18) (.c (.bool false)), none⟩, .o ⟨(some 4), none, false, .mv (.t 19), (some [4])⟩]
def c_impl_IsPotential_2 : ACode := .region c_impl_IsPotential_o2
def c_impl_IsPotential_3 : ACode := .seq c_impl_IsPotential_2 .ret
def c_impl_IsPotential_4 : ACode := .seq c_impl_IsPotential_1 c_impl_IsPotential_3
def c_impl_IsPotential_5 : ACode := .seq c_impl_IsPotential_0 c_impl_IsPotential_4
section
variable (C : Cx) (n : Nat) (sk : List AItem) (e : Env) (h : Heap) (R : AV → Heap → Prop)
@[simp, simp ↓] theorem c_impl_IsPotential_0_r : vc2 C (n + 1) [] (.code c_impl_IsPotential_0 :: sk) e h R = (vc2 C n c_impl_IsPotential_o0 sk e h R) := nr rfl
@[simp, simp ↓] theorem c_impl_IsPotential_1_r : vc2 C (n + 1) [] (.code c_impl_IsPotential_1 :: sk) e h R = (vc2 C n c_impl_IsPotential_o1 sk e h R) := nr rfl
@[simp, simp ↓] theorem c_impl_IsPotential_2_r : vc2 C (n + 1) [] (.code c_impl_IsPotential_2 :: sk) e h R = (vc2 C n c_impl_IsPotential_o2 sk e h R) := nr rfl
@[simp, simp ↓] theorem c_impl_IsPotential_3_r : vc2 C (n + 1) [] (.code c_impl_IsPotential_3 :: sk) e h R = (vc2 C n [] (.code c_impl_IsPotential_2 :: .code .ret :: sk) e h R) := nr rfl
@[simp, simp ↓] theorem c_impl_IsPotential_4_r : vc2 C (n + 1) [] (.code c_impl_IsPotential_4 :: sk) e h R = (vc2 C n [] (.code c_impl_IsPotential_1 :: .code c_impl_IsPotential_3 :: sk) e h R) := nr rfl
@[simp, simp ↓] theorem c_impl_IsPotential_5_r : vc2 C (n + 1) [] (.code c_impl_IsPotential_5 :: sk) e h R = (vc2 C n [] (.code c_impl_IsPotential_0 :: .code c_impl_IsPotential_4 :: sk) e h R) := nr rfl
end
noncomputable def c_impl_IsPotential_C (orc : Orc) : Cx := ⟨Try.prog, [], 26, 20, [.tmp 4], orc⟩
@[simp] theorem c_impl_IsPotential_C_P (orc : Orc) : (c_impl_IsPotential_C orc).P = Try.prog := nr rfl
@[simp] theorem c_impl_IsPotential_C_o (orc : Orc) : (c_impl_IsPotential_C orc).orc = orc := nr rfl
@[simp] theorem c_impl_IsPotential_C_r (orc : Orc) : (c_impl_IsPotential_C orc).res = [.tmp 4] := nr rfl
theorem c_impl_IsPotential_of {args : List AV} {h : Heap} {R : AV → Heap → Prop} {k : Nat} (ha : args.length = k) {orc : Orc} (hp : Pure Try.prog orc) (hk : Is (c_impl_IsPotential_C orc) Try.f26 → Run2 (c_impl_IsPotential_C orc) [.code c_impl_IsPotential_5] (argEnv 0 args) h (Post R)) (hle : k ≤ 20 := by simp) : ACalls Try.prog 26 args h R :=
  contract2 [] c_impl_IsPotential_5 [.tmp 4] Try.func26 (by decide +kernel) rfl (by kernel_rfl) (by rw [ha]; exact hle) (by kernel_rfl) hp hk
theorem c_impl_IsPotential_of0 {args : List AV} {h : Heap} {R : AV → Heap → Prop} {k : Nat} (ha : args.length = k) {orc : Orc} (hp : Pure Try.prog orc) (hk : Is (c_impl_IsPotential_C orc) Try.f26 → Run2 (c_impl_IsPotential_C orc) [.code c_impl_IsPotential_5] (argEnv 0 args) h R) (hle : k ≤ 20 := by simp) : ACalls Try.prog 26 args h R :=
  contract20 [] c_impl_IsPotential_5 [.tmp 4] Try.func26 (by decide +kernel) rfl (by kernel_rfl) (by rw [ha]; exact hle) (by kernel_rfl) hp hk
theorem implIsPot_c (x : Ph) (p : List Int) (h : Heap) (ok : x.ok) (hl : x.ts.length ≤ 1048576) (hp : p.length ≤ 1048576) : ACalls Try.prog 26 [x.av, .snap 1 (p.map iv)] h (fun v h' => v = .bool (decide (x.valid ∧ vec p x.n x.m ∧ x.wr p x.ts.length = [])) ∧ h' = h) := by
  refine c_impl_IsPotential_of rfl orcF_p fun I => ?_
  refine Run2.of I 1000 ?_
  simp -implicitDefEqProofs
  refine (implErrors_w x p h ok hl hp).mono ?_
  rintro v h' ⟨w, hp', rfl, hg, rfl⟩
  have hlen := hg.len
  refine gK.go ?_
  simp -implicitDefEqProofs [hlen]
  refine ⟨fun h1 => hg.dropped (.base ⟨?_, rfl⟩), fun h1 => hg.dropped (.base ⟨?_, rfl⟩)⟩
  all_goals (by_cases h2 : x.valid <;> by_cases h3 : vec p x.n x.m <;> simp_all [Ph.ecode, Ph.eres])
end Go.AG
