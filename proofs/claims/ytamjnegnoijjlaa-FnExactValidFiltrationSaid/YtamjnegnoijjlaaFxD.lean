/- What a complex is: the program's function and the reference's. No statement is made here. -/
import Derived.Test.YtamjnegnoijjlaaFxC
namespace Go.AG
open Go.Proofs Go.Proofs.Ytamjnegnoijjlaa
set_option linter.unusedSimpArgs false
set_option linter.unusedVariables false
set_option maxRecDepth 4000
abbrev c_impl_isVertex_o0 : List AJ := [.o ⟨(some 2), none, false, .mv (.c (.bool false)), (some [0])⟩]
def c_impl_isVertex_0 : ACode := .region c_impl_isVertex_o0
abbrev c_impl_isVertex_o1 : List AJ := [.o ⟨(some 3), none, false, .mv (.t 0), none⟩, .o ⟨(some 4), none, false, .call 69 [(.t 3), (.c (.int .i64 0)), (.c (.int .i64 9))], none⟩, .o ⟨(some 2), none, false, .mv (.t 4), (some [2])⟩]
def c_impl_isVertex_1 : ACode := .region c_impl_isVertex_o1
def c_impl_isVertex_2 : ACode := .seq c_impl_isVertex_1 .ret
def c_impl_isVertex_3 : ACode := .seq c_impl_isVertex_0 c_impl_isVertex_2
section
variable (C : Cx) (n : Nat) (sk : List AItem) (e : Env) (h : Heap) (R : AV → Heap → Prop)
@[simp, simp ↓] theorem c_impl_isVertex_0_r : vc2 C (n + 1) [] (.code c_impl_isVertex_0 :: sk) e h R = (vc2 C n c_impl_isVertex_o0 sk e h R) := nr rfl
@[simp, simp ↓] theorem c_impl_isVertex_1_r : vc2 C (n + 1) [] (.code c_impl_isVertex_1 :: sk) e h R = (vc2 C n c_impl_isVertex_o1 sk e h R) := nr rfl
@[simp, simp ↓] theorem c_impl_isVertex_2_r : vc2 C (n + 1) [] (.code c_impl_isVertex_2 :: sk) e h R = (vc2 C n [] (.code c_impl_isVertex_1 :: .code .ret :: sk) e h R) := nr rfl
@[simp, simp ↓] theorem c_impl_isVertex_3_r : vc2 C (n + 1) [] (.code c_impl_isVertex_3 :: sk) e h R = (vc2 C n [] (.code c_impl_isVertex_0 :: .code c_impl_isVertex_2 :: sk) e h R) := nr rfl
end
noncomputable def c_impl_isVertex_C (orc : Orc) : Cx := ⟨Try.prog, [], 131, 5, [.tmp 2], orc⟩
@[simp] theorem c_impl_isVertex_C_P (orc : Orc) : (c_impl_isVertex_C orc).P = Try.prog := nr rfl
@[simp] theorem c_impl_isVertex_C_o (orc : Orc) : (c_impl_isVertex_C orc).orc = orc := nr rfl
@[simp] theorem c_impl_isVertex_C_r (orc : Orc) : (c_impl_isVertex_C orc).res = [.tmp 2] := nr rfl
theorem c_impl_isVertex_of {args : List AV} {h : Heap} {R : AV → Heap → Prop} {k : Nat} (ha : args.length = k) {orc : Orc} (hp : Pure Try.prog orc) (hk : Is (c_impl_isVertex_C orc) Try.f131 → Run2 (c_impl_isVertex_C orc) [.code c_impl_isVertex_3] (argEnv 0 args) h (Post R)) (hle : k ≤ 5 := by simp) : ACalls Try.prog 131 args h R :=
  contract2 [] c_impl_isVertex_3 [.tmp 2] Try.func131 (by decide +kernel) rfl (by kernel_rfl) (by rw [ha]; exact hle) (by kernel_rfl) hp hk
theorem c_impl_isVertex_of0 {args : List AV} {h : Heap} {R : AV → Heap → Prop} {k : Nat} (ha : args.length = k) {orc : Orc} (hp : Pure Try.prog orc) (hk : Is (c_impl_isVertex_C orc) Try.f131 → Run2 (c_impl_isVertex_C orc) [.code c_impl_isVertex_3] (argEnv 0 args) h R) (hle : k ≤ 5 := by simp) : ACalls Try.prog 131 args h R :=
  contract20 [] c_impl_isVertex_3 [.tmp 2] Try.func131 (by decide +kernel) rfl (by kernel_rfl) (by rw [ha]; exact hle) (by kernel_rfl) hp hk
theorem isVertex_c (a : Int) (h : Heap) : ACalls Try.prog 131 [.int .i64 a] h (fun v h' => v = .bool (decide (0 ≤ a) && decide (a ≤ 9)) ∧ h' = h) := by
  refine c_impl_isVertex_of0 rfl orc1_p fun I => ?_
  refine Run2.of I 1000 ?_
  simp -implicitDefEqProofs
noncomputable def o_isVertex : List AV → Option (Prop × AV) := tab (fun (x : Int) => match x with | a => [.int .i64 a]) (fun x => match x with | a => True) (fun x => match x with | a => .bool (decide (0 ≤ a) && decide (a ≤ 9)))
@[simp] theorem o_isVertex_e (a : Int) : o_isVertex [.int .i64 a] = some (True, .bool (decide (0 ≤ a) && decide (a ≤ 9))) := tab_at (enc := fun (x : Int) => match x with | a => [.int .i64 a]) (fun x y h => by
  simp at h; simp [h] <;> omega) _ _ a
theorem o_isVertex_k : Knows Try.prog 131 o_isVertex := tab_knows fun x hx h => by
  exact isVertex_c _ h
noncomputable def orcV : List (Nat × (List AV → Option (Prop × AV))) := (131, o_isVertex) :: (129, o_isRising) :: []
theorem orcV_p : Pure Try.prog (lk orcV) := (lk_pure o_isVertex_k (lk_pure o_isRising_k lk_pure0))
@[simp] theorem orcV_l (g : FuncId) (l : List AV) : lk orcV g l = if g = 131 then o_isVertex l else if g = 129 then o_isRising l else none := nr rfl
abbrev c_impl_ValidSimplex_1_o0 : List AJ := [.o ⟨(some 2), none, false, .mv (.c (.bool false)), (some [0])⟩]
def c_impl_ValidSimplex_1_0 : ACode := .region c_impl_ValidSimplex_1_o0
abbrev c_impl_ValidSimplex_1_o1 : List AJ := [.o ⟨(some 3), none, false, .mv (.t 0), none⟩, .o ⟨(some 4), none, false, .call 131 [(.t 3)], none⟩, .o ⟨(some 5), none, false, .un .not (.t 4), none⟩, .o ⟨(some 2), none, false, .mv (.t 5), (some [2])⟩]
def c_impl_ValidSimplex_1_1 : ACode := .region c_impl_ValidSimplex_1_o1
def c_impl_ValidSimplex_1_2 : ACode := .seq c_impl_ValidSimplex_1_1 .ret
def c_impl_ValidSimplex_1_3 : ACode := .seq c_impl_ValidSimplex_1_0 c_impl_ValidSimplex_1_2
section
variable (C : Cx) (n : Nat) (sk : List AItem) (e : Env) (h : Heap) (R : AV → Heap → Prop)
@[simp, simp ↓] theorem c_impl_ValidSimplex_1_0_r : vc2 C (n + 1) [] (.code c_impl_ValidSimplex_1_0 :: sk) e h R = (vc2 C n c_impl_ValidSimplex_1_o0 sk e h R) := nr rfl
@[simp, simp ↓] theorem c_impl_ValidSimplex_1_1_r : vc2 C (n + 1) [] (.code c_impl_ValidSimplex_1_1 :: sk) e h R = (vc2 C n c_impl_ValidSimplex_1_o1 sk e h R) := nr rfl
@[simp, simp ↓] theorem c_impl_ValidSimplex_1_2_r : vc2 C (n + 1) [] (.code c_impl_ValidSimplex_1_2 :: sk) e h R = (vc2 C n [] (.code c_impl_ValidSimplex_1_1 :: .code .ret :: sk) e h R) := nr rfl
@[simp, simp ↓] theorem c_impl_ValidSimplex_1_3_r : vc2 C (n + 1) [] (.code c_impl_ValidSimplex_1_3 :: sk) e h R = (vc2 C n [] (.code c_impl_ValidSimplex_1_0 :: .code c_impl_ValidSimplex_1_2 :: sk) e h R) := nr rfl
end
noncomputable def c_impl_ValidSimplex_1_C (orc : Orc) : Cx := ⟨Try.prog, [], 130, 6, [.tmp 2], orc⟩
@[simp] theorem c_impl_ValidSimplex_1_C_P (orc : Orc) : (c_impl_ValidSimplex_1_C orc).P = Try.prog := nr rfl
@[simp] theorem c_impl_ValidSimplex_1_C_o (orc : Orc) : (c_impl_ValidSimplex_1_C orc).orc = orc := nr rfl
@[simp] theorem c_impl_ValidSimplex_1_C_r (orc : Orc) : (c_impl_ValidSimplex_1_C orc).res = [.tmp 2] := nr rfl
theorem c_impl_ValidSimplex_1_of {args : List AV} {h : Heap} {R : AV → Heap → Prop} {k : Nat} (ha : args.length = k) {orc : Orc} (hp : Pure Try.prog orc) (hk : Is (c_impl_ValidSimplex_1_C orc) Try.f130 → Run2 (c_impl_ValidSimplex_1_C orc) [.code c_impl_ValidSimplex_1_3] (argEnv 0 args) h (Post R)) (hle : k ≤ 6 := by simp) : ACalls Try.prog 130 args h R :=
  contract2 [] c_impl_ValidSimplex_1_3 [.tmp 2] Try.func130 (by decide +kernel) rfl (by kernel_rfl) (by rw [ha]; exact hle) (by kernel_rfl) hp hk
theorem c_impl_ValidSimplex_1_of0 {args : List AV} {h : Heap} {R : AV → Heap → Prop} {k : Nat} (ha : args.length = k) {orc : Orc} (hp : Pure Try.prog orc) (hk : Is (c_impl_ValidSimplex_1_C orc) Try.f130 → Run2 (c_impl_ValidSimplex_1_C orc) [.code c_impl_ValidSimplex_1_3] (argEnv 0 args) h R) (hle : k ≤ 6 := by simp) : ACalls Try.prog 130 args h R :=
  contract20 [] c_impl_ValidSimplex_1_3 [.tmp 2] Try.func130 (by decide +kernel) rfl (by kernel_rfl) (by rw [ha]; exact hle) (by kernel_rfl) hp hk
theorem VS1_c (a : Int) (h : Heap) : ACalls Try.prog 130 [.int .i64 a] h (fun v h' => v = .bool (!(decide (0 ≤ a) && decide (a ≤ 9))) ∧ h' = h) := by
  refine c_impl_ValidSimplex_1_of0 rfl orcV_p fun I => ?_
  refine Run2.of I 1000 ?_
  simp -implicitDefEqProofs
abbrev c_impl_ValidSimplex_o0 : List AJ := [.o ⟨(some 2), none, false, .mv (.c (.bool false)), (some [0])⟩]
def c_impl_ValidSimplex_0 : ACode := .region c_impl_ValidSimplex_o0
abbrev c_impl_ValidSimplex_o1 : List AJ := [.o ⟨(some 3), none, false, .mv (.t 0), none⟩, .o ⟨(some 4), none, false, .len (.t 3), none⟩, .o ⟨(some 5), none, false, .bin .geq (.t 4) (.c (.int .i64 1)), none⟩, .o ⟨(some 6), none, false, .mv (.t 5), none⟩, .o ⟨(some 7), (some (6, true)), false, .mv (.t 0), none⟩, .o ⟨(some 8), (some (6, true)), false, .len (.t 7), none⟩, .o ⟨(some 9), (some (6, true)), false, .bin .leq (.t 8) (.c (.int .i64 4)), none⟩, .o ⟨(some 10), none, false, .pick (.t 6) (.t 9) (.c (.bool false)), none⟩, .o ⟨(some 11), none, false, .mv (.t 10), none⟩, .o ⟨(some 12), (some (11, true)), false, .mv (.t 0), (some [0, 11, 12])⟩, .o ⟨(some 13), (some (11, true)), false, .call 129 [(.t 12)], none⟩, .o ⟨(some 14), none, false, .pick (.t 11) (.t 13) (.c (.bool false)), none⟩, .o ⟨(some 15), none, false, .mv (.t 14), none⟩, .o ⟨(some 16), (some (15, true)), false, .mv (.t 0), none⟩, .o ⟨(some 17), (some (15, true)), false, .call 55 [(.t 16), (.c (.fn 130 []))], none⟩, .o ⟨(some 18), (some (15, true)), false, .un .not (.t 17), none⟩, .o ⟨(some 19), none, false, .pick (.t 15) (.t 18) (.c (.bool false)), none⟩, .o ⟨(some 2), none, false, .mv (.t 19), (some [2])⟩]
def c_impl_ValidSimplex_1 : ACode := .region c_impl_ValidSimplex_o1
def c_impl_ValidSimplex_2 : ACode := .seq c_impl_ValidSimplex_1 .ret
def c_impl_ValidSimplex_3 : ACode := .seq c_impl_ValidSimplex_0 c_impl_ValidSimplex_2
section
variable (C : Cx) (n : Nat) (sk : List AItem) (e : Env) (h : Heap) (R : AV → Heap → Prop)
@[simp, simp ↓] theorem c_impl_ValidSimplex_0_r : vc2 C (n + 1) [] (.code c_impl_ValidSimplex_0 :: sk) e h R = (vc2 C n c_impl_ValidSimplex_o0 sk e h R) := nr rfl
@[simp, simp ↓] theorem c_impl_ValidSimplex_1_r : vc2 C (n + 1) [] (.code c_impl_ValidSimplex_1 :: sk) e h R = (vc2 C n c_impl_ValidSimplex_o1 sk e h R) := nr rfl
@[simp, simp ↓] theorem c_impl_ValidSimplex_2_r : vc2 C (n + 1) [] (.code c_impl_ValidSimplex_2 :: sk) e h R = (vc2 C n [] (.code c_impl_ValidSimplex_1 :: .code .ret :: sk) e h R) := nr rfl
@[simp, simp ↓] theorem c_impl_ValidSimplex_3_r : vc2 C (n + 1) [] (.code c_impl_ValidSimplex_3 :: sk) e h R = (vc2 C n [] (.code c_impl_ValidSimplex_0 :: .code c_impl_ValidSimplex_2 :: sk) e h R) := nr rfl
end
noncomputable def c_impl_ValidSimplex_C (orc : Orc) : Cx := ⟨Try.prog, [], 100, 20, [.tmp 2], orc⟩
@[simp] theorem c_impl_ValidSimplex_C_P (orc : Orc) : (c_impl_ValidSimplex_C orc).P = Try.prog := nr rfl
@[simp] theorem c_impl_ValidSimplex_C_o (orc : Orc) : (c_impl_ValidSimplex_C orc).orc = orc := nr rfl
@[simp] theorem c_impl_ValidSimplex_C_r (orc : Orc) : (c_impl_ValidSimplex_C orc).res = [.tmp 2] := nr rfl
theorem c_impl_ValidSimplex_of {args : List AV} {h : Heap} {R : AV → Heap → Prop} {k : Nat} (ha : args.length = k) {orc : Orc} (hp : Pure Try.prog orc) (hk : Is (c_impl_ValidSimplex_C orc) Try.f100 → Run2 (c_impl_ValidSimplex_C orc) [.code c_impl_ValidSimplex_3] (argEnv 0 args) h (Post R)) (hle : k ≤ 20 := by simp) : ACalls Try.prog 100 args h R :=
  contract2 [] c_impl_ValidSimplex_3 [.tmp 2] Try.func100 (by decide +kernel) rfl (by kernel_rfl) (by rw [ha]; exact hle) (by kernel_rfl) hp hk
theorem c_impl_ValidSimplex_of0 {args : List AV} {h : Heap} {R : AV → Heap → Prop} {k : Nat} (ha : args.length = k) {orc : Orc} (hp : Pure Try.prog orc) (hk : Is (c_impl_ValidSimplex_C orc) Try.f100 → Run2 (c_impl_ValidSimplex_C orc) [.code c_impl_ValidSimplex_3] (argEnv 0 args) h R) (hle : k ≤ 20 := by simp) : ACalls Try.prog 100 args h R :=
  contract20 [] c_impl_ValidSimplex_3 [.tmp 2] Try.func100 (by decide +kernel) rfl (by kernel_rfl) (by rw [ha]; exact hle) (by kernel_rfl) hp hk
theorem validSm_s (s : List Int) (h : Heap) (hl : s.length ≤ 1048576) : ACalls Try.prog 100 [.snap 1 (s.map iv)] h (fun v h' => v = .bool (decide (smOk s)) ∧ h' = h) := by
  refine c_impl_ValidSimplex_of0 rfl orcV_p fun I => ?_
  have hc := ContainsFunc_s s 130 [] (fun a => !(decide (0 ≤ a) && decide (a ≤ 9))) h hl fun a ha => VS1_c a h
  have hany : (s.any fun a => !(decide (0 ≤ a) && decide (a ≤ 9))) = !decide (∀ v ∈ s, 0 ≤ v ∧ v ≤ 9) := by
    rw [Bool.eq_iff_iff]; simp
    constructor
    · rintro ⟨a, h1, h2⟩; exact ⟨a, h1, by omega⟩
    · rintro ⟨a, h1, h2⟩; exact ⟨a, h1, by omega⟩
  rw [hany] at hc
  by_cases h1 : 1 ≤ s.length
  · by_cases h2 : s.length ≤ 4
    · have h1' : (1 : Int) ≤ s.length := by omega
      have h2' : (s.length : Int) ≤ 4 := by omega
      by_cases h3 : riseS s
      · have e : smOk s ↔ ∀ v ∈ s, 0 ≤ v ∧ v ≤ 9 := by unfold smOk; simp [h1, h2, h3]
        refine Run2.of I 1000 ?_
        simp -implicitDefEqProofs [hl, h1', h2', h3]
        refine hc.mono ?_
        rintro v h' ⟨rfl, rfl⟩
        refine gK.go ?_
        simp -implicitDefEqProofs [e]
      · have e : ¬ smOk s := fun h => h3 h.2.1
        refine Run2.of I 1000 ?_
        simp -implicitDefEqProofs [hl, h1', h2', h3, e]
    · have h1' : (1 : Int) ≤ s.length := by omega
      have h2' : ¬ (s.length : Int) ≤ 4 := by omega
      have e : ¬ smOk s := fun h => h2 h.1.2
      refine Run2.of I 1000 ?_
      simp -implicitDefEqProofs [hl, h1', h2', e]
  · have h1' : ¬ (1 : Int) ≤ s.length := by omega
    have e : ¬ smOk s := fun h => h1 h.1.1
    refine Run2.of I 1000 ?_
    simp -implicitDefEqProofs [hl, h1', e]
noncomputable def o_validSm : List AV → Option (Prop × AV) := tab (fun (x : List Int) => match x with | s => [.snap 1 (s.map iv)]) (fun x => match x with | s => s.length ≤ 1048576) (fun x => match x with | s => .bool (decide (smOk s)))
@[simp] theorem o_validSm_e (s : List Int) : o_validSm [.snap 1 (s.map iv)] = some (s.length ≤ 1048576, .bool (decide (smOk s))) := tab_at (enc := fun (x : List Int) => match x with | s => [.snap 1 (s.map iv)]) (fun x y h => by
  simp at h; simp [h] <;> omega) _ _ s
theorem o_validSm_k : Knows Try.prog 100 o_validSm := tab_knows fun x hx h => by
  exact validSm_s x h hx
noncomputable def o_facesOf : List AV → Option (Prop × AV) := tab (fun (x : List Int) => match x with | s => [.snap 1 (s.map iv)]) (fun x => match x with | s => s.length ≤ 1048576) (fun x => match x with | s => .snap 1 ((faces s).map il))
@[simp] theorem o_facesOf_e (s : List Int) : o_facesOf [.snap 1 (s.map iv)] = some (s.length ≤ 1048576, .snap 1 ((faces s).map il)) := tab_at (enc := fun (x : List Int) => match x with | s => [.snap 1 (s.map iv)]) (fun x y h => by
  simp at h; simp [h] <;> omega) _ _ s
theorem o_facesOf_k : Knows Try.prog 103 o_facesOf := tab_knows fun x hx h => by
  exact facesOf_s x h hx
noncomputable def orcD : List (Nat × (List AV → Option (Prop × AV))) := (100, o_validSm) :: (103, o_facesOf) :: (101, o_cmpS) :: (76, o_indexOf) :: []
theorem orcD_p : Pure Try.prog (lk orcD) := (lk_pure o_validSm_k (lk_pure o_facesOf_k (lk_pure o_cmpS_k (lk_pure o_indexOf_k lk_pure0))))
@[simp] theorem orcD_l (g : FuncId) (l : List AV) : lk orcD g l = if g = 100 then o_validSm l else if g = 103 then o_facesOf l else if g = 101 then o_cmpS l else if g = 76 then o_indexOf l else none := nr rfl
theorem ssTot_take (rs : List (List Int)) (k : Nat) : ssTot (rs.take k) ≤ ssTot rs := by
  have := sumL_le rs k
  unfold ssTot
  simp
  omega
abbrev c_impl_ValidComplex_1_o0 : List AJ := [.o ⟨(some 4), none, false, .mv (.c (.bool false)), (some [0, 1, 2])⟩]
def c_impl_ValidComplex_1_0 : ACode := .region c_impl_ValidComplex_1_o0
abbrev c_impl_ValidComplex_1_o1 : List AJ := [.o ⟨(some 5), none, false, .fieldA 0 (.t 1), none⟩, .o ⟨(some 6), none, false, .load 1 false (.t 5), none⟩, .o ⟨(some 7), none, false, .load 1 false (.t 2), none⟩, .o ⟨(some 8), none, false, .slice 1 (.t 6) none (some (.t 7)) none, none⟩, .o ⟨(some 9), none, false, .build [.nilsl] [(0, 1, (.t 8))], none⟩, .o ⟨(some 10), none, false, .mv (.t 0), none⟩, .o ⟨(some 11), none, false, .call 76 [(.t 9), (.t 10)], none⟩, .o ⟨(some 12), none, false, .bin .lss (.t 11) (.c (.int .i64 0)), none⟩, .o ⟨(some 4), none, false, .mv (.t 12), (some [4])⟩]
def c_impl_ValidComplex_1_1 : ACode := .region c_impl_ValidComplex_1_o1
def c_impl_ValidComplex_1_2 : ACode := .seq c_impl_ValidComplex_1_1 .ret
def c_impl_ValidComplex_1_3 : ACode := .seq c_impl_ValidComplex_1_0 c_impl_ValidComplex_1_2
section
variable (C : Cx) (n : Nat) (sk : List AItem) (e : Env) (h : Heap) (R : AV → Heap → Prop)
@[simp, simp ↓] theorem c_impl_ValidComplex_1_0_r : vc2 C (n + 1) [] (.code c_impl_ValidComplex_1_0 :: sk) e h R = (vc2 C n c_impl_ValidComplex_1_o0 sk e h R) := nr rfl
@[simp, simp ↓] theorem c_impl_ValidComplex_1_1_r : vc2 C (n + 1) [] (.code c_impl_ValidComplex_1_1 :: sk) e h R = (vc2 C n c_impl_ValidComplex_1_o1 sk e h R) := nr rfl
@[simp, simp ↓] theorem c_impl_ValidComplex_1_2_r : vc2 C (n + 1) [] (.code c_impl_ValidComplex_1_2 :: sk) e h R = (vc2 C n [] (.code c_impl_ValidComplex_1_1 :: .code .ret :: sk) e h R) := nr rfl
@[simp, simp ↓] theorem c_impl_ValidComplex_1_3_r : vc2 C (n + 1) [] (.code c_impl_ValidComplex_1_3 :: sk) e h R = (vc2 C n [] (.code c_impl_ValidComplex_1_0 :: .code c_impl_ValidComplex_1_2 :: sk) e h R) := nr rfl
end
noncomputable def c_impl_ValidComplex_1_C (orc : Orc) : Cx := ⟨Try.prog, [], 104, 13, [.tmp 4], orc⟩
@[simp] theorem c_impl_ValidComplex_1_C_P (orc : Orc) : (c_impl_ValidComplex_1_C orc).P = Try.prog := nr rfl
@[simp] theorem c_impl_ValidComplex_1_C_o (orc : Orc) : (c_impl_ValidComplex_1_C orc).orc = orc := nr rfl
@[simp] theorem c_impl_ValidComplex_1_C_r (orc : Orc) : (c_impl_ValidComplex_1_C orc).res = [.tmp 4] := nr rfl
theorem c_impl_ValidComplex_1_of {args : List AV} {h : Heap} {R : AV → Heap → Prop} {k : Nat} (ha : args.length = k) {orc : Orc} (hp : Pure Try.prog orc) (hk : Is (c_impl_ValidComplex_1_C orc) Try.f104 → Run2 (c_impl_ValidComplex_1_C orc) [.code c_impl_ValidComplex_1_3] (argEnv 0 args) h (Post R)) (hle : k ≤ 13 := by simp) : ACalls Try.prog 104 args h R :=
  contract2 [] c_impl_ValidComplex_1_3 [.tmp 4] Try.func104 (by decide +kernel) rfl (by kernel_rfl) (by rw [ha]; exact hle) (by kernel_rfl) hp hk
theorem c_impl_ValidComplex_1_of0 {args : List AV} {h : Heap} {R : AV → Heap → Prop} {k : Nat} (ha : args.length = k) {orc : Orc} (hp : Pure Try.prog orc) (hk : Is (c_impl_ValidComplex_1_C orc) Try.f104 → Run2 (c_impl_ValidComplex_1_C orc) [.code c_impl_ValidComplex_1_3] (argEnv 0 args) h R) (hle : k ≤ 13 := by simp) : ACalls Try.prog 104 args h R :=
  contract20 [] c_impl_ValidComplex_1_3 [.tmp 4] Try.func104 (by decide +kernel) rfl (by kernel_rfl) (by rw [ha]; exact hle) (by kernel_rfl) hp hk
theorem VC1_c (f : List Int) (rs : List (List Int)) (k : Nat) (h : Heap) (hl : ssTot rs ≤ 1048576) (hk : k ≤ rs.length) (hs : sortS (rs.take k)) : ACalls Try.prog 104 [.snap 1 (f.map iv), .ip [.snap 1 (rs.map il)], .ip [.int .i64 k]] h (fun v h' => v = .bool (!decide (f ∈ rs.take k)) ∧ h' = h) := by
  refine c_impl_ValidComplex_1_of0 rfl noPure fun I => ?_
  refine Run2.of I 1000 ?_
  simp -implicitDefEqProofs
  have ht := ssTot_take rs k
  rw [← List.map_take]
  refine ⟨hk, ?_⟩
  refine (indexOf_s (rs.take k) f h (by omega) hs).mono ?_
  rintro v h' ⟨rfl, rfl⟩
  refine gK.go ?_
  simp -implicitDefEqProofs [ixS_neg]
theorem faces_length (s : List Int) : (faces s).length ≤ s.length := by
  unfold faces; split <;> simp
abbrev c_impl_ValidComplex_o0 : List AJ := [.o ⟨(some 1), none, false, .box false 1 (.t 0), none⟩, .o ⟨(some 2), none, false, .mv (.c (.bool false)), (some [1])⟩]
def c_impl_ValidComplex_0 : ACode := .region c_impl_ValidComplex_o0
abbrev c_impl_ValidComplex_o1 : List AJ := [.o ⟨(some 5), none, false, .fieldA 0 (.t 1), none⟩, .o ⟨(some 6), none, false, .load 1 false (.t 5), none⟩, .o ⟨(some 7), none, false, .len (.t 6), none⟩, .o ⟨(some 8), none, false, .mv (.c (.int .i64 0)), (some [1, 6, 7, 8])⟩]
def c_impl_ValidComplex_1 : ACode := .region c_impl_ValidComplex_o1
abbrev c_impl_ValidComplex_o2 : List AJ := [.o ⟨(some 9), none, false, .bin .lss (.t 8) (.t 7), (some [1, 6, 7, 8, 9])⟩]
def c_impl_ValidComplex_2 : ACode := .region c_impl_ValidComplex_o2
def c_impl_ValidComplex_3 : ACode := .cond (.t 9) .skip (.exit 0)
abbrev c_impl_ValidComplex_o3 : List AJ := [.o ⟨(some 10), none, false, .mv (.t 8), none⟩, .o ⟨(some 11), none, false, .idxA 1 (.t 6) (.t 8), none⟩, .o ⟨(some 12), none, false, .load 1 false (.t 11), none⟩, .v 3 1 (.int .i64 0) [] (.t 10) none, .o ⟨(some 4), none, false, .mv (.t 12), (some [1, 3, 4, 6, 7, 8])⟩]
def c_impl_ValidComplex_4 : ACode := .region c_impl_ValidComplex_o3
abbrev c_impl_ValidComplex_o4 : List AJ := [.o ⟨(some 13), none, false, .mv (.t 4), none⟩, .o ⟨(some 14), none, false, .call 100 [(.t 13)], none⟩, .o ⟨(some 15), none, false, .un .not (.t 14), none⟩, .o ⟨(some 16), none, false, .mv (.t 15), none⟩, .o ⟨(some 17), (some (16, false)), false, .load 1 false (.t 3), none⟩, .o ⟨(some 18), (some (16, false)), false, .bin .gtr (.t 17) (.c (.int .i64 0)), none⟩, .o ⟨(some 19), (some (16, false)), false, .mv (.t 18), none⟩, .o ⟨(some 20), (some (19, true)), false, .fieldA 0 (.t 1), none⟩, .o ⟨(some 21), (some (19, true)), false, .load 1 false (.t 20), (some [1, 3, 4, 6, 7, 8, 16, 19, 21])⟩, .o ⟨(some 22), (some (19, true)), false, .load 1 false (.t 3), none⟩, .o ⟨(some 23), (some (19, true)), true, .bin .sub (.t 22) (.c (.int .i64 1)), none⟩, .o ⟨(some 24), (some (19, true)), false, .idxA 1 (.t 21) (.t 23), none⟩, .o ⟨(some 25), (some (19, true)), false, .load 1 false (.t 24), none⟩, .o ⟨(some 26), (some (19, true)), false, .mv (.t 4), none⟩, .o ⟨(some 27), (some (19, true)), false, .call 101 [(.t 25), (.t 26)], none⟩, .o ⟨(some 28), (some (19, true)), false, .bin .geq (.t 27) (.c (.int .i64 0)), (some [1, 3, 4, 6, 7, 8, 16, 19, 28])⟩, .o ⟨(some 29), (some (16, false)), false, .pick (.t 19) (.t 28) (.c (.bool false)), none⟩, .o ⟨(some 30), none, false, .pick (.t 16) (.c (.bool true)) (.t 29), (some [1, 3, 4, 6, 7, 8, 30])⟩]
def c_impl_ValidComplex_5 : ACode := .region c_impl_ValidComplex_o4
abbrev c_impl_ValidComplex_o5 : List AJ := [.o ⟨(some 2), none, false, .mv (.c (.bool false)), (some [2])⟩]
def c_impl_ValidComplex_6 : ACode := .region c_impl_ValidComplex_o5
def c_impl_ValidComplex_7 : ACode := .seq c_impl_ValidComplex_6 .ret
def c_impl_ValidComplex_8 : ACode := .cond (.t 30) c_impl_ValidComplex_7 .skip
def c_impl_ValidComplex_9 : ACode := .seq c_impl_ValidComplex_5 c_impl_ValidComplex_8
abbrev c_impl_ValidComplex_o6 : List AJ := [.o ⟨(some 31), none, false, .mv (.t 4), none⟩, .o ⟨(some 32), none, false, .call 103 [(.t 31)], none⟩, .o ⟨(some 33), none, false, .mkfn 104 [(.t 1), (.t 3)], none⟩, .o ⟨(some 34), none, false, .call 102 [(.t 32), (.t 33)], (some [1, 6, 7, 8, 34])⟩]
def c_impl_ValidComplex_10 : ACode := .region c_impl_ValidComplex_o6
abbrev c_impl_ValidComplex_o7 : List AJ := [.o ⟨(some 2), none, false, .mv (.c (.bool false)), (some [2])⟩]
def c_impl_ValidComplex_11 : ACode := .region c_impl_ValidComplex_o7
def c_impl_ValidComplex_12 : ACode := .seq c_impl_ValidComplex_11 .ret
def c_impl_ValidComplex_13 : ACode := .cond (.t 34) c_impl_ValidComplex_12 .skip
def c_impl_ValidComplex_14 : ACode := .seq c_impl_ValidComplex_10 c_impl_ValidComplex_13
def c_impl_ValidComplex_15 : ACode := .seq c_impl_ValidComplex_9 c_impl_ValidComplex_14
def c_impl_ValidComplex_16 : ACode := .seq c_impl_ValidComplex_4 c_impl_ValidComplex_15
def c_impl_ValidComplex_17 : ACode := .block 1 c_impl_ValidComplex_16
abbrev c_impl_ValidComplex_o8 : List AJ := [.o ⟨(some 35), none, true, .bin .add (.t 8) (.c (.int .i64 1)), none⟩, .o ⟨(some 8), none, false, .mv (.t 35), (some [1, 6, 7, 8])⟩]
def c_impl_ValidComplex_18 : ACode := .region c_impl_ValidComplex_o8
def c_impl_ValidComplex_19 : ACode := .seq c_impl_ValidComplex_17 c_impl_ValidComplex_18
def c_impl_ValidComplex_20 : ACode := .seq c_impl_ValidComplex_3 c_impl_ValidComplex_19
def c_impl_ValidComplex_21 : ACode := .seq c_impl_ValidComplex_2 c_impl_ValidComplex_20
def c_impl_ValidComplex_22 : ACode := .loop c_impl_ValidComplex_21
def c_impl_ValidComplex_23 : ACode := .block 0 c_impl_ValidComplex_22
def c_impl_ValidComplex_24 : ACode := .seq c_impl_ValidComplex_1 c_impl_ValidComplex_23
abbrev c_impl_ValidComplex_o9 : List AJ := [.o ⟨(some 36), none, false, .fieldA 0 (.t 1), none⟩, .o ⟨(some 37), none, false, .load 1 false (.t 36), none⟩, .o ⟨(some 38), none, false, .len (.t 37), none⟩, .o ⟨(some 39), none, false, .bin .leq (.t 38) (.c (.int .i64 48)), none⟩, .o ⟨(some 2), none, false, .mv (.t 39), (some [2])⟩]
def c_impl_ValidComplex_25 : ACode := .region c_impl_ValidComplex_o9
def c_impl_ValidComplex_26 : ACode := .seq c_impl_ValidComplex_25 .ret
def c_impl_ValidComplex_27 : ACode := .seq c_impl_ValidComplex_24 c_impl_ValidComplex_26
def c_impl_ValidComplex_28 : ACode := .seq c_impl_ValidComplex_0 c_impl_ValidComplex_27
section
variable (C : Cx) (n : Nat) (sk : List AItem) (e : Env) (h : Heap) (R : AV → Heap → Prop)
@[simp, simp ↓] theorem c_impl_ValidComplex_0_r : vc2 C (n + 1) [] (.code c_impl_ValidComplex_0 :: sk) e h R = (vc2 C n c_impl_ValidComplex_o0 sk e h R) := nr rfl
@[simp, simp ↓] theorem c_impl_ValidComplex_1_r : vc2 C (n + 1) [] (.code c_impl_ValidComplex_1 :: sk) e h R = (vc2 C n c_impl_ValidComplex_o1 sk e h R) := nr rfl
@[simp, simp ↓] theorem c_impl_ValidComplex_2_r : vc2 C (n + 1) [] (.code c_impl_ValidComplex_2 :: sk) e h R = (vc2 C n c_impl_ValidComplex_o2 sk e h R) := nr rfl
@[simp, simp ↓] theorem c_impl_ValidComplex_3_r : vc2 C (n + 1) [] (.code c_impl_ValidComplex_3 :: sk) e h R = (condK (ev e (.t 9)) (vc2 C n [] (.code .skip :: sk) e h R) (vc2 C n [] (.code (.exit 0) :: sk) e h R)) := nr rfl
@[simp, simp ↓] theorem c_impl_ValidComplex_4_r : vc2 C (n + 1) [] (.code c_impl_ValidComplex_4 :: sk) e h R = (vc2 C n c_impl_ValidComplex_o3 sk e h R) := nr rfl
@[simp, simp ↓] theorem c_impl_ValidComplex_5_r : vc2 C (n + 1) [] (.code c_impl_ValidComplex_5 :: sk) e h R = (vc2 C n c_impl_ValidComplex_o4 sk e h R) := nr rfl
@[simp, simp ↓] theorem c_impl_ValidComplex_6_r : vc2 C (n + 1) [] (.code c_impl_ValidComplex_6 :: sk) e h R = (vc2 C n c_impl_ValidComplex_o5 sk e h R) := nr rfl
@[simp, simp ↓] theorem c_impl_ValidComplex_7_r : vc2 C (n + 1) [] (.code c_impl_ValidComplex_7 :: sk) e h R = (vc2 C n [] (.code c_impl_ValidComplex_6 :: .code .ret :: sk) e h R) := nr rfl
@[simp, simp ↓] theorem c_impl_ValidComplex_8_r : vc2 C (n + 1) [] (.code c_impl_ValidComplex_8 :: sk) e h R = (condK (ev e (.t 30)) (vc2 C n [] (.code c_impl_ValidComplex_7 :: sk) e h R) (vc2 C n [] (.code .skip :: sk) e h R)) := nr rfl
@[simp, simp ↓] theorem c_impl_ValidComplex_9_r : vc2 C (n + 1) [] (.code c_impl_ValidComplex_9 :: sk) e h R = (vc2 C n [] (.code c_impl_ValidComplex_5 :: .code c_impl_ValidComplex_8 :: sk) e h R) := nr rfl
@[simp, simp ↓] theorem c_impl_ValidComplex_10_r : vc2 C (n + 1) [] (.code c_impl_ValidComplex_10 :: sk) e h R = (vc2 C n c_impl_ValidComplex_o6 sk e h R) := nr rfl
@[simp, simp ↓] theorem c_impl_ValidComplex_11_r : vc2 C (n + 1) [] (.code c_impl_ValidComplex_11 :: sk) e h R = (vc2 C n c_impl_ValidComplex_o7 sk e h R) := nr rfl
@[simp, simp ↓] theorem c_impl_ValidComplex_12_r : vc2 C (n + 1) [] (.code c_impl_ValidComplex_12 :: sk) e h R = (vc2 C n [] (.code c_impl_ValidComplex_11 :: .code .ret :: sk) e h R) := nr rfl
@[simp, simp ↓] theorem c_impl_ValidComplex_13_r : vc2 C (n + 1) [] (.code c_impl_ValidComplex_13 :: sk) e h R = (condK (ev e (.t 34)) (vc2 C n [] (.code c_impl_ValidComplex_12 :: sk) e h R) (vc2 C n [] (.code .skip :: sk) e h R)) := nr rfl
@[simp, simp ↓] theorem c_impl_ValidComplex_14_r : vc2 C (n + 1) [] (.code c_impl_ValidComplex_14 :: sk) e h R = (vc2 C n [] (.code c_impl_ValidComplex_10 :: .code c_impl_ValidComplex_13 :: sk) e h R) := nr rfl
@[simp, simp ↓] theorem c_impl_ValidComplex_15_r : vc2 C (n + 1) [] (.code c_impl_ValidComplex_15 :: sk) e h R = (vc2 C n [] (.code c_impl_ValidComplex_9 :: .code c_impl_ValidComplex_14 :: sk) e h R) := nr rfl
@[simp, simp ↓] theorem c_impl_ValidComplex_16_r : vc2 C (n + 1) [] (.code c_impl_ValidComplex_16 :: sk) e h R = (vc2 C n [] (.code c_impl_ValidComplex_4 :: .code c_impl_ValidComplex_15 :: sk) e h R) := nr rfl
@[simp, simp ↓] theorem c_impl_ValidComplex_17_r : vc2 C (n + 1) [] (.code c_impl_ValidComplex_17 :: sk) e h R = (vc2 C n [] (.code c_impl_ValidComplex_16 :: .inBlock 1 :: sk) e h R) := nr rfl
@[simp, simp ↓] theorem c_impl_ValidComplex_18_r : vc2 C (n + 1) [] (.code c_impl_ValidComplex_18 :: sk) e h R = (vc2 C n c_impl_ValidComplex_o8 sk e h R) := nr rfl
@[simp, simp ↓] theorem c_impl_ValidComplex_19_r : vc2 C (n + 1) [] (.code c_impl_ValidComplex_19 :: sk) e h R = (vc2 C n [] (.code c_impl_ValidComplex_17 :: .code c_impl_ValidComplex_18 :: sk) e h R) := nr rfl
@[simp, simp ↓] theorem c_impl_ValidComplex_20_r : vc2 C (n + 1) [] (.code c_impl_ValidComplex_20 :: sk) e h R = (vc2 C n [] (.code c_impl_ValidComplex_3 :: .code c_impl_ValidComplex_19 :: sk) e h R) := nr rfl
@[simp, simp ↓] theorem c_impl_ValidComplex_21_r : vc2 C (n + 1) [] (.code c_impl_ValidComplex_21 :: sk) e h R = (vc2 C n [] (.code c_impl_ValidComplex_2 :: .code c_impl_ValidComplex_20 :: sk) e h R) := nr rfl
@[simp, simp ↓] theorem c_impl_ValidComplex_22_r : vc2 C (n + 1) [] (.code c_impl_ValidComplex_22 :: sk) e h R = (Run2 C (.code c_impl_ValidComplex_21 :: .inLoop c_impl_ValidComplex_21 :: sk) e h R) := nr rfl
@[simp, simp ↓] theorem c_impl_ValidComplex_23_r : vc2 C (n + 1) [] (.code c_impl_ValidComplex_23 :: sk) e h R = (vc2 C n [] (.code c_impl_ValidComplex_22 :: .inBlock 0 :: sk) e h R) := nr rfl
@[simp, simp ↓] theorem c_impl_ValidComplex_24_r : vc2 C (n + 1) [] (.code c_impl_ValidComplex_24 :: sk) e h R = (vc2 C n [] (.code c_impl_ValidComplex_1 :: .code c_impl_ValidComplex_23 :: sk) e h R) := nr rfl
@[simp, simp ↓] theorem c_impl_ValidComplex_25_r : vc2 C (n + 1) [] (.code c_impl_ValidComplex_25 :: sk) e h R = (vc2 C n c_impl_ValidComplex_o9 sk e h R) := nr rfl
@[simp, simp ↓] theorem c_impl_ValidComplex_26_r : vc2 C (n + 1) [] (.code c_impl_ValidComplex_26 :: sk) e h R = (vc2 C n [] (.code c_impl_ValidComplex_25 :: .code .ret :: sk) e h R) := nr rfl
@[simp, simp ↓] theorem c_impl_ValidComplex_27_r : vc2 C (n + 1) [] (.code c_impl_ValidComplex_27 :: sk) e h R = (vc2 C n [] (.code c_impl_ValidComplex_24 :: .code c_impl_ValidComplex_26 :: sk) e h R) := nr rfl
@[simp, simp ↓] theorem c_impl_ValidComplex_28_r : vc2 C (n + 1) [] (.code c_impl_ValidComplex_28 :: sk) e h R = (vc2 C n [] (.code c_impl_ValidComplex_0 :: .code c_impl_ValidComplex_27 :: sk) e h R) := nr rfl
end
noncomputable def c_impl_ValidComplex_C (orc : Orc) : Cx := ⟨Try.prog, [3], 54, 40, [.tmp 2], orc⟩
@[simp] theorem c_impl_ValidComplex_C_P (orc : Orc) : (c_impl_ValidComplex_C orc).P = Try.prog := nr rfl
@[simp] theorem c_impl_ValidComplex_C_o (orc : Orc) : (c_impl_ValidComplex_C orc).orc = orc := nr rfl
@[simp] theorem c_impl_ValidComplex_C_r (orc : Orc) : (c_impl_ValidComplex_C orc).res = [.tmp 2] := nr rfl
theorem c_impl_ValidComplex_of {args : List AV} {h : Heap} {R : AV → Heap → Prop} {k : Nat} (ha : args.length = k) {orc : Orc} (hp : Pure Try.prog orc) (hk : Is (c_impl_ValidComplex_C orc) Try.f54 → Run2 (c_impl_ValidComplex_C orc) [.code c_impl_ValidComplex_28] (argEnv 0 args) h (Post R)) (hle : k ≤ 40 := by simp) : ACalls Try.prog 54 args h R :=
  contract2 [3] c_impl_ValidComplex_28 [.tmp 2] Try.func54 (by decide +kernel) rfl (by kernel_rfl) (by rw [ha]; exact hle) (by kernel_rfl) hp hk
theorem c_impl_ValidComplex_of0 {args : List AV} {h : Heap} {R : AV → Heap → Prop} {k : Nat} (ha : args.length = k) {orc : Orc} (hp : Pure Try.prog orc) (hk : Is (c_impl_ValidComplex_C orc) Try.f54 → Run2 (c_impl_ValidComplex_C orc) [.code c_impl_ValidComplex_28] (argEnv 0 args) h R) (hle : k ≤ 40 := by simp) : ACalls Try.prog 54 args h R :=
  contract20 [3] c_impl_ValidComplex_28 [.tmp 2] Try.func54 (by decide +kernel) rfl (by kernel_rfl) (by rw [ha]; exact hle) (by kernel_rfl) hp hk
theorem validCx_s (rs : List (List Int)) (h : Heap) (hl : ssTot rs ≤ 1048576) : ACalls Try.prog 54 [cx rs] h (fun v h' => v = .bool (decide (cxOk rs)) ∧ h' = h) := by
  have hf := fit_of_tot hl
  have hn := hf.1
  refine c_impl_ValidComplex_of0 rfl orcD_p fun I => ?_
  refine Run2.of I 1000 ?_
  simp -implicitDefEqProofs
  refine Run2.loopE (fun (i : Nat) => [(1, .ip [.snap 1 (rs.map il)]), (6, .snap 1 (rs.map il)), (7, .int .i64 rs.length), (8, .int .i64 i)]) (fun i => h) (fun i => rs.length - i) (fun i => i ≤ rs.length ∧ ∀ j (hj : j < rs.length), j < i → cxAtB rs j hj) 0 (by simp) rfl ⟨Nat.zero_le _, fun _ _ h => by omega⟩ fun i hi ih => ?_
  have hso : sortS (rs.take i) := fun j hj => by
    simp only [List.length_take] at hj
    simp only [List.getElem_take]
    exact (hi.2 (j + 1) (by omega) (by omega)).2.1 (by omega)
  by_cases hlt : i < rs.length
  · have hr := hf.2 _ (List.getElem_mem hlt)
    have hbad : ¬ cxAtB rs i hlt → ¬ cxOk rs := fun h1 h2 => h1 (((cxOk_iff rs).1 h2).1 i hlt)
    have go := fun (h1 : cxAtB rs i hlt) => ih (i + 1) ⟨by omega, fun j hj hji => by
      rcases Nat.lt_or_ge j i with h | h
      · exact hi.2 j hj h
      · obtain rfl : j = i := by omega
        exact h1⟩ (by omega)
    clear ih
    by_cases h1 : smOk rs[i]
    · have hfl := faces_length rs[i]
      have hcf := ContainsFuncS_s (faces rs[i]) 104 [.ip [.snap 1 (rs.map il)], .ip [.int .i64 i]] (fun f => !decide (f ∈ rs.take i)) h (by omega) fun f hf => VC1_c f rs i h hl (by omega) hso
      have hany : ((faces rs[i]).any fun f => !decide (f ∈ rs.take i)) = true ↔ ¬ ∀ f ∈ faces rs[i], f ∈ rs.take i := by simp
      generalize hB : ((faces rs[i]).any fun f => !decide (f ∈ rs.take i)) = B at hcf hany
      have step : ∀ (hcm : 0 < i → cmpS rs[i - 1] rs[i] < 0), cxAtB rs i hlt ↔ ∀ f ∈ faces rs[i], f ∈ rs.take i := fun hcm => ⟨fun h => h.2.2, fun h => ⟨h1, hcm, h⟩⟩
      cases i with
      | zero =>
        have step := step (by simp)
        rw [← step] at hany
        refine Run2.of I 1000 ?_
        simp -implicitDefEqProofs [hlt, hr, h1]
        refine hcf.mono ?_
        rintro v h' ⟨rfl, rfl⟩
        refine gK.go ?_
        cases B with
        | true =>
          have hb := hbad (hany.1 rfl)
          simp -implicitDefEqProofs [hb]
        | false =>
          have := go (Classical.byContradiction fun hn => by simpa using hany.2 hn)
          simp -implicitDefEqProofs
          simpa using this
      | succ i =>
        have hlt' : i < rs.length := by omega
        have hr' := hf.2 _ (List.getElem_mem hlt')
        have hc : ((i : Int) + 1 - 1).toNat = i := by omega
        by_cases h2 : cmpS rs[i] rs[i + 1] < 0
        · have step := step (fun _ => h2)
          have h2' : ¬ 0 ≤ cmpS rs[i] rs[i + 1] := by omega
          rw [← step] at hany
          have hltI : (i : Int) + 1 < rs.length := by omega
          have hcf' : ACalls Try.prog _ [_, .fn 104 [_, .ip [.int .i64 ((i : Int) + 1)]]] h _ := hcf
          refine Run2.of I 1000 ?_
          simp -implicitDefEqProofs [hlt, hlt', hr, hr', h1, hc, h2', hltI]
          refine ⟨by omega, by omega, ?_⟩
          refine hcf.mono ?_
          rintro v h' ⟨rfl, rfl⟩
          refine gK.go ?_
          cases B with
          | true =>
            have hb := hbad (hany.1 rfl)
            simp -implicitDefEqProofs [hb]
          | false =>
            have := go (Classical.byContradiction fun hn => by simpa using hany.2 hn)
            simp -implicitDefEqProofs
            refine ⟨by omega, by simpa using this⟩
        · have hb := hbad fun h => h2 (h.2.1 (by omega))
          have h2' : 0 ≤ cmpS rs[i] rs[i + 1] := by omega
          refine Run2.of I 1000 ?_
          have hltI : (i : Int) + 1 < rs.length := by omega
          simp -implicitDefEqProofs [hlt, hlt', hr, hr', h1, hc, h2', hb, hltI]
          omega
    · have hb := hbad fun h => h1 h.1
      refine Run2.of I 1000 ?_
      simp -implicitDefEqProofs [hlt, hr, h1, hb]
  · obtain rfl : i = rs.length := by omega
    have e : cxOk rs ↔ rs.length ≤ 48 := by
      rw [cxOk_iff]
      exact ⟨fun h => h.2, fun h => ⟨fun j hj => hi.2 j hj hj, h⟩⟩
    refine Run2.of I 1000 ?_
    simp -implicitDefEqProofs [e]
    omega

noncomputable def o_validCx : List AV → Option (Prop × AV) := tab (fun (x : LS) => match x with | rs => [.agg [.snap 1 (rs.map il)]]) (fun x => match x with | rs => ssTot rs ≤ 1048576) (fun x => match x with | rs => .bool (decide (cxOk rs)))
@[simp] theorem o_validCx_e (rs : LS) : o_validCx [.agg [.snap 1 (rs.map il)]] = some (ssTot rs ≤ 1048576, .bool (decide (cxOk rs))) := tab_at (enc := fun (x : LS) => match x with | rs => [.agg [.snap 1 (rs.map il)]]) (fun x y h => by
  simp at h; simp [h] <;> omega) _ _ rs
theorem o_validCx_k : Knows Try.prog 54 o_validCx := tab_knows fun x hx h => by
  exact validCx_s x h hx
/-! ## The reference -/
noncomputable def orcS1 : List (Nat × (List AV → Option (Prop × AV))) := (139, o_l00Rises) :: (67, o_l00In) :: []
theorem orcS1_p : Pure Try.prog (lk orcS1) := (lk_pure o_l00Rises_k (lk_pure o_l00In_k lk_pure0))
@[simp] theorem orcS1_l (g : FuncId) (l : List AV) : lk orcS1 g l = if g = 139 then o_l00Rises l else if g = 67 then o_l00In l else none := nr rfl
abbrev c_spec_l05Simplex_o0 : List AJ := [.o ⟨(some 2), none, false, .mv (.c (.bool false)), (some [0])⟩]
def c_spec_l05Simplex_0 : ACode := .region c_spec_l05Simplex_o0
abbrev c_spec_l05Simplex_o1 : List AJ := [.o ⟨(some 3), none, false, .mv (.t 0), none⟩, .o ⟨(some 4), none, false, .len (.t 3), none⟩, .o ⟨(some 5), none, false, .call 67 [(.t 4), (.c (.int .i64 1)), (.c (.int .i64 4))], none⟩, .o ⟨(some 6), none, false, .mv (.t 5), none⟩, .o ⟨(some 7), (some (6, true)), false, .mv (.t 0), none⟩, .o ⟨(some 8), (some (6, true)), false, .call 139 [(.t 7), (.c (.int .i64 0)), (.c (.int .i64 9))], none⟩, .o ⟨(some 9), none, false, .pick (.t 6) (.t 8) (.c (.bool false)), none⟩, .o ⟨(some 2), none, false, .mv (.t 9), (some [2])⟩]
def c_spec_l05Simplex_1 : ACode := .region c_spec_l05Simplex_o1
def c_spec_l05Simplex_2 : ACode := .seq c_spec_l05Simplex_1 .ret
def c_spec_l05Simplex_3 : ACode := .seq c_spec_l05Simplex_0 c_spec_l05Simplex_2
section
variable (C : Cx) (n : Nat) (sk : List AItem) (e : Env) (h : Heap) (R : AV → Heap → Prop)
@[simp, simp ↓] theorem c_spec_l05Simplex_0_r : vc2 C (n + 1) [] (.code c_spec_l05Simplex_0 :: sk) e h R = (vc2 C n c_spec_l05Simplex_o0 sk e h R) := nr rfl
@[simp, simp ↓] theorem c_spec_l05Simplex_1_r : vc2 C (n + 1) [] (.code c_spec_l05Simplex_1 :: sk) e h R = (vc2 C n c_spec_l05Simplex_o1 sk e h R) := nr rfl
@[simp, simp ↓] theorem c_spec_l05Simplex_2_r : vc2 C (n + 1) [] (.code c_spec_l05Simplex_2 :: sk) e h R = (vc2 C n [] (.code c_spec_l05Simplex_1 :: .code .ret :: sk) e h R) := nr rfl
@[simp, simp ↓] theorem c_spec_l05Simplex_3_r : vc2 C (n + 1) [] (.code c_spec_l05Simplex_3 :: sk) e h R = (vc2 C n [] (.code c_spec_l05Simplex_0 :: .code c_spec_l05Simplex_2 :: sk) e h R) := nr rfl
end
noncomputable def c_spec_l05Simplex_C (orc : Orc) : Cx := ⟨Try.prog, [], 112, 10, [.tmp 2], orc⟩
@[simp] theorem c_spec_l05Simplex_C_P (orc : Orc) : (c_spec_l05Simplex_C orc).P = Try.prog := nr rfl
@[simp] theorem c_spec_l05Simplex_C_o (orc : Orc) : (c_spec_l05Simplex_C orc).orc = orc := nr rfl
@[simp] theorem c_spec_l05Simplex_C_r (orc : Orc) : (c_spec_l05Simplex_C orc).res = [.tmp 2] := nr rfl
theorem c_spec_l05Simplex_of {args : List AV} {h : Heap} {R : AV → Heap → Prop} {k : Nat} (ha : args.length = k) {orc : Orc} (hp : Pure Try.prog orc) (hk : Is (c_spec_l05Simplex_C orc) Try.f112 → Run2 (c_spec_l05Simplex_C orc) [.code c_spec_l05Simplex_3] (argEnv 0 args) h (Post R)) (hle : k ≤ 10 := by simp) : ACalls Try.prog 112 args h R :=
  contract2 [] c_spec_l05Simplex_3 [.tmp 2] Try.func112 (by decide +kernel) rfl (by kernel_rfl) (by rw [ha]; exact hle) (by kernel_rfl) hp hk
theorem c_spec_l05Simplex_of0 {args : List AV} {h : Heap} {R : AV → Heap → Prop} {k : Nat} (ha : args.length = k) {orc : Orc} (hp : Pure Try.prog orc) (hk : Is (c_spec_l05Simplex_C orc) Try.f112 → Run2 (c_spec_l05Simplex_C orc) [.code c_spec_l05Simplex_3] (argEnv 0 args) h R) (hle : k ≤ 10 := by simp) : ACalls Try.prog 112 args h R :=
  contract20 [] c_spec_l05Simplex_3 [.tmp 2] Try.func112 (by decide +kernel) rfl (by kernel_rfl) (by rw [ha]; exact hle) (by kernel_rfl) hp hk
theorem l05Simplex_s (s : List Int) (h : Heap) (hl : s.length ≤ 1048576) : ACalls Try.prog 112 [.snap 1 (s.map iv)] h (fun v h' => v = .bool (decide (smOk s)) ∧ h' = h) := by
  refine c_spec_l05Simplex_of0 rfl orcS1_p fun I => ?_
  have e : smOk s ↔ (1 ≤ s.length ∧ s.length ≤ 4) ∧ btw s 0 9 ∧ riseS s := by
    unfold smOk btw
    constructor
    · rintro ⟨h1, h2, h3⟩; exact ⟨h1, h3, h2⟩
    · rintro ⟨h1, h2, h3⟩; exact ⟨h1, h3, h2⟩
  by_cases h1 : 1 ≤ s.length ∧ s.length ≤ 4
  · have h1' : (1 : Int) ≤ s.length := by omega
    have h2' : (s.length : Int) ≤ 4 := by omega
    have e2 : smOk s ↔ btw s 0 9 ∧ riseS s := by rw [e]; simp [h1]
    refine Run2.of I 1000 ?_
    simp -implicitDefEqProofs [hl, h1', h2', e2]
  · have h1' : ¬ ((1 : Int) ≤ s.length ∧ (s.length : Int) ≤ 4) := by omega
    have e2 : ¬ smOk s := fun h => h1 h.1
    have e3 : (decide ((1 : Int) ≤ s.length) && decide ((s.length : Int) ≤ 4)) = false := by
      rw [Bool.eq_false_iff]; simpa using h1'
    refine Run2.of I 1000 ?_
    simp -implicitDefEqProofs [hl, e2, e3]
noncomputable def o_l05Simplex : List AV → Option (Prop × AV) := tab (fun (x : List Int) => match x with | s => [.snap 1 (s.map iv)]) (fun x => match x with | s => s.length ≤ 1048576) (fun x => match x with | s => .bool (decide (smOk s)))
@[simp] theorem o_l05Simplex_e (s : List Int) : o_l05Simplex [.snap 1 (s.map iv)] = some (s.length ≤ 1048576, .bool (decide (smOk s))) := tab_at (enc := fun (x : List Int) => match x with | s => [.snap 1 (s.map iv)]) (fun x y h => by
  simp at h; simp [h] <;> omega) _ _ s
theorem o_l05Simplex_k : Knows Try.prog 112 o_l05Simplex := tab_knows fun x hx h => by
  exact l05Simplex_s x h hx
abbrev c_spec_l00Same_o0 : List AJ := [.o ⟨(some 4), none, false, .mv (.c (.bool false)), (some [0, 1])⟩]
def c_spec_l00Same_0 : ACode := .region c_spec_l00Same_o0
abbrev c_spec_l00Same_o1 : List AJ := [.o ⟨(some 6), none, false, .mv (.t 0), none⟩, .o ⟨(some 7), none, false, .len (.t 6), none⟩, .o ⟨(some 8), none, false, .mv (.t 1), none⟩, .o ⟨(some 9), none, false, .len (.t 8), none⟩, .o ⟨(some 10), none, false, .bin .neq (.t 7) (.t 9), (some [0, 1, 10])⟩]
def c_spec_l00Same_1 : ACode := .region c_spec_l00Same_o1
abbrev c_spec_l00Same_o2 : List AJ := [.o ⟨(some 4), none, false, .mv (.c (.bool false)), (some [4])⟩]
def c_spec_l00Same_2 : ACode := .region c_spec_l00Same_o2
def c_spec_l00Same_3 : ACode := .seq c_spec_l00Same_2 .ret
def c_spec_l00Same_4 : ACode := .cond (.t 10) c_spec_l00Same_3 .skip
def c_spec_l00Same_5 : ACode := .seq c_spec_l00Same_1 c_spec_l00Same_4
abbrev c_spec_l00Same_o3 : List AJ := [.o ⟨(some 5), none, false, .mv (.c (.int .i64 0)), (some [0, 1, 5])⟩]
def c_spec_l00Same_6 : ACode := .region c_spec_l00Same_o3
abbrev c_spec_l00Same_o4 : List AJ := [.o ⟨(some 11), none, false, .mv (.t 5), none⟩, .o ⟨(some 12), none, false, .mv (.t 0), none⟩, .o ⟨(some 13), none, false, .len (.t 12), none⟩, .o ⟨(some 14), none, false, .bin .lss (.t 11) (.t 13), (some [0, 1, 5, 14])⟩]
def c_spec_l00Same_7 : ACode := .region c_spec_l00Same_o4
def c_spec_l00Same_8 : ACode := .cond (.t 14) .skip (.exit 0)
def c_spec_l00Same_9 : ACode := .seq c_spec_l00Same_7 c_spec_l00Same_8
abbrev c_spec_l00Same_o5 : List AI := [⟨(some 17), none, false, .mv (.t 0), none⟩, ⟨(some 18), none, false, .mv (.t 5), none⟩, ⟨(some 19), none, false, .idxA 1 (.t 17) (.t 18), none⟩, ⟨(some 20), none, false, .load 1 false (.t 19), none⟩, ⟨(some 21), none, false, .mv (.t 1), none⟩, ⟨(some 22), none, false, .mv (.t 5), none⟩, ⟨(some 23), none, false, .idxA 1 (.t 21) (.t 22), none⟩, ⟨(some 24), none, false, .load 1 false (.t 23), none⟩, ⟨(some 25), none, false, .bin .neq (.t 20) (.t 24), (some [0, 1, 5, 25])⟩]
def c_spec_l00Same_10 : ACode := .draw c_spec_l00Same_o5 [] rfl
abbrev c_spec_l00Same_o6 : List AJ := [.o ⟨(some 4), none, false, .mv (.c (.bool false)), (some [4])⟩]
def c_spec_l00Same_11 : ACode := .region c_spec_l00Same_o6
def c_spec_l00Same_12 : ACode := .seq c_spec_l00Same_11 .ret
def c_spec_l00Same_13 : ACode := .cond (.t 25) c_spec_l00Same_12 .skip
def c_spec_l00Same_14 : ACode := .seq c_spec_l00Same_10 c_spec_l00Same_13
def c_spec_l00Same_15 : ACode := .block 1 c_spec_l00Same_14
abbrev c_spec_l00Same_o7 : List AJ := [.o ⟨(some 15), none, false, .mv (.t 5), none⟩, .o ⟨(some 16), none, true, .bin .add (.t 15) (.c (.int .i64 1)), none⟩, .o ⟨(some 5), none, false, .mv (.t 16), (some [0, 1, 5])⟩]
def c_spec_l00Same_16 : ACode := .region c_spec_l00Same_o7
def c_spec_l00Same_17 : ACode := .seq c_spec_l00Same_15 c_spec_l00Same_16
def c_spec_l00Same_18 : ACode := .seq c_spec_l00Same_9 c_spec_l00Same_17
def c_spec_l00Same_19 : ACode := .loop c_spec_l00Same_18
def c_spec_l00Same_20 : ACode := .block 0 c_spec_l00Same_19
def c_spec_l00Same_21 : ACode := .seq c_spec_l00Same_6 c_spec_l00Same_20
abbrev c_spec_l00Same_o8 : List AJ := [.o ⟨(some 4), none, false, .mv (.c (.bool true)), (some [4])⟩]
def c_spec_l00Same_22 : ACode := .region c_spec_l00Same_o8
def c_spec_l00Same_23 : ACode := .seq c_spec_l00Same_22 .ret
def c_spec_l00Same_24 : ACode := .seq c_spec_l00Same_21 c_spec_l00Same_23
def c_spec_l00Same_25 : ACode := .seq c_spec_l00Same_5 c_spec_l00Same_24
def c_spec_l00Same_26 : ACode := .seq c_spec_l00Same_0 c_spec_l00Same_25
section
variable (C : Cx) (n : Nat) (sk : List AItem) (e : Env) (h : Heap) (R : AV → Heap → Prop)
@[simp, simp ↓] theorem c_spec_l00Same_0_r : vc2 C (n + 1) [] (.code c_spec_l00Same_0 :: sk) e h R = (vc2 C n c_spec_l00Same_o0 sk e h R) := nr rfl
@[simp, simp ↓] theorem c_spec_l00Same_1_r : vc2 C (n + 1) [] (.code c_spec_l00Same_1 :: sk) e h R = (vc2 C n c_spec_l00Same_o1 sk e h R) := nr rfl
@[simp, simp ↓] theorem c_spec_l00Same_2_r : vc2 C (n + 1) [] (.code c_spec_l00Same_2 :: sk) e h R = (vc2 C n c_spec_l00Same_o2 sk e h R) := nr rfl
@[simp, simp ↓] theorem c_spec_l00Same_3_r : vc2 C (n + 1) [] (.code c_spec_l00Same_3 :: sk) e h R = (vc2 C n [] (.code c_spec_l00Same_2 :: .code .ret :: sk) e h R) := nr rfl
@[simp, simp ↓] theorem c_spec_l00Same_4_r : vc2 C (n + 1) [] (.code c_spec_l00Same_4 :: sk) e h R = (condK (ev e (.t 10)) (vc2 C n [] (.code c_spec_l00Same_3 :: sk) e h R) (vc2 C n [] (.code .skip :: sk) e h R)) := nr rfl
@[simp, simp ↓] theorem c_spec_l00Same_5_r : vc2 C (n + 1) [] (.code c_spec_l00Same_5 :: sk) e h R = (vc2 C n [] (.code c_spec_l00Same_1 :: .code c_spec_l00Same_4 :: sk) e h R) := nr rfl
@[simp, simp ↓] theorem c_spec_l00Same_6_r : vc2 C (n + 1) [] (.code c_spec_l00Same_6 :: sk) e h R = (vc2 C n c_spec_l00Same_o3 sk e h R) := nr rfl
@[simp, simp ↓] theorem c_spec_l00Same_7_r : vc2 C (n + 1) [] (.code c_spec_l00Same_7 :: sk) e h R = (vc2 C n c_spec_l00Same_o4 sk e h R) := nr rfl
@[simp, simp ↓] theorem c_spec_l00Same_8_r : vc2 C (n + 1) [] (.code c_spec_l00Same_8 :: sk) e h R = (condK (ev e (.t 14)) (vc2 C n [] (.code .skip :: sk) e h R) (vc2 C n [] (.code (.exit 0) :: sk) e h R)) := nr rfl
@[simp, simp ↓] theorem c_spec_l00Same_9_r : vc2 C (n + 1) [] (.code c_spec_l00Same_9 :: sk) e h R = (vc2 C n [] (.code c_spec_l00Same_7 :: .code c_spec_l00Same_8 :: sk) e h R) := nr rfl
@[simp, simp ↓] theorem c_spec_l00Same_10_r : vc2 C (n + 1) [] (.code c_spec_l00Same_10 :: sk) e h R = (draw2 C h (vK C n [] sk R h) c_spec_l00Same_o5 e) := nr rfl
@[simp, simp ↓] theorem c_spec_l00Same_11_r : vc2 C (n + 1) [] (.code c_spec_l00Same_11 :: sk) e h R = (vc2 C n c_spec_l00Same_o6 sk e h R) := nr rfl
@[simp, simp ↓] theorem c_spec_l00Same_12_r : vc2 C (n + 1) [] (.code c_spec_l00Same_12 :: sk) e h R = (vc2 C n [] (.code c_spec_l00Same_11 :: .code .ret :: sk) e h R) := nr rfl
@[simp, simp ↓] theorem c_spec_l00Same_13_r : vc2 C (n + 1) [] (.code c_spec_l00Same_13 :: sk) e h R = (condK (ev e (.t 25)) (vc2 C n [] (.code c_spec_l00Same_12 :: sk) e h R) (vc2 C n [] (.code .skip :: sk) e h R)) := nr rfl
@[simp, simp ↓] theorem c_spec_l00Same_14_r : vc2 C (n + 1) [] (.code c_spec_l00Same_14 :: sk) e h R = (vc2 C n [] (.code c_spec_l00Same_10 :: .code c_spec_l00Same_13 :: sk) e h R) := nr rfl
@[simp, simp ↓] theorem c_spec_l00Same_15_r : vc2 C (n + 1) [] (.code c_spec_l00Same_15 :: sk) e h R = (vc2 C n [] (.code c_spec_l00Same_14 :: .inBlock 1 :: sk) e h R) := nr rfl
@[simp, simp ↓] theorem c_spec_l00Same_16_r : vc2 C (n + 1) [] (.code c_spec_l00Same_16 :: sk) e h R = (vc2 C n c_spec_l00Same_o7 sk e h R) := nr rfl
@[simp, simp ↓] theorem c_spec_l00Same_17_r : vc2 C (n + 1) [] (.code c_spec_l00Same_17 :: sk) e h R = (vc2 C n [] (.code c_spec_l00Same_15 :: .code c_spec_l00Same_16 :: sk) e h R) := nr rfl
@[simp, simp ↓] theorem c_spec_l00Same_18_r : vc2 C (n + 1) [] (.code c_spec_l00Same_18 :: sk) e h R = (vc2 C n [] (.code c_spec_l00Same_9 :: .code c_spec_l00Same_17 :: sk) e h R) := nr rfl
@[simp, simp ↓] theorem c_spec_l00Same_19_r : vc2 C (n + 1) [] (.code c_spec_l00Same_19 :: sk) e h R = (Run2 C (.code c_spec_l00Same_18 :: .inLoop c_spec_l00Same_18 :: sk) e h R) := nr rfl
@[simp, simp ↓] theorem c_spec_l00Same_20_r : vc2 C (n + 1) [] (.code c_spec_l00Same_20 :: sk) e h R = (vc2 C n [] (.code c_spec_l00Same_19 :: .inBlock 0 :: sk) e h R) := nr rfl
@[simp, simp ↓] theorem c_spec_l00Same_21_r : vc2 C (n + 1) [] (.code c_spec_l00Same_21 :: sk) e h R = (vc2 C n [] (.code c_spec_l00Same_6 :: .code c_spec_l00Same_20 :: sk) e h R) := nr rfl
@[simp, simp ↓] theorem c_spec_l00Same_22_r : vc2 C (n + 1) [] (.code c_spec_l00Same_22 :: sk) e h R = (vc2 C n c_spec_l00Same_o8 sk e h R) := nr rfl
@[simp, simp ↓] theorem c_spec_l00Same_23_r : vc2 C (n + 1) [] (.code c_spec_l00Same_23 :: sk) e h R = (vc2 C n [] (.code c_spec_l00Same_22 :: .code .ret :: sk) e h R) := nr rfl
@[simp, simp ↓] theorem c_spec_l00Same_24_r : vc2 C (n + 1) [] (.code c_spec_l00Same_24 :: sk) e h R = (vc2 C n [] (.code c_spec_l00Same_21 :: .code c_spec_l00Same_23 :: sk) e h R) := nr rfl
@[simp, simp ↓] theorem c_spec_l00Same_25_r : vc2 C (n + 1) [] (.code c_spec_l00Same_25 :: sk) e h R = (vc2 C n [] (.code c_spec_l00Same_5 :: .code c_spec_l00Same_24 :: sk) e h R) := nr rfl
@[simp, simp ↓] theorem c_spec_l00Same_26_r : vc2 C (n + 1) [] (.code c_spec_l00Same_26 :: sk) e h R = (vc2 C n [] (.code c_spec_l00Same_0 :: .code c_spec_l00Same_25 :: sk) e h R) := nr rfl
end
noncomputable def c_spec_l00Same_C (orc : Orc) : Cx := ⟨Try.prog, [], 116, 26, [.tmp 4], orc⟩
@[simp] theorem c_spec_l00Same_C_P (orc : Orc) : (c_spec_l00Same_C orc).P = Try.prog := nr rfl
@[simp] theorem c_spec_l00Same_C_o (orc : Orc) : (c_spec_l00Same_C orc).orc = orc := nr rfl
@[simp] theorem c_spec_l00Same_C_r (orc : Orc) : (c_spec_l00Same_C orc).res = [.tmp 4] := nr rfl
theorem c_spec_l00Same_of {args : List AV} {h : Heap} {R : AV → Heap → Prop} {k : Nat} (ha : args.length = k) {orc : Orc} (hp : Pure Try.prog orc) (hk : Is (c_spec_l00Same_C orc) Try.f116 → Run2 (c_spec_l00Same_C orc) [.code c_spec_l00Same_26] (argEnv 0 args) h (Post R)) (hle : k ≤ 26 := by simp) : ACalls Try.prog 116 args h R :=
  contract2 [] c_spec_l00Same_26 [.tmp 4] Try.func116 (by decide +kernel) rfl (by kernel_rfl) (by rw [ha]; exact hle) (by kernel_rfl) hp hk
theorem c_spec_l00Same_of0 {args : List AV} {h : Heap} {R : AV → Heap → Prop} {k : Nat} (ha : args.length = k) {orc : Orc} (hp : Pure Try.prog orc) (hk : Is (c_spec_l00Same_C orc) Try.f116 → Run2 (c_spec_l00Same_C orc) [.code c_spec_l00Same_26] (argEnv 0 args) h R) (hle : k ≤ 26 := by simp) : ACalls Try.prog 116 args h R :=
  contract20 [] c_spec_l00Same_26 [.tmp 4] Try.func116 (by decide +kernel) rfl (by kernel_rfl) (by rw [ha]; exact hle) (by kernel_rfl) hp hk
theorem l00Same_s (l m : List Int) (h : Heap) (hl : l.length ≤ 1048576) : ACalls Try.prog 116 [.snap 1 (l.map iv), .snap 1 (m.map iv)] h (fun v h' => v = .bool (decide (l = m)) ∧ h' = h) := by
  refine c_spec_l00Same_of0 rfl noPure fun I => ?_
  refine Run2.of I 1000 ?_
  simp -implicitDefEqProofs
  refine ⟨by rintro hne rfl; exact hne rfl, fun hlen => ?_⟩
  refine Run2.loop (fun i => [(0, .snap 1 (l.map iv)), (1, .snap 1 (m.map iv)), (5, .int .i64 (i : Nat))]) (fun i => h) (fun i => l.length - i) (fun i => i ≤ l.length ∧ l.take i = m.take i) 0 (by simp) fun i hi ih => ?_
  by_cases hlt : i < l.length
  · have hlt' : i < m.length := by omega
    refine Run2.of I 1000 ?_
    simp -implicitDefEqProofs [hlt, hlt']
    constructor
    · rintro hne rfl
      exact hne rfl
    · intro he
      refine ⟨by omega, ?_⟩
      have := ih (i + 1) ⟨by omega, by rw [List.take_succ_eq_append_getElem hlt, List.take_succ_eq_append_getElem hlt', hi.2, he]⟩ (by omega)
      simpa using this
  · refine Run2.of I 1000 ?_
    simp -implicitDefEqProofs [hlt]
    have : i = l.length := by omega
    have h2 := hi.2
    rw [List.take_of_length_le (by omega), List.take_of_length_le (by omega)] at h2
    exact h2
noncomputable def o_l00Same : List AV → Option (Prop × AV) := tab (fun (x : List Int × List Int) => match x with | (l, m) => [.snap 1 (l.map iv), .snap 1 (m.map iv)]) (fun x => match x with | (l, m) => l.length ≤ 1048576) (fun x => match x with | (l, m) => .bool (decide (l = m)))
@[simp] theorem o_l00Same_e (l : List Int) (m : List Int) : o_l00Same [.snap 1 (l.map iv), .snap 1 (m.map iv)] = some (l.length ≤ 1048576, .bool (decide (l = m))) := tab_at (enc := fun (x : List Int × List Int) => match x with | (l, m) => [.snap 1 (l.map iv), .snap 1 (m.map iv)]) (fun x y h => by
  obtain ⟨l1, m1⟩ := x; obtain ⟨l2, m2⟩ := y; simp at h; simp [h] <;> omega) _ _ (l, m)
theorem o_l00Same_k : Knows Try.prog 116 o_l00Same := tab_knows fun x hx h => by
  obtain ⟨l, m⟩ := x; exact l00Same_s l m h hx
noncomputable def orcS2 : List (Nat × (List AV → Option (Prop × AV))) := (116, o_l00Same) :: []
theorem orcS2_p : Pure Try.prog (lk orcS2) := (lk_pure o_l00Same_k lk_pure0)
@[simp] theorem orcS2_l (g : FuncId) (l : List AV) : lk orcS2 g l = if g = 116 then o_l00Same l else none := nr rfl
abbrev c_spec_l05Find_o0 : List AJ := [.o ⟨(some 4), none, false, .mv (.c (.int .i64 0)), (some [0, 1])⟩]
def c_spec_l05Find_0 : ACode := .region c_spec_l05Find_o0
abbrev c_spec_l05Find_o1 : List AJ := [.o ⟨(some 5), none, false, .mv (.c (.int .i64 0)), (some [0, 1, 5])⟩]
def c_spec_l05Find_1 : ACode := .region c_spec_l05Find_o1
abbrev c_spec_l05Find_o2 : List AJ := [.o ⟨(some 6), none, false, .mv (.t 5), none⟩, .o ⟨(some 7), none, false, .mv (.t 0), none⟩, .o ⟨(some 8), none, false, .nilchk (.t 7), none⟩, .o ⟨(some 9), none, false, .fieldA 0 (.t 8), none⟩, .o ⟨(some 10), none, false, .load 1 false (.t 9), none⟩, .o ⟨(some 11), none, false, .len (.t 10), none⟩, .o ⟨(some 12), none, false, .bin .lss (.t 6) (.t 11), (some [0, 1, 5, 12])⟩]
def c_spec_l05Find_2 : ACode := .region c_spec_l05Find_o2
def c_spec_l05Find_3 : ACode := .cond (.t 12) .skip (.exit 0)
def c_spec_l05Find_4 : ACode := .seq c_spec_l05Find_2 c_spec_l05Find_3
abbrev c_spec_l05Find_o3 : List AJ := [.o ⟨(some 15), none, false, .mv (.t 0), none⟩, .o ⟨(some 16), none, false, .nilchk (.t 15), none⟩, .o ⟨(some 17), none, false, .fieldA 0 (.t 16), none⟩, .o ⟨(some 18), none, false, .load 1 false (.t 17), none⟩, .o ⟨(some 19), none, false, .mv (.t 5), none⟩, .o ⟨(some 20), none, false, .idxA 1 (.t 18) (.t 19), none⟩, .o ⟨(some 21), none, false, .load 1 false (.t 20), none⟩, .o ⟨(some 22), none, false, .mv (.t 1), none⟩, .o ⟨(some 23), none, false, .call 116 [(.t 21), (.t 22)], (some [0, 1, 5, 23])⟩]
def c_spec_l05Find_5 : ACode := .region c_spec_l05Find_o3
abbrev c_spec_l05Find_o4 : List AJ := [.o ⟨(some 24), none, false, .mv (.t 5), none⟩, .o ⟨(some 4), none, false, .mv (.t 24), (some [4])⟩]
def c_spec_l05Find_6 : ACode := .region c_spec_l05Find_o4
def c_spec_l05Find_7 : ACode := .seq c_spec_l05Find_6 .ret
def c_spec_l05Find_8 : ACode := .cond (.t 23) c_spec_l05Find_7 .skip
def c_spec_l05Find_9 : ACode := .seq c_spec_l05Find_5 c_spec_l05Find_8
def c_spec_l05Find_10 : ACode := .block 1 c_spec_l05Find_9
abbrev c_spec_l05Find_o5 : List AJ := [.o ⟨(some 13), none, false, .mv (.t 5), none⟩, .o ⟨(some 14), none, true, .bin .add (.t 13) (.c (.int .i64 1)), none⟩, .o ⟨(some 5), none, false, .mv (.t 14), (some [0, 1, 5])⟩]
def c_spec_l05Find_11 : ACode := .region c_spec_l05Find_o5
def c_spec_l05Find_12 : ACode := .seq c_spec_l05Find_10 c_spec_l05Find_11
def c_spec_l05Find_13 : ACode := .seq c_spec_l05Find_4 c_spec_l05Find_12
def c_spec_l05Find_14 : ACode := .loop c_spec_l05Find_13
def c_spec_l05Find_15 : ACode := .block 0 c_spec_l05Find_14
def c_spec_l05Find_16 : ACode := .seq c_spec_l05Find_1 c_spec_l05Find_15
abbrev c_spec_l05Find_o6 : List AJ := [.o ⟨(some 4), none, false, .mv (.c (.int .i64 (-1))), (some [4])⟩]
def c_spec_l05Find_17 : ACode := .region c_spec_l05Find_o6
def c_spec_l05Find_18 : ACode := .seq c_spec_l05Find_17 .ret
def c_spec_l05Find_19 : ACode := .seq c_spec_l05Find_16 c_spec_l05Find_18
def c_spec_l05Find_20 : ACode := .seq c_spec_l05Find_0 c_spec_l05Find_19
section
variable (C : Cx) (n : Nat) (sk : List AItem) (e : Env) (h : Heap) (R : AV → Heap → Prop)
@[simp, simp ↓] theorem c_spec_l05Find_0_r : vc2 C (n + 1) [] (.code c_spec_l05Find_0 :: sk) e h R = (vc2 C n c_spec_l05Find_o0 sk e h R) := nr rfl
@[simp, simp ↓] theorem c_spec_l05Find_1_r : vc2 C (n + 1) [] (.code c_spec_l05Find_1 :: sk) e h R = (vc2 C n c_spec_l05Find_o1 sk e h R) := nr rfl
@[simp, simp ↓] theorem c_spec_l05Find_2_r : vc2 C (n + 1) [] (.code c_spec_l05Find_2 :: sk) e h R = (vc2 C n c_spec_l05Find_o2 sk e h R) := nr rfl
@[simp, simp ↓] theorem c_spec_l05Find_3_r : vc2 C (n + 1) [] (.code c_spec_l05Find_3 :: sk) e h R = (condK (ev e (.t 12)) (vc2 C n [] (.code .skip :: sk) e h R) (vc2 C n [] (.code (.exit 0) :: sk) e h R)) := nr rfl
@[simp, simp ↓] theorem c_spec_l05Find_4_r : vc2 C (n + 1) [] (.code c_spec_l05Find_4 :: sk) e h R = (vc2 C n [] (.code c_spec_l05Find_2 :: .code c_spec_l05Find_3 :: sk) e h R) := nr rfl
@[simp, simp ↓] theorem c_spec_l05Find_5_r : vc2 C (n + 1) [] (.code c_spec_l05Find_5 :: sk) e h R = (vc2 C n c_spec_l05Find_o3 sk e h R) := nr rfl
@[simp, simp ↓] theorem c_spec_l05Find_6_r : vc2 C (n + 1) [] (.code c_spec_l05Find_6 :: sk) e h R = (vc2 C n c_spec_l05Find_o4 sk e h R) := nr rfl
@[simp, simp ↓] theorem c_spec_l05Find_7_r : vc2 C (n + 1) [] (.code c_spec_l05Find_7 :: sk) e h R = (vc2 C n [] (.code c_spec_l05Find_6 :: .code .ret :: sk) e h R) := nr rfl
@[simp, simp ↓] theorem c_spec_l05Find_8_r : vc2 C (n + 1) [] (.code c_spec_l05Find_8 :: sk) e h R = (condK (ev e (.t 23)) (vc2 C n [] (.code c_spec_l05Find_7 :: sk) e h R) (vc2 C n [] (.code .skip :: sk) e h R)) := nr rfl
@[simp, simp ↓] theorem c_spec_l05Find_9_r : vc2 C (n + 1) [] (.code c_spec_l05Find_9 :: sk) e h R = (vc2 C n [] (.code c_spec_l05Find_5 :: .code c_spec_l05Find_8 :: sk) e h R) := nr rfl
@[simp, simp ↓] theorem c_spec_l05Find_10_r : vc2 C (n + 1) [] (.code c_spec_l05Find_10 :: sk) e h R = (vc2 C n [] (.code c_spec_l05Find_9 :: .inBlock 1 :: sk) e h R) := nr rfl
@[simp, simp ↓] theorem c_spec_l05Find_11_r : vc2 C (n + 1) [] (.code c_spec_l05Find_11 :: sk) e h R = (vc2 C n c_spec_l05Find_o5 sk e h R) := nr rfl
@[simp, simp ↓] theorem c_spec_l05Find_12_r : vc2 C (n + 1) [] (.code c_spec_l05Find_12 :: sk) e h R = (vc2 C n [] (.code c_spec_l05Find_10 :: .code c_spec_l05Find_11 :: sk) e h R) := nr rfl
@[simp, simp ↓] theorem c_spec_l05Find_13_r : vc2 C (n + 1) [] (.code c_spec_l05Find_13 :: sk) e h R = (vc2 C n [] (.code c_spec_l05Find_4 :: .code c_spec_l05Find_12 :: sk) e h R) := nr rfl
@[simp, simp ↓] theorem c_spec_l05Find_14_r : vc2 C (n + 1) [] (.code c_spec_l05Find_14 :: sk) e h R = (Run2 C (.code c_spec_l05Find_13 :: .inLoop c_spec_l05Find_13 :: sk) e h R) := nr rfl
@[simp, simp ↓] theorem c_spec_l05Find_15_r : vc2 C (n + 1) [] (.code c_spec_l05Find_15 :: sk) e h R = (vc2 C n [] (.code c_spec_l05Find_14 :: .inBlock 0 :: sk) e h R) := nr rfl
@[simp, simp ↓] theorem c_spec_l05Find_16_r : vc2 C (n + 1) [] (.code c_spec_l05Find_16 :: sk) e h R = (vc2 C n [] (.code c_spec_l05Find_1 :: .code c_spec_l05Find_15 :: sk) e h R) := nr rfl
@[simp, simp ↓] theorem c_spec_l05Find_17_r : vc2 C (n + 1) [] (.code c_spec_l05Find_17 :: sk) e h R = (vc2 C n c_spec_l05Find_o6 sk e h R) := nr rfl
@[simp, simp ↓] theorem c_spec_l05Find_18_r : vc2 C (n + 1) [] (.code c_spec_l05Find_18 :: sk) e h R = (vc2 C n [] (.code c_spec_l05Find_17 :: .code .ret :: sk) e h R) := nr rfl
@[simp, simp ↓] theorem c_spec_l05Find_19_r : vc2 C (n + 1) [] (.code c_spec_l05Find_19 :: sk) e h R = (vc2 C n [] (.code c_spec_l05Find_16 :: .code c_spec_l05Find_18 :: sk) e h R) := nr rfl
@[simp, simp ↓] theorem c_spec_l05Find_20_r : vc2 C (n + 1) [] (.code c_spec_l05Find_20 :: sk) e h R = (vc2 C n [] (.code c_spec_l05Find_0 :: .code c_spec_l05Find_19 :: sk) e h R) := nr rfl
end
noncomputable def c_spec_l05Find_C (orc : Orc) : Cx := ⟨Try.prog, [], 73, 25, [.tmp 4], orc⟩
@[simp] theorem c_spec_l05Find_C_P (orc : Orc) : (c_spec_l05Find_C orc).P = Try.prog := nr rfl
@[simp] theorem c_spec_l05Find_C_o (orc : Orc) : (c_spec_l05Find_C orc).orc = orc := nr rfl
@[simp] theorem c_spec_l05Find_C_r (orc : Orc) : (c_spec_l05Find_C orc).res = [.tmp 4] := nr rfl
theorem c_spec_l05Find_of {args : List AV} {h : Heap} {R : AV → Heap → Prop} {k : Nat} (ha : args.length = k) {orc : Orc} (hp : Pure Try.prog orc) (hk : Is (c_spec_l05Find_C orc) Try.f73 → Run2 (c_spec_l05Find_C orc) [.code c_spec_l05Find_20] (argEnv 0 args) h (Post R)) (hle : k ≤ 25 := by simp) : ACalls Try.prog 73 args h R :=
  contract2 [] c_spec_l05Find_20 [.tmp 4] Try.func73 (by decide +kernel) rfl (by kernel_rfl) (by rw [ha]; exact hle) (by kernel_rfl) hp hk
theorem c_spec_l05Find_of0 {args : List AV} {h : Heap} {R : AV → Heap → Prop} {k : Nat} (ha : args.length = k) {orc : Orc} (hp : Pure Try.prog orc) (hk : Is (c_spec_l05Find_C orc) Try.f73 → Run2 (c_spec_l05Find_C orc) [.code c_spec_l05Find_20] (argEnv 0 args) h R) (hle : k ≤ 25 := by simp) : ACalls Try.prog 73 args h R :=
  contract20 [] c_spec_l05Find_20 [.tmp 4] Try.func73 (by decide +kernel) rfl (by kernel_rfl) (by rw [ha]; exact hle) (by kernel_rfl) hp hk
theorem l05Find_s (rs : List (List Int)) (e : List AV) (s : List Int) (h : Heap) (hl : ssTot rs ≤ 1048576) : ACalls Try.prog 73 [.ip (.snap 1 (rs.map il) :: e), .snap 1 (s.map iv)] h (fun v h' => v = .int .i64 (ixS rs s) ∧ h' = h) := by
  have hf := fit_of_tot hl
  have hn := hf.1
  refine c_spec_l05Find_of0 rfl orcS2_p fun I => ?_
  refine Run2.of I 1000 ?_
  simp -implicitDefEqProofs
  refine Run2.loopE (fun (i : Nat) => [(0, .ip (.snap 1 (rs.map il) :: e)), (1, .snap 1 (s.map iv)), (5, .int .i64 i)]) (fun i => h) (fun i => rs.length - i) (fun i => i ≤ rs.length ∧ ∀ j (hj : j < rs.length), j < i → rs[j] ≠ s) 0 (by simp) rfl ⟨Nat.zero_le _, fun _ _ h => by omega⟩ fun i hi ih => ?_
  by_cases hlt : i < rs.length
  · have hr := hf.2 _ (List.getElem_mem hlt)
    have go := fun (h1 : rs[i] ≠ s) => ih (i + 1) ⟨by omega, fun j hj hji => by
      rcases Nat.lt_or_ge j i with h | h
      · exact hi.2 j hj h
      · obtain rfl : j = i := by omega
        exact h1⟩ (by omega)
    have hat := fun (h1 : rs[i] = s) => ixS_at hlt h1 hi.2
    clear ih
    refine Run2.of I 1000 ?_
    simp -implicitDefEqProofs [hlt, hr]
    refine ⟨fun h => (hat h).symm, fun h => ⟨by omega, by simpa using go h⟩⟩
  · obtain rfl : i = rs.length := by omega
    have hno := ixS_none (rs := rs) (s := s) fun hm => by
      obtain ⟨j, hj, e'⟩ := List.mem_iff_getElem.1 hm
      exact hi.2 j hj hj e'
    refine Run2.of I 1000 ?_
    simp -implicitDefEqProofs
    exact hno.symm
noncomputable def o_l05Find : List AV → Option (Prop × AV) := tab (fun (x : LS × List AV × List Int) => match x with | (rs, e, s) => [.ip (.snap 1 (rs.map il) :: e), .snap 1 (s.map iv)]) (fun x => match x with | (rs, e, s) => ssTot rs ≤ 1048576) (fun x => match x with | (rs, e, s) => .int .i64 (ixS rs s))
@[simp] theorem o_l05Find_e (rs : LS) (e : List AV) (s : List Int) : o_l05Find [.ip (.snap 1 (rs.map il) :: e), .snap 1 (s.map iv)] = some (ssTot rs ≤ 1048576, .int .i64 (ixS rs s)) := tab_at (enc := fun (x : LS × List AV × List Int) => match x with | (rs, e, s) => [.ip (.snap 1 (rs.map il) :: e), .snap 1 (s.map iv)]) (fun x y h => by
  obtain ⟨rs1, e1, s1⟩ := x; obtain ⟨rs2, e2, s2⟩ := y; simp at h; simp [h] <;> omega) _ _ (rs, e, s)
theorem o_l05Find_k : Knows Try.prog 73 o_l05Find := tab_knows fun x hx h => by
  obtain ⟨rs, e, s⟩ := x; exact l05Find_s rs e s h hx
abbrev c_spec_l05Before_o0 : List AJ := [.o ⟨(some 4), none, false, .mv (.c (.bool false)), (some [0, 1])⟩]
def c_spec_l05Before_0 : ACode := .region c_spec_l05Before_o0
abbrev c_spec_l05Before_o1 : List AJ := [.o ⟨(some 6), none, false, .mv (.t 0), none⟩, .o ⟨(some 7), none, false, .len (.t 6), none⟩, .o ⟨(some 8), none, false, .mv (.t 1), none⟩, .o ⟨(some 9), none, false, .len (.t 8), none⟩, .o ⟨(some 10), none, false, .bin .neq (.t 7) (.t 9), (some [0, 1, 10])⟩]
def c_spec_l05Before_1 : ACode := .region c_spec_l05Before_o1
abbrev c_spec_l05Before_o2 : List AJ := [.o ⟨(some 11), none, false, .mv (.t 0), none⟩, .o ⟨(some 12), none, false, .len (.t 11), none⟩, .o ⟨(some 13), none, false, .mv (.t 1), none⟩, .o ⟨(some 14), none, false, .len (.t 13), none⟩, .o ⟨(some 15), none, false, .bin .lss (.t 12) (.t 14), none⟩, .o ⟨(some 4), none, false, .mv (.t 15), (some [4])⟩]
def c_spec_l05Before_2 : ACode := .region c_spec_l05Before_o2
def c_spec_l05Before_3 : ACode := .seq c_spec_l05Before_2 .ret
def c_spec_l05Before_4 : ACode := .cond (.t 10) c_spec_l05Before_3 .skip
def c_spec_l05Before_5 : ACode := .seq c_spec_l05Before_1 c_spec_l05Before_4
abbrev c_spec_l05Before_o3 : List AJ := [.o ⟨(some 5), none, false, .mv (.c (.int .i64 0)), (some [0, 1, 5])⟩]
def c_spec_l05Before_6 : ACode := .region c_spec_l05Before_o3
abbrev c_spec_l05Before_o4 : List AJ := [.o ⟨(some 16), none, false, .mv (.t 5), none⟩, .o ⟨(some 17), none, false, .mv (.t 0), none⟩, .o ⟨(some 18), none, false, .len (.t 17), none⟩, .o ⟨(some 19), none, false, .bin .lss (.t 16) (.t 18), (some [0, 1, 5, 19])⟩]
def c_spec_l05Before_7 : ACode := .region c_spec_l05Before_o4
def c_spec_l05Before_8 : ACode := .cond (.t 19) .skip (.exit 0)
def c_spec_l05Before_9 : ACode := .seq c_spec_l05Before_7 c_spec_l05Before_8
abbrev c_spec_l05Before_o5 : List AI := [⟨(some 22), none, false, .mv (.t 0), none⟩, ⟨(some 23), none, false, .mv (.t 5), none⟩, ⟨(some 24), none, false, .idxA 1 (.t 22) (.t 23), none⟩, ⟨(some 25), none, false, .load 1 false (.t 24), none⟩, ⟨(some 26), none, false, .mv (.t 1), none⟩, ⟨(some 27), none, false, .mv (.t 5), none⟩, ⟨(some 28), none, false, .idxA 1 (.t 26) (.t 27), none⟩, ⟨(some 29), none, false, .load 1 false (.t 28), none⟩, ⟨(some 30), none, false, .bin .neq (.t 25) (.t 29), (some [0, 1, 5, 30])⟩]
def c_spec_l05Before_10 : ACode := .draw c_spec_l05Before_o5 [] rfl
abbrev c_spec_l05Before_o6 : List AI := [⟨(some 31), none, false, .mv (.t 0), none⟩, ⟨(some 32), none, false, .mv (.t 5), none⟩, ⟨(some 33), none, false, .idxA 1 (.t 31) (.t 32), none⟩, ⟨(some 34), none, false, .load 1 false (.t 33), none⟩, ⟨(some 35), none, false, .mv (.t 1), none⟩, ⟨(some 36), none, false, .mv (.t 5), none⟩, ⟨(some 37), none, false, .idxA 1 (.t 35) (.t 36), none⟩, ⟨(some 38), none, false, .load 1 false (.t 37), none⟩, ⟨(some 39), none, false, .bin .lss (.t 34) (.t 38), none⟩, ⟨(some 4), none, false, .mv (.t 39), (some [4])⟩]
def c_spec_l05Before_11 : ACode := .draw c_spec_l05Before_o6 [] rfl
def c_spec_l05Before_12 : ACode := .seq c_spec_l05Before_11 .ret
def c_spec_l05Before_13 : ACode := .cond (.t 30) c_spec_l05Before_12 .skip
def c_spec_l05Before_14 : ACode := .seq c_spec_l05Before_10 c_spec_l05Before_13
def c_spec_l05Before_15 : ACode := .block 1 c_spec_l05Before_14
abbrev c_spec_l05Before_o7 : List AJ := [.o ⟨(some 20), none, false, .mv (.t 5), none⟩, .o ⟨(some 21), none, true, .bin .add (.t 20) (.c (.int .i64 1)), none⟩, .o ⟨(some 5), none, false, .mv (.t 21), (some [0, 1, 5])⟩]
def c_spec_l05Before_16 : ACode := .region c_spec_l05Before_o7
def c_spec_l05Before_17 : ACode := .seq c_spec_l05Before_15 c_spec_l05Before_16
def c_spec_l05Before_18 : ACode := .seq c_spec_l05Before_9 c_spec_l05Before_17
def c_spec_l05Before_19 : ACode := .loop c_spec_l05Before_18
def c_spec_l05Before_20 : ACode := .block 0 c_spec_l05Before_19
def c_spec_l05Before_21 : ACode := .seq c_spec_l05Before_6 c_spec_l05Before_20
abbrev c_spec_l05Before_o8 : List AJ := [.o ⟨(some 4), none, false, .mv (.c (.bool false)), (some [4])⟩]
def c_spec_l05Before_22 : ACode := .region c_spec_l05Before_o8
def c_spec_l05Before_23 : ACode := .seq c_spec_l05Before_22 .ret
def c_spec_l05Before_24 : ACode := .seq c_spec_l05Before_21 c_spec_l05Before_23
def c_spec_l05Before_25 : ACode := .seq c_spec_l05Before_5 c_spec_l05Before_24
def c_spec_l05Before_26 : ACode := .seq c_spec_l05Before_0 c_spec_l05Before_25
section
variable (C : Cx) (n : Nat) (sk : List AItem) (e : Env) (h : Heap) (R : AV → Heap → Prop)
@[simp, simp ↓] theorem c_spec_l05Before_0_r : vc2 C (n + 1) [] (.code c_spec_l05Before_0 :: sk) e h R = (vc2 C n c_spec_l05Before_o0 sk e h R) := nr rfl
@[simp, simp ↓] theorem c_spec_l05Before_1_r : vc2 C (n + 1) [] (.code c_spec_l05Before_1 :: sk) e h R = (vc2 C n c_spec_l05Before_o1 sk e h R) := nr rfl
@[simp, simp ↓] theorem c_spec_l05Before_2_r : vc2 C (n + 1) [] (.code c_spec_l05Before_2 :: sk) e h R = (vc2 C n c_spec_l05Before_o2 sk e h R) := nr rfl
@[simp, simp ↓] theorem c_spec_l05Before_3_r : vc2 C (n + 1) [] (.code c_spec_l05Before_3 :: sk) e h R = (vc2 C n [] (.code c_spec_l05Before_2 :: .code .ret :: sk) e h R) := nr rfl
@[simp, simp ↓] theorem c_spec_l05Before_4_r : vc2 C (n + 1) [] (.code c_spec_l05Before_4 :: sk) e h R = (condK (ev e (.t 10)) (vc2 C n [] (.code c_spec_l05Before_3 :: sk) e h R) (vc2 C n [] (.code .skip :: sk) e h R)) := nr rfl
@[simp, simp ↓] theorem c_spec_l05Before_5_r : vc2 C (n + 1) [] (.code c_spec_l05Before_5 :: sk) e h R = (vc2 C n [] (.code c_spec_l05Before_1 :: .code c_spec_l05Before_4 :: sk) e h R) := nr rfl
@[simp, simp ↓] theorem c_spec_l05Before_6_r : vc2 C (n + 1) [] (.code c_spec_l05Before_6 :: sk) e h R = (vc2 C n c_spec_l05Before_o3 sk e h R) := nr rfl
@[simp, simp ↓] theorem c_spec_l05Before_7_r : vc2 C (n + 1) [] (.code c_spec_l05Before_7 :: sk) e h R = (vc2 C n c_spec_l05Before_o4 sk e h R) := nr rfl
@[simp, simp ↓] theorem c_spec_l05Before_8_r : vc2 C (n + 1) [] (.code c_spec_l05Before_8 :: sk) e h R = (condK (ev e (.t 19)) (vc2 C n [] (.code .skip :: sk) e h R) (vc2 C n [] (.code (.exit 0) :: sk) e h R)) := nr rfl
@[simp, simp ↓] theorem c_spec_l05Before_9_r : vc2 C (n + 1) [] (.code c_spec_l05Before_9 :: sk) e h R = (vc2 C n [] (.code c_spec_l05Before_7 :: .code c_spec_l05Before_8 :: sk) e h R) := nr rfl
@[simp, simp ↓] theorem c_spec_l05Before_10_r : vc2 C (n + 1) [] (.code c_spec_l05Before_10 :: sk) e h R = (draw2 C h (vK C n [] sk R h) c_spec_l05Before_o5 e) := nr rfl
@[simp, simp ↓] theorem c_spec_l05Before_11_r : vc2 C (n + 1) [] (.code c_spec_l05Before_11 :: sk) e h R = (draw2 C h (vK C n [] sk R h) c_spec_l05Before_o6 e) := nr rfl
@[simp, simp ↓] theorem c_spec_l05Before_12_r : vc2 C (n + 1) [] (.code c_spec_l05Before_12 :: sk) e h R = (vc2 C n [] (.code c_spec_l05Before_11 :: .code .ret :: sk) e h R) := nr rfl
@[simp, simp ↓] theorem c_spec_l05Before_13_r : vc2 C (n + 1) [] (.code c_spec_l05Before_13 :: sk) e h R = (condK (ev e (.t 30)) (vc2 C n [] (.code c_spec_l05Before_12 :: sk) e h R) (vc2 C n [] (.code .skip :: sk) e h R)) := nr rfl
@[simp, simp ↓] theorem c_spec_l05Before_14_r : vc2 C (n + 1) [] (.code c_spec_l05Before_14 :: sk) e h R = (vc2 C n [] (.code c_spec_l05Before_10 :: .code c_spec_l05Before_13 :: sk) e h R) := nr rfl
@[simp, simp ↓] theorem c_spec_l05Before_15_r : vc2 C (n + 1) [] (.code c_spec_l05Before_15 :: sk) e h R = (vc2 C n [] (.code c_spec_l05Before_14 :: .inBlock 1 :: sk) e h R) := nr rfl
@[simp, simp ↓] theorem c_spec_l05Before_16_r : vc2 C (n + 1) [] (.code c_spec_l05Before_16 :: sk) e h R = (vc2 C n c_spec_l05Before_o7 sk e h R) := nr rfl
@[simp, simp ↓] theorem c_spec_l05Before_17_r : vc2 C (n + 1) [] (.code c_spec_l05Before_17 :: sk) e h R = (vc2 C n [] (.code c_spec_l05Before_15 :: .code c_spec_l05Before_16 :: sk) e h R) := nr rfl
@[simp, simp ↓] theorem c_spec_l05Before_18_r : vc2 C (n + 1) [] (.code c_spec_l05Before_18 :: sk) e h R = (vc2 C n [] (.code c_spec_l05Before_9 :: .code c_spec_l05Before_17 :: sk) e h R) := nr rfl
@[simp, simp ↓] theorem c_spec_l05Before_19_r : vc2 C (n + 1) [] (.code c_spec_l05Before_19 :: sk) e h R = (Run2 C (.code c_spec_l05Before_18 :: .inLoop c_spec_l05Before_18 :: sk) e h R) := nr rfl
@[simp, simp ↓] theorem c_spec_l05Before_20_r : vc2 C (n + 1) [] (.code c_spec_l05Before_20 :: sk) e h R = (vc2 C n [] (.code c_spec_l05Before_19 :: .inBlock 0 :: sk) e h R) := nr rfl
@[simp, simp ↓] theorem c_spec_l05Before_21_r : vc2 C (n + 1) [] (.code c_spec_l05Before_21 :: sk) e h R = (vc2 C n [] (.code c_spec_l05Before_6 :: .code c_spec_l05Before_20 :: sk) e h R) := nr rfl
@[simp, simp ↓] theorem c_spec_l05Before_22_r : vc2 C (n + 1) [] (.code c_spec_l05Before_22 :: sk) e h R = (vc2 C n c_spec_l05Before_o8 sk e h R) := nr rfl
@[simp, simp ↓] theorem c_spec_l05Before_23_r : vc2 C (n + 1) [] (.code c_spec_l05Before_23 :: sk) e h R = (vc2 C n [] (.code c_spec_l05Before_22 :: .code .ret :: sk) e h R) := nr rfl
@[simp, simp ↓] theorem c_spec_l05Before_24_r : vc2 C (n + 1) [] (.code c_spec_l05Before_24 :: sk) e h R = (vc2 C n [] (.code c_spec_l05Before_21 :: .code c_spec_l05Before_23 :: sk) e h R) := nr rfl
@[simp, simp ↓] theorem c_spec_l05Before_25_r : vc2 C (n + 1) [] (.code c_spec_l05Before_25 :: sk) e h R = (vc2 C n [] (.code c_spec_l05Before_5 :: .code c_spec_l05Before_24 :: sk) e h R) := nr rfl
@[simp, simp ↓] theorem c_spec_l05Before_26_r : vc2 C (n + 1) [] (.code c_spec_l05Before_26 :: sk) e h R = (vc2 C n [] (.code c_spec_l05Before_0 :: .code c_spec_l05Before_25 :: sk) e h R) := nr rfl
end
noncomputable def c_spec_l05Before_C (orc : Orc) : Cx := ⟨Try.prog, [], 113, 40, [.tmp 4], orc⟩
@[simp] theorem c_spec_l05Before_C_P (orc : Orc) : (c_spec_l05Before_C orc).P = Try.prog := nr rfl
@[simp] theorem c_spec_l05Before_C_o (orc : Orc) : (c_spec_l05Before_C orc).orc = orc := nr rfl
@[simp] theorem c_spec_l05Before_C_r (orc : Orc) : (c_spec_l05Before_C orc).res = [.tmp 4] := nr rfl
theorem c_spec_l05Before_of {args : List AV} {h : Heap} {R : AV → Heap → Prop} {k : Nat} (ha : args.length = k) {orc : Orc} (hp : Pure Try.prog orc) (hk : Is (c_spec_l05Before_C orc) Try.f113 → Run2 (c_spec_l05Before_C orc) [.code c_spec_l05Before_26] (argEnv 0 args) h (Post R)) (hle : k ≤ 40 := by simp) : ACalls Try.prog 113 args h R :=
  contract2 [] c_spec_l05Before_26 [.tmp 4] Try.func113 (by decide +kernel) rfl (by kernel_rfl) (by rw [ha]; exact hle) (by kernel_rfl) hp hk
theorem c_spec_l05Before_of0 {args : List AV} {h : Heap} {R : AV → Heap → Prop} {k : Nat} (ha : args.length = k) {orc : Orc} (hp : Pure Try.prog orc) (hk : Is (c_spec_l05Before_C orc) Try.f113 → Run2 (c_spec_l05Before_C orc) [.code c_spec_l05Before_26] (argEnv 0 args) h R) (hle : k ≤ 40 := by simp) : ACalls Try.prog 113 args h R :=
  contract20 [] c_spec_l05Before_26 [.tmp 4] Try.func113 (by decide +kernel) rfl (by kernel_rfl) (by rw [ha]; exact hle) (by kernel_rfl) hp hk
theorem l05Before_s (a b : List Int) (h : Heap) (hl : a.length ≤ 1048576) : ACalls Try.prog 113 [.snap 1 (a.map iv), .snap 1 (b.map iv)] h (fun v h' => v = .bool (decide (cmpS a b < 0)) ∧ h' = h) := by
  refine c_spec_l05Before_of0 rfl noPure fun I => ?_
  by_cases hab : a.length = b.length
  · have e0 : cmpS a b = lexC a b := by unfold cmpS cmpZ; simp [hab]
    have hab' : (a.length : Int) = b.length := by omega
    refine Run2.of I 1000 ?_
    simp -implicitDefEqProofs [hab']
    refine Run2.loopE (fun (i : Nat) => [(0, .snap 1 (a.map iv)), (1, .snap 1 (b.map iv)), (5, .int .i64 i)]) (fun i => h) (fun i => a.length - i) (fun i => i ≤ a.length ∧ lexC (a.drop i) (b.drop i) = lexC a b) 0 (by simp) rfl (by simp) fun i hi ih => ?_
    have hc := hi.2
    by_cases hlt : i < a.length
    · have hlt2 : i < b.length := by omega
      rw [List.drop_eq_getElem_cons hlt, List.drop_eq_getElem_cons hlt2] at hc
      simp only [lexC] at hc
      have go := fun (hz : a[i] = b[i]) => ih (i + 1) ⟨by omega, by rw [← hc, if_pos ((cmpZ_zero _ _).2 hz)]⟩ (by omega)
      have hne := fun (hz : ¬ a[i] = b[i]) => show a[i] < b[i] ↔ cmpS a b < 0 by
        rw [e0, ← hc, if_neg (fun h => hz ((cmpZ_zero _ _).1 h)), cmpZ_neg]
      clear ih
      refine Run2.of I 1000 ?_
      simp -implicitDefEqProofs [hlt, hlt2]
      refine ⟨fun h => hne h, fun h => ⟨by omega, by simpa using go h⟩⟩
    · obtain rfl : i = a.length := by omega
      rw [List.drop_length, List.drop_of_length_le (by omega)] at hc
      simp only [lexC] at hc
      have : ¬ cmpS a b < 0 := by rw [e0]; omega
      refine Run2.of I 1000 ?_
      simp -implicitDefEqProofs [hlt, this]
  · have e0 : cmpS a b < 0 ↔ (a.length : Int) < b.length := by unfold cmpS cmpZ; grind
    have hab' : ¬ (a.length : Int) = b.length := by omega
    refine Run2.of I 1000 ?_
    simp -implicitDefEqProofs [hab', e0]
noncomputable def o_l05Before : List AV → Option (Prop × AV) := tab (fun (x : List Int × List Int) => match x with | (a, b) => [.snap 1 (a.map iv), .snap 1 (b.map iv)]) (fun x => match x with | (a, b) => a.length ≤ 1048576) (fun x => match x with | (a, b) => .bool (decide (cmpS a b < 0)))
@[simp] theorem o_l05Before_e (a : List Int) (b : List Int) : o_l05Before [.snap 1 (a.map iv), .snap 1 (b.map iv)] = some (a.length ≤ 1048576, .bool (decide (cmpS a b < 0))) := tab_at (enc := fun (x : List Int × List Int) => match x with | (a, b) => [.snap 1 (a.map iv), .snap 1 (b.map iv)]) (fun x y h => by
  obtain ⟨a1, b1⟩ := x; obtain ⟨a2, b2⟩ := y; simp at h; simp [h] <;> omega) _ _ (a, b)
theorem o_l05Before_k : Knows Try.prog 113 o_l05Before := tab_knows fun x hx h => by
  obtain ⟨a, b⟩ := x; exact l05Before_s a b h hx
theorem Grow.appAny {sz : Nat} {w : AV} {l new : List AV} {hp h : Heap} {C : Cx} {n : Nat} {d : Option Nat} {ks : Option (List Nat)} {is : List AJ} {sk : List AItem} {R : AV → Heap → Prop} {e : Env} {bytes : Nat} (g : Grow sz w l hp) (hb : (2 * (l.length + new.length)) * bytes ≤ 281474976710656)
    (k : ∀ w' hp', Grow sz w' (l ++ new) hp' → vc2 C n is sk (kp (put e d w') ks) (hp' ++ h) R) : resK C n d ks is sk R e (hp ++ h) (appR (hp ++ h) sz bytes w new) := by
  by_cases hn : new = []
  · subst hn
    cases g with
    | nil =>
      simp only [appR_n]
      exact ⟨fun _ => k _ _ .nil, fun h => by cases h⟩
    | emp =>
      simp only [appR_e]
      exact ⟨fun _ => k _ _ .emp, fun h => by cases h⟩
    | sl id l m hm =>
      subst hm
      have hd : hdel ((id, ⟨sz, l⟩) :: h) id = h := by simp [hdel]
      rw [appR_ln]
      refine ⟨rfl, ⟨sz, l⟩, by simp [hget], rfl, by simp, rfl, hb, fun id' _ => ?_⟩
      have := k _ _ (.sl id' (l ++ []) (l.length + 0) (by simp))
      simpa [hd] using this
  · exact g.app hb hn k
abbrev c_spec_l05Drop_o0 : List AJ := [.o ⟨(some 4), none, false, .mv (.c .nilsl), (some [0, 1])⟩]
def c_spec_l05Drop_0 : ACode := .region c_spec_l05Drop_o0
abbrev c_spec_l05Drop_o1 : List AJ := [.o ⟨(some 6), none, false, .mv (.t 0), none⟩, .o ⟨(some 7), none, false, .mv (.t 1), none⟩, .o ⟨(some 8), none, false, .slice 1 (.t 6) none (some (.t 7)) none, none⟩, .o ⟨(some 9), none, false, .call 89 [(.t 8)], none⟩, .o ⟨(some 5), none, false, .mv (.t 9), (some [0, 1, 5])⟩]
def c_spec_l05Drop_1 : ACode := .region c_spec_l05Drop_o1
abbrev c_spec_l05Drop_o2 : List AJ := [.o ⟨(some 10), none, false, .mv (.t 5), none⟩, .o ⟨(some 11), none, false, .mv (.t 0), none⟩, .o ⟨(some 12), none, false, .mv (.t 1), none⟩, .o ⟨(some 13), none, true, .bin .add (.t 12) (.c (.int .i64 1)), none⟩, .o ⟨(some 14), none, false, .slice 1 (.t 11) (some (.t 13)) none none, none⟩, .o ⟨(some 15), none, false, .append 1 8 (.t 10) (.t 14), none⟩, .o ⟨(some 4), none, false, .mv (.t 15), (some [4])⟩]
def c_spec_l05Drop_2 : ACode := .region c_spec_l05Drop_o2
def c_spec_l05Drop_3 : ACode := .seq c_spec_l05Drop_2 .ret
def c_spec_l05Drop_4 : ACode := .seq c_spec_l05Drop_1 c_spec_l05Drop_3
def c_spec_l05Drop_5 : ACode := .seq c_spec_l05Drop_0 c_spec_l05Drop_4
section
variable (C : Cx) (n : Nat) (sk : List AItem) (e : Env) (h : Heap) (R : AV → Heap → Prop)
@[simp, simp ↓] theorem c_spec_l05Drop_0_r : vc2 C (n + 1) [] (.code c_spec_l05Drop_0 :: sk) e h R = (vc2 C n c_spec_l05Drop_o0 sk e h R) := nr rfl
@[simp, simp ↓] theorem c_spec_l05Drop_1_r : vc2 C (n + 1) [] (.code c_spec_l05Drop_1 :: sk) e h R = (vc2 C n c_spec_l05Drop_o1 sk e h R) := nr rfl
@[simp, simp ↓] theorem c_spec_l05Drop_2_r : vc2 C (n + 1) [] (.code c_spec_l05Drop_2 :: sk) e h R = (vc2 C n c_spec_l05Drop_o2 sk e h R) := nr rfl
@[simp, simp ↓] theorem c_spec_l05Drop_3_r : vc2 C (n + 1) [] (.code c_spec_l05Drop_3 :: sk) e h R = (vc2 C n [] (.code c_spec_l05Drop_2 :: .code .ret :: sk) e h R) := nr rfl
@[simp, simp ↓] theorem c_spec_l05Drop_4_r : vc2 C (n + 1) [] (.code c_spec_l05Drop_4 :: sk) e h R = (vc2 C n [] (.code c_spec_l05Drop_1 :: .code c_spec_l05Drop_3 :: sk) e h R) := nr rfl
@[simp, simp ↓] theorem c_spec_l05Drop_5_r : vc2 C (n + 1) [] (.code c_spec_l05Drop_5 :: sk) e h R = (vc2 C n [] (.code c_spec_l05Drop_0 :: .code c_spec_l05Drop_4 :: sk) e h R) := nr rfl
end
noncomputable def c_spec_l05Drop_C (orc : Orc) : Cx := ⟨Try.prog, [], 114, 16, [.tmp 4], orc⟩
@[simp] theorem c_spec_l05Drop_C_P (orc : Orc) : (c_spec_l05Drop_C orc).P = Try.prog := nr rfl
@[simp] theorem c_spec_l05Drop_C_o (orc : Orc) : (c_spec_l05Drop_C orc).orc = orc := nr rfl
@[simp] theorem c_spec_l05Drop_C_r (orc : Orc) : (c_spec_l05Drop_C orc).res = [.tmp 4] := nr rfl
theorem c_spec_l05Drop_of {args : List AV} {h : Heap} {R : AV → Heap → Prop} {k : Nat} (ha : args.length = k) {orc : Orc} (hp : Pure Try.prog orc) (hk : Is (c_spec_l05Drop_C orc) Try.f114 → Run2 (c_spec_l05Drop_C orc) [.code c_spec_l05Drop_5] (argEnv 0 args) h (Post R)) (hle : k ≤ 16 := by simp) : ACalls Try.prog 114 args h R :=
  contract2 [] c_spec_l05Drop_5 [.tmp 4] Try.func114 (by decide +kernel) rfl (by kernel_rfl) (by rw [ha]; exact hle) (by kernel_rfl) hp hk
theorem c_spec_l05Drop_of0 {args : List AV} {h : Heap} {R : AV → Heap → Prop} {k : Nat} (ha : args.length = k) {orc : Orc} (hp : Pure Try.prog orc) (hk : Is (c_spec_l05Drop_C orc) Try.f114 → Run2 (c_spec_l05Drop_C orc) [.code c_spec_l05Drop_5] (argEnv 0 args) h R) (hle : k ≤ 16 := by simp) : ACalls Try.prog 114 args h R :=
  contract20 [] c_spec_l05Drop_5 [.tmp 4] Try.func114 (by decide +kernel) rfl (by kernel_rfl) (by rw [ha]; exact hle) (by kernel_rfl) hp hk
theorem l05Drop_s (s : List Int) (k : Nat) (h : Heap) (hl : s.length ≤ 1048576) (hk : k < s.length) : ACalls Try.prog 114 [.snap 1 (s.map iv), .int .i64 k] h (fun v h' => v = il (dropK s k) ∧ h' = h) := by
  refine c_spec_l05Drop_of rfl noPure fun I => ?_
  refine Run2.of I 1000 ?_
  simp -implicitDefEqProofs
  refine ⟨by omega, ?_⟩
  rw [← List.map_take]
  refine (l00Own_g (s.take k) h (by simp; omega)).mono ?_
  rintro v h' ⟨hp, g, rfl⟩
  have hcell := g.cell
  refine gK.go ?_
  simp -implicitDefEqProofs [hcell]
  refine ⟨by omega, by omega, ?_⟩
  have htk : List.take ((s.length : Int) - ((k : Int) + 1)).toNat (List.drop (k + 1) (List.map iv s)) = List.drop (k + 1) (List.map iv s) := List.take_of_length_le (by simp; omega)
  rw [htk]
  refine g.appAny (by simp; omega) fun w' hp' hg' => ?_
  have hcell' := hg'.cell
  simp -implicitDefEqProofs [hcell']
  refine hg'.froze (fun x => x) (fun _ _ _ => rfl) (fun _ _ h => h) (.base ⟨?_, rfl⟩)
  simp [dropK]
noncomputable def o_l05Drop : List AV → Option (Prop × AV) := tab (fun (x : List Int × Nat) => match x with | (s, k) => [.snap 1 (s.map iv), .int .i64 k]) (fun x => match x with | (s, k) => (s.length ≤ 1048576 ∧ k < s.length)) (fun x => match x with | (s, k) => .snap 1 ((dropK s k).map iv))
@[simp] theorem o_l05Drop_e (s : List Int) (k : Nat) : o_l05Drop [.snap 1 (s.map iv), .int .i64 k] = some ((s.length ≤ 1048576 ∧ k < s.length), .snap 1 ((dropK s k).map iv)) := tab_at (enc := fun (x : List Int × Nat) => match x with | (s, k) => [.snap 1 (s.map iv), .int .i64 k]) (fun x y h => by
  obtain ⟨s1, k1⟩ := x; obtain ⟨s2, k2⟩ := y; simp at h; simp [h] <;> omega) _ _ (s, k)
theorem o_l05Drop_k : Knows Try.prog 114 o_l05Drop := tab_knows fun x hx h => by
  obtain ⟨s, k⟩ := x; exact l05Drop_s s k h hx.1 hx.2
end Go.AG
