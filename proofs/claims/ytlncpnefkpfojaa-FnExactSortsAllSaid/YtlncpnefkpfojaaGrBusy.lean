/- The busiest node: what the program's and the reference's functions give. No statement is made here. -/
import Derived.Test.YtlncpnefkpfojaaGrVal
import Derived.Test.YtlncpnefkpfojaaISS
namespace Go.AG
open Go.Proofs Go.Proofs.Ytlncpnefkpfojaa
set_option linter.unusedSimpArgs false
set_option linter.unusedVariables false
set_option maxRecDepth 4000
/-- The greatest one. -/
def maxL (l : List Int) : Int := l.foldl max (l.headD 0)
theorem foldl_max (l : List Int) (a : Int) : (∀ x ∈ l, x ≤ l.foldl max a) ∧ a ≤ l.foldl max a ∧ (l.foldl max a = a ∨ l.foldl max a ∈ l) := by
  induction l generalizing a with
  | nil => simp
  | cons x l ih =>
    obtain ⟨h1, h2, h3⟩ := ih (max a x)
    simp only [List.foldl_cons]
    refine ⟨?_, by omega, ?_⟩
    · intro y hy
      rcases List.mem_cons.1 hy with rfl | hy
      · omega
      · exact h1 y hy
    · rcases h3 with h3 | h3
      · rcases Int.le_total a x with h | h
        · exact .inr (by rw [h3, Int.max_eq_right h]; exact List.mem_cons_self ..)
        · exact .inl (by rw [h3, Int.max_eq_left h])
      · exact .inr (List.mem_cons_of_mem _ h3)
theorem maxL_ge {l : List Int} {x : Int} (h : x ∈ l) : x ≤ maxL l := (foldl_max l _).1 x h
theorem maxL_mem {l : List Int} (h : l ≠ []) : maxL l ∈ l := by
  rcases (foldl_max l (l.headD 0)).2.2 with h1 | h1
  · unfold maxL; rw [h1]
    cases l with
    | nil => exact absurd rfl h
    | cons a l => simp
  · exact h1
abbrev c_slices_Max_int64_int64_o0 : List AJ := [.o ⟨(some 2), none, false, .mv (.c (.int .i64 0)), (some [0])⟩]
def c_slices_Max_int64_int64_0 : ACode := .region c_slices_Max_int64_int64_o0
abbrev c_slices_Max_int64_int64_o1 : List AJ := [.o ⟨(some 5), none, false, .mv (.t 0), none⟩, .o ⟨(some 6), none, false, .len (.t 5), none⟩, .o ⟨(some 7), none, false, .bin .lss (.t 6) (.c (.int .i64 1)), (some [0, 7])⟩]
def c_slices_Max_int64_int64_1 : ACode := .region c_slices_Max_int64_int64_o1
def c_slices_Max_int64_int64_2 : ACode := .cond (.t 7) .bad .skip
def c_slices_Max_int64_int64_3 : ACode := .seq c_slices_Max_int64_int64_1 c_slices_Max_int64_int64_2
abbrev c_slices_Max_int64_int64_o2 : List AJ := [.o ⟨(some 9), none, false, .mv (.t 0), none⟩, .o ⟨(some 10), none, false, .idxA 1 (.t 9) (.c (.int .i64 0)), none⟩, .o ⟨(some 11), none, false, .load 1 false (.t 10), none⟩, .o ⟨(some 3), none, false, .mv (.t 11), (some [0, 3])⟩]
def c_slices_Max_int64_int64_4 : ACode := .region c_slices_Max_int64_int64_o2
abbrev c_slices_Max_int64_int64_o3 : List AJ := [.o ⟨(some 4), none, false, .mv (.c (.int .i64 1)), (some [0, 3, 4])⟩]
def c_slices_Max_int64_int64_5 : ACode := .region c_slices_Max_int64_int64_o3
abbrev c_slices_Max_int64_int64_o4 : List AJ := [.o ⟨(some 12), none, false, .mv (.t 4), none⟩, .o ⟨(some 13), none, false, .mv (.t 0), none⟩, .o ⟨(some 14), none, false, .len (.t 13), none⟩, .o ⟨(some 15), none, false, .bin .lss (.t 12) (.t 14), (some [0, 3, 4, 15])⟩]
def c_slices_Max_int64_int64_6 : ACode := .region c_slices_Max_int64_int64_o4
def c_slices_Max_int64_int64_7 : ACode := .cond (.t 15) .skip (.exit 0)
def c_slices_Max_int64_int64_8 : ACode := .seq c_slices_Max_int64_int64_6 c_slices_Max_int64_int64_7
abbrev c_slices_Max_int64_int64_o5 : List AJ := [.o ⟨(some 18), none, false, .mv (.t 3), none⟩, .o ⟨(some 19), none, false, .mv (.t 0), none⟩, .o ⟨(some 20), none, false, .mv (.t 4), none⟩, .o ⟨(some 21), none, false, .idxA 1 (.t 19) (.t 20), none⟩, .o ⟨(some 22), none, false, .load 1 false (.t 21), none⟩, .o ⟨(some 23), none, false, .mx true [(.t 18), (.t 22)], none⟩, .o ⟨(some 3), none, false, .mv (.t 23), (some [0, 3, 4])⟩]
def c_slices_Max_int64_int64_9 : ACode := .region c_slices_Max_int64_int64_o5
def c_slices_Max_int64_int64_10 : ACode := .block 1 c_slices_Max_int64_int64_9
abbrev c_slices_Max_int64_int64_o6 : List AJ := [.o ⟨(some 16), none, false, .mv (.t 4), none⟩, .o ⟨(some 17), none, true, .bin .add (.t 16) (.c (.int .i64 1)), none⟩, .o ⟨(some 4), none, false, .mv (.t 17), (some [0, 3, 4])⟩]
def c_slices_Max_int64_int64_11 : ACode := .region c_slices_Max_int64_int64_o6
def c_slices_Max_int64_int64_12 : ACode := .seq c_slices_Max_int64_int64_10 c_slices_Max_int64_int64_11
def c_slices_Max_int64_int64_13 : ACode := .seq c_slices_Max_int64_int64_8 c_slices_Max_int64_int64_12
def c_slices_Max_int64_int64_14 : ACode := .loop c_slices_Max_int64_int64_13
def c_slices_Max_int64_int64_15 : ACode := .block 0 c_slices_Max_int64_int64_14
def c_slices_Max_int64_int64_16 : ACode := .seq c_slices_Max_int64_int64_5 c_slices_Max_int64_int64_15
abbrev c_slices_Max_int64_int64_o7 : List AJ := [.o ⟨(some 24), none, false, .mv (.t 3), none⟩, .o ⟨(some 2), none, false, .mv (.t 24), (some [2])⟩]
def c_slices_Max_int64_int64_17 : ACode := .region c_slices_Max_int64_int64_o7
def c_slices_Max_int64_int64_18 : ACode := .seq c_slices_Max_int64_int64_17 .ret
def c_slices_Max_int64_int64_19 : ACode := .seq c_slices_Max_int64_int64_16 c_slices_Max_int64_int64_18
def c_slices_Max_int64_int64_20 : ACode := .seq c_slices_Max_int64_int64_4 c_slices_Max_int64_int64_19
def c_slices_Max_int64_int64_21 : ACode := .seq c_slices_Max_int64_int64_3 c_slices_Max_int64_int64_20
def c_slices_Max_int64_int64_22 : ACode := .seq c_slices_Max_int64_int64_0 c_slices_Max_int64_int64_21
section
variable (C : Cx) (n : Nat) (sk : List AItem) (e : Env) (h : Heap) (R : AV → Heap → Prop)
@[simp, simp ↓] theorem c_slices_Max_int64_int64_0_r : vc2 C (n + 1) [] (.code c_slices_Max_int64_int64_0 :: sk) e h R = (vc2 C n c_slices_Max_int64_int64_o0 sk e h R) := nr rfl
@[simp, simp ↓] theorem c_slices_Max_int64_int64_1_r : vc2 C (n + 1) [] (.code c_slices_Max_int64_int64_1 :: sk) e h R = (vc2 C n c_slices_Max_int64_int64_o1 sk e h R) := nr rfl
@[simp, simp ↓] theorem c_slices_Max_int64_int64_2_r : vc2 C (n + 1) [] (.code c_slices_Max_int64_int64_2 :: sk) e h R = (condK (ev e (.t 7)) (vc2 C n [] (.code .bad :: sk) e h R) (vc2 C n [] (.code .skip :: sk) e h R)) := nr rfl
@[simp, simp ↓] theorem c_slices_Max_int64_int64_3_r : vc2 C (n + 1) [] (.code c_slices_Max_int64_int64_3 :: sk) e h R = (vc2 C n [] (.code c_slices_Max_int64_int64_1 :: .code c_slices_Max_int64_int64_2 :: sk) e h R) := nr rfl
@[simp, simp ↓] theorem c_slices_Max_int64_int64_4_r : vc2 C (n + 1) [] (.code c_slices_Max_int64_int64_4 :: sk) e h R = (vc2 C n c_slices_Max_int64_int64_o2 sk e h R) := nr rfl
@[simp, simp ↓] theorem c_slices_Max_int64_int64_5_r : vc2 C (n + 1) [] (.code c_slices_Max_int64_int64_5 :: sk) e h R = (vc2 C n c_slices_Max_int64_int64_o3 sk e h R) := nr rfl
@[simp, simp ↓] theorem c_slices_Max_int64_int64_6_r : vc2 C (n + 1) [] (.code c_slices_Max_int64_int64_6 :: sk) e h R = (vc2 C n c_slices_Max_int64_int64_o4 sk e h R) := nr rfl
@[simp, simp ↓] theorem c_slices_Max_int64_int64_7_r : vc2 C (n + 1) [] (.code c_slices_Max_int64_int64_7 :: sk) e h R = (condK (ev e (.t 15)) (vc2 C n [] (.code .skip :: sk) e h R) (vc2 C n [] (.code (.exit 0) :: sk) e h R)) := nr rfl
@[simp, simp ↓] theorem c_slices_Max_int64_int64_8_r : vc2 C (n + 1) [] (.code c_slices_Max_int64_int64_8 :: sk) e h R = (vc2 C n [] (.code c_slices_Max_int64_int64_6 :: .code c_slices_Max_int64_int64_7 :: sk) e h R) := nr rfl
@[simp, simp ↓] theorem c_slices_Max_int64_int64_9_r : vc2 C (n + 1) [] (.code c_slices_Max_int64_int64_9 :: sk) e h R = (vc2 C n c_slices_Max_int64_int64_o5 sk e h R) := nr rfl
@[simp, simp ↓] theorem c_slices_Max_int64_int64_10_r : vc2 C (n + 1) [] (.code c_slices_Max_int64_int64_10 :: sk) e h R = (vc2 C n [] (.code c_slices_Max_int64_int64_9 :: .inBlock 1 :: sk) e h R) := nr rfl
@[simp, simp ↓] theorem c_slices_Max_int64_int64_11_r : vc2 C (n + 1) [] (.code c_slices_Max_int64_int64_11 :: sk) e h R = (vc2 C n c_slices_Max_int64_int64_o6 sk e h R) := nr rfl
@[simp, simp ↓] theorem c_slices_Max_int64_int64_12_r : vc2 C (n + 1) [] (.code c_slices_Max_int64_int64_12 :: sk) e h R = (vc2 C n [] (.code c_slices_Max_int64_int64_10 :: .code c_slices_Max_int64_int64_11 :: sk) e h R) := nr rfl
@[simp, simp ↓] theorem c_slices_Max_int64_int64_13_r : vc2 C (n + 1) [] (.code c_slices_Max_int64_int64_13 :: sk) e h R = (vc2 C n [] (.code c_slices_Max_int64_int64_8 :: .code c_slices_Max_int64_int64_12 :: sk) e h R) := nr rfl
@[simp, simp ↓] theorem c_slices_Max_int64_int64_14_r : vc2 C (n + 1) [] (.code c_slices_Max_int64_int64_14 :: sk) e h R = (Run2 C (.code c_slices_Max_int64_int64_13 :: .inLoop c_slices_Max_int64_int64_13 :: sk) e h R) := nr rfl
@[simp, simp ↓] theorem c_slices_Max_int64_int64_15_r : vc2 C (n + 1) [] (.code c_slices_Max_int64_int64_15 :: sk) e h R = (vc2 C n [] (.code c_slices_Max_int64_int64_14 :: .inBlock 0 :: sk) e h R) := nr rfl
@[simp, simp ↓] theorem c_slices_Max_int64_int64_16_r : vc2 C (n + 1) [] (.code c_slices_Max_int64_int64_16 :: sk) e h R = (vc2 C n [] (.code c_slices_Max_int64_int64_5 :: .code c_slices_Max_int64_int64_15 :: sk) e h R) := nr rfl
@[simp, simp ↓] theorem c_slices_Max_int64_int64_17_r : vc2 C (n + 1) [] (.code c_slices_Max_int64_int64_17 :: sk) e h R = (vc2 C n c_slices_Max_int64_int64_o7 sk e h R) := nr rfl
@[simp, simp ↓] theorem c_slices_Max_int64_int64_18_r : vc2 C (n + 1) [] (.code c_slices_Max_int64_int64_18 :: sk) e h R = (vc2 C n [] (.code c_slices_Max_int64_int64_17 :: .code .ret :: sk) e h R) := nr rfl
@[simp, simp ↓] theorem c_slices_Max_int64_int64_19_r : vc2 C (n + 1) [] (.code c_slices_Max_int64_int64_19 :: sk) e h R = (vc2 C n [] (.code c_slices_Max_int64_int64_16 :: .code c_slices_Max_int64_int64_18 :: sk) e h R) := nr rfl
@[simp, simp ↓] theorem c_slices_Max_int64_int64_20_r : vc2 C (n + 1) [] (.code c_slices_Max_int64_int64_20 :: sk) e h R = (vc2 C n [] (.code c_slices_Max_int64_int64_4 :: .code c_slices_Max_int64_int64_19 :: sk) e h R) := nr rfl
@[simp, simp ↓] theorem c_slices_Max_int64_int64_21_r : vc2 C (n + 1) [] (.code c_slices_Max_int64_int64_21 :: sk) e h R = (vc2 C n [] (.code c_slices_Max_int64_int64_3 :: .code c_slices_Max_int64_int64_20 :: sk) e h R) := nr rfl
@[simp, simp ↓] theorem c_slices_Max_int64_int64_22_r : vc2 C (n + 1) [] (.code c_slices_Max_int64_int64_22 :: sk) e h R = (vc2 C n [] (.code c_slices_Max_int64_int64_0 :: .code c_slices_Max_int64_int64_21 :: sk) e h R) := nr rfl
end
noncomputable def c_slices_Max_int64_int64_C (orc : Orc) : Cx := ⟨Try.prog, [], 60, 25, [.tmp 2], orc⟩
@[simp] theorem c_slices_Max_int64_int64_C_P (orc : Orc) : (c_slices_Max_int64_int64_C orc).P = Try.prog := nr rfl
@[simp] theorem c_slices_Max_int64_int64_C_o (orc : Orc) : (c_slices_Max_int64_int64_C orc).orc = orc := nr rfl
@[simp] theorem c_slices_Max_int64_int64_C_r (orc : Orc) : (c_slices_Max_int64_int64_C orc).res = [.tmp 2] := nr rfl
theorem c_slices_Max_int64_int64_of {args : List AV} {h : Heap} {R : AV → Heap → Prop} {k : Nat} (ha : args.length = k) {orc : Orc} (hp : Pure Try.prog orc) (hk : Is (c_slices_Max_int64_int64_C orc) Try.f60 → Run2 (c_slices_Max_int64_int64_C orc) [.code c_slices_Max_int64_int64_22] (argEnv 0 args) h (Post R)) (hle : k ≤ 25 := by simp) : ACalls Try.prog 60 args h R :=
  contract2 [] c_slices_Max_int64_int64_22 [.tmp 2] Try.func60 (by decide +kernel) rfl (by kernel_rfl) (by rw [ha]; exact hle) (by kernel_rfl) hp hk
theorem c_slices_Max_int64_int64_of0 {args : List AV} {h : Heap} {R : AV → Heap → Prop} {k : Nat} (ha : args.length = k) {orc : Orc} (hp : Pure Try.prog orc) (hk : Is (c_slices_Max_int64_int64_C orc) Try.f60 → Run2 (c_slices_Max_int64_int64_C orc) [.code c_slices_Max_int64_int64_22] (argEnv 0 args) h R) (hle : k ≤ 25 := by simp) : ACalls Try.prog 60 args h R :=
  contract20 [] c_slices_Max_int64_int64_22 [.tmp 2] Try.func60 (by decide +kernel) rfl (by kernel_rfl) (by rw [ha]; exact hle) (by kernel_rfl) hp hk
theorem Max_s (l : List Int) (h : Heap) (hl : l.length ≤ 1048576) (hne : l ≠ []) : ACalls Try.prog 60 [.snap 1 (l.map iv)] h (fun v h' => v = .int .i64 (maxL l) ∧ h' = h) := by
  have hpos : 0 < l.length := List.length_pos_iff.2 hne
  refine c_slices_Max_int64_int64_of0 rfl noPure fun I => ?_
  refine Run2.of I 1000 ?_
  simp -implicitDefEqProofs [hpos]
  have h1 : (l.take 1).foldl max l[0] = l[0] := by
    cases l with
    | nil => simp at hpos
    | cons a l => simp
  refine ⟨by omega, fun _ => ?_⟩
  refine Run2.loopE (fun (i : Nat) => [(0, .snap 1 (l.map iv)), (3, .int .i64 ((l.take i).foldl max l[0])), (4, .int .i64 i)]) (fun i => h) (fun i => l.length - i) (fun i => i ≤ l.length ∧ 1 ≤ i) 1 (by rw [h1]; rfl) rfl ⟨by omega, Nat.le_refl _⟩ fun i hi ih => ?_
  by_cases hlt : i < l.length
  · have go := ih (i + 1) ⟨by omega, by omega⟩ (by omega)
    rw [List.take_succ_eq_append_getElem hlt, List.foldl_append] at go
    clear ih
    refine Run2.of I 1000 ?_
    simp -implicitDefEqProofs [hlt]
    refine ⟨by omega, ?_⟩
    simpa using go
  · obtain rfl : i = l.length := by omega
    refine Run2.of I 1000 ?_
    simp -implicitDefEqProofs
    unfold maxL
    cases l with
    | nil => exact absurd rfl hne
    | cons a l => rfl
def idxI (l : List Int) (x : Int) : Int := match l.findIdx? (fun a => decide (x = a)) with
  | some i => i
  | none => -1
abbrev c_slices_Index_int64_int64_o0 : List AJ := [.o ⟨(some 4), none, false, .mv (.c (.int .i64 0)), (some [0, 1])⟩]
def c_slices_Index_int64_int64_0 : ACode := .region c_slices_Index_int64_int64_o0
abbrev c_slices_Index_int64_int64_o1 : List AJ := [.o ⟨(some 6), none, false, .mv (.t 0), none⟩, .o ⟨(some 7), none, false, .len (.t 6), none⟩, .o ⟨(some 8), none, false, .mv (.c (.int .i64 0)), (some [0, 1, 7, 8])⟩]
def c_slices_Index_int64_int64_1 : ACode := .region c_slices_Index_int64_int64_o1
abbrev c_slices_Index_int64_int64_o2 : List AJ := [.o ⟨(some 9), none, false, .bin .lss (.t 8) (.t 7), (some [0, 1, 7, 8, 9])⟩]
def c_slices_Index_int64_int64_2 : ACode := .region c_slices_Index_int64_int64_o2
def c_slices_Index_int64_int64_3 : ACode := .cond (.t 9) .skip (.exit 0)
abbrev c_slices_Index_int64_int64_o3 : List AJ := [.o ⟨(some 10), none, false, .mv (.t 8), none⟩, .o ⟨(some 5), none, false, .mv (.t 10), (some [0, 1, 5, 7, 8])⟩]
def c_slices_Index_int64_int64_4 : ACode := .region c_slices_Index_int64_int64_o3
abbrev c_slices_Index_int64_int64_o4 : List AJ := [.o ⟨(some 11), none, false, .mv (.t 1), none⟩, .o ⟨(some 12), none, false, .mv (.t 0), none⟩, .o ⟨(some 13), none, false, .mv (.t 5), none⟩, .o ⟨(some 14), none, false, .idxA 1 (.t 12) (.t 13), none⟩, .o ⟨(some 15), none, false, .load 1 false (.t 14), none⟩, .o ⟨(some 16), none, false, .bin .eql (.t 11) (.t 15), (some [0, 1, 5, 7, 8, 16])⟩]
def c_slices_Index_int64_int64_5 : ACode := .region c_slices_Index_int64_int64_o4
abbrev c_slices_Index_int64_int64_o5 : List AJ := [.o ⟨(some 17), none, false, .mv (.t 5), none⟩, .o ⟨(some 4), none, false, .mv (.t 17), (some [4])⟩]
def c_slices_Index_int64_int64_6 : ACode := .region c_slices_Index_int64_int64_o5
def c_slices_Index_int64_int64_7 : ACode := .seq c_slices_Index_int64_int64_6 .ret
def c_slices_Index_int64_int64_8 : ACode := .cond (.t 16) c_slices_Index_int64_int64_7 .skip
def c_slices_Index_int64_int64_9 : ACode := .seq c_slices_Index_int64_int64_5 c_slices_Index_int64_int64_8
def c_slices_Index_int64_int64_10 : ACode := .seq c_slices_Index_int64_int64_4 c_slices_Index_int64_int64_9
def c_slices_Index_int64_int64_11 : ACode := .block 1 c_slices_Index_int64_int64_10
abbrev c_slices_Index_int64_int64_o6 : List AJ := [.o ⟨(some 18), none, true, .bin .add (.t 8) (.c (.int .i64 1)), none⟩, .o ⟨(some 8), none, false, .mv (.t 18), (some [0, 1, 7, 8])⟩]
def c_slices_Index_int64_int64_12 : ACode := .region c_slices_Index_int64_int64_o6
def c_slices_Index_int64_int64_13 : ACode := .seq c_slices_Index_int64_int64_11 c_slices_Index_int64_int64_12
def c_slices_Index_int64_int64_14 : ACode := .seq c_slices_Index_int64_int64_3 c_slices_Index_int64_int64_13
def c_slices_Index_int64_int64_15 : ACode := .seq c_slices_Index_int64_int64_2 c_slices_Index_int64_int64_14
def c_slices_Index_int64_int64_16 : ACode := .loop c_slices_Index_int64_int64_15
def c_slices_Index_int64_int64_17 : ACode := .block 0 c_slices_Index_int64_int64_16
def c_slices_Index_int64_int64_18 : ACode := .seq c_slices_Index_int64_int64_1 c_slices_Index_int64_int64_17
abbrev c_slices_Index_int64_int64_o7 : List AJ := [.o ⟨(some 4), none, false, .mv (.c (.int .i64 (-1))), (some [4])⟩]
def c_slices_Index_int64_int64_19 : ACode := .region c_slices_Index_int64_int64_o7
def c_slices_Index_int64_int64_20 : ACode := .seq c_slices_Index_int64_int64_19 .ret
def c_slices_Index_int64_int64_21 : ACode := .seq c_slices_Index_int64_int64_18 c_slices_Index_int64_int64_20
def c_slices_Index_int64_int64_22 : ACode := .seq c_slices_Index_int64_int64_0 c_slices_Index_int64_int64_21
section
variable (C : Cx) (n : Nat) (sk : List AItem) (e : Env) (h : Heap) (R : AV → Heap → Prop)
@[simp, simp ↓] theorem c_slices_Index_int64_int64_0_r : vc2 C (n + 1) [] (.code c_slices_Index_int64_int64_0 :: sk) e h R = (vc2 C n c_slices_Index_int64_int64_o0 sk e h R) := nr rfl
@[simp, simp ↓] theorem c_slices_Index_int64_int64_1_r : vc2 C (n + 1) [] (.code c_slices_Index_int64_int64_1 :: sk) e h R = (vc2 C n c_slices_Index_int64_int64_o1 sk e h R) := nr rfl
@[simp, simp ↓] theorem c_slices_Index_int64_int64_2_r : vc2 C (n + 1) [] (.code c_slices_Index_int64_int64_2 :: sk) e h R = (vc2 C n c_slices_Index_int64_int64_o2 sk e h R) := nr rfl
@[simp, simp ↓] theorem c_slices_Index_int64_int64_3_r : vc2 C (n + 1) [] (.code c_slices_Index_int64_int64_3 :: sk) e h R = (condK (ev e (.t 9)) (vc2 C n [] (.code .skip :: sk) e h R) (vc2 C n [] (.code (.exit 0) :: sk) e h R)) := nr rfl
@[simp, simp ↓] theorem c_slices_Index_int64_int64_4_r : vc2 C (n + 1) [] (.code c_slices_Index_int64_int64_4 :: sk) e h R = (vc2 C n c_slices_Index_int64_int64_o3 sk e h R) := nr rfl
@[simp, simp ↓] theorem c_slices_Index_int64_int64_5_r : vc2 C (n + 1) [] (.code c_slices_Index_int64_int64_5 :: sk) e h R = (vc2 C n c_slices_Index_int64_int64_o4 sk e h R) := nr rfl
@[simp, simp ↓] theorem c_slices_Index_int64_int64_6_r : vc2 C (n + 1) [] (.code c_slices_Index_int64_int64_6 :: sk) e h R = (vc2 C n c_slices_Index_int64_int64_o5 sk e h R) := nr rfl
@[simp, simp ↓] theorem c_slices_Index_int64_int64_7_r : vc2 C (n + 1) [] (.code c_slices_Index_int64_int64_7 :: sk) e h R = (vc2 C n [] (.code c_slices_Index_int64_int64_6 :: .code .ret :: sk) e h R) := nr rfl
@[simp, simp ↓] theorem c_slices_Index_int64_int64_8_r : vc2 C (n + 1) [] (.code c_slices_Index_int64_int64_8 :: sk) e h R = (condK (ev e (.t 16)) (vc2 C n [] (.code c_slices_Index_int64_int64_7 :: sk) e h R) (vc2 C n [] (.code .skip :: sk) e h R)) := nr rfl
@[simp, simp ↓] theorem c_slices_Index_int64_int64_9_r : vc2 C (n + 1) [] (.code c_slices_Index_int64_int64_9 :: sk) e h R = (vc2 C n [] (.code c_slices_Index_int64_int64_5 :: .code c_slices_Index_int64_int64_8 :: sk) e h R) := nr rfl
@[simp, simp ↓] theorem c_slices_Index_int64_int64_10_r : vc2 C (n + 1) [] (.code c_slices_Index_int64_int64_10 :: sk) e h R = (vc2 C n [] (.code c_slices_Index_int64_int64_4 :: .code c_slices_Index_int64_int64_9 :: sk) e h R) := nr rfl
@[simp, simp ↓] theorem c_slices_Index_int64_int64_11_r : vc2 C (n + 1) [] (.code c_slices_Index_int64_int64_11 :: sk) e h R = (vc2 C n [] (.code c_slices_Index_int64_int64_10 :: .inBlock 1 :: sk) e h R) := nr rfl
@[simp, simp ↓] theorem c_slices_Index_int64_int64_12_r : vc2 C (n + 1) [] (.code c_slices_Index_int64_int64_12 :: sk) e h R = (vc2 C n c_slices_Index_int64_int64_o6 sk e h R) := nr rfl
@[simp, simp ↓] theorem c_slices_Index_int64_int64_13_r : vc2 C (n + 1) [] (.code c_slices_Index_int64_int64_13 :: sk) e h R = (vc2 C n [] (.code c_slices_Index_int64_int64_11 :: .code c_slices_Index_int64_int64_12 :: sk) e h R) := nr rfl
@[simp, simp ↓] theorem c_slices_Index_int64_int64_14_r : vc2 C (n + 1) [] (.code c_slices_Index_int64_int64_14 :: sk) e h R = (vc2 C n [] (.code c_slices_Index_int64_int64_3 :: .code c_slices_Index_int64_int64_13 :: sk) e h R) := nr rfl
@[simp, simp ↓] theorem c_slices_Index_int64_int64_15_r : vc2 C (n + 1) [] (.code c_slices_Index_int64_int64_15 :: sk) e h R = (vc2 C n [] (.code c_slices_Index_int64_int64_2 :: .code c_slices_Index_int64_int64_14 :: sk) e h R) := nr rfl
@[simp, simp ↓] theorem c_slices_Index_int64_int64_16_r : vc2 C (n + 1) [] (.code c_slices_Index_int64_int64_16 :: sk) e h R = (Run2 C (.code c_slices_Index_int64_int64_15 :: .inLoop c_slices_Index_int64_int64_15 :: sk) e h R) := nr rfl
@[simp, simp ↓] theorem c_slices_Index_int64_int64_17_r : vc2 C (n + 1) [] (.code c_slices_Index_int64_int64_17 :: sk) e h R = (vc2 C n [] (.code c_slices_Index_int64_int64_16 :: .inBlock 0 :: sk) e h R) := nr rfl
@[simp, simp ↓] theorem c_slices_Index_int64_int64_18_r : vc2 C (n + 1) [] (.code c_slices_Index_int64_int64_18 :: sk) e h R = (vc2 C n [] (.code c_slices_Index_int64_int64_1 :: .code c_slices_Index_int64_int64_17 :: sk) e h R) := nr rfl
@[simp, simp ↓] theorem c_slices_Index_int64_int64_19_r : vc2 C (n + 1) [] (.code c_slices_Index_int64_int64_19 :: sk) e h R = (vc2 C n c_slices_Index_int64_int64_o7 sk e h R) := nr rfl
@[simp, simp ↓] theorem c_slices_Index_int64_int64_20_r : vc2 C (n + 1) [] (.code c_slices_Index_int64_int64_20 :: sk) e h R = (vc2 C n [] (.code c_slices_Index_int64_int64_19 :: .code .ret :: sk) e h R) := nr rfl
@[simp, simp ↓] theorem c_slices_Index_int64_int64_21_r : vc2 C (n + 1) [] (.code c_slices_Index_int64_int64_21 :: sk) e h R = (vc2 C n [] (.code c_slices_Index_int64_int64_18 :: .code c_slices_Index_int64_int64_20 :: sk) e h R) := nr rfl
@[simp, simp ↓] theorem c_slices_Index_int64_int64_22_r : vc2 C (n + 1) [] (.code c_slices_Index_int64_int64_22 :: sk) e h R = (vc2 C n [] (.code c_slices_Index_int64_int64_0 :: .code c_slices_Index_int64_int64_21 :: sk) e h R) := nr rfl
end
noncomputable def c_slices_Index_int64_int64_C (orc : Orc) : Cx := ⟨Try.prog, [], 61, 19, [.tmp 4], orc⟩
@[simp] theorem c_slices_Index_int64_int64_C_P (orc : Orc) : (c_slices_Index_int64_int64_C orc).P = Try.prog := nr rfl
@[simp] theorem c_slices_Index_int64_int64_C_o (orc : Orc) : (c_slices_Index_int64_int64_C orc).orc = orc := nr rfl
@[simp] theorem c_slices_Index_int64_int64_C_r (orc : Orc) : (c_slices_Index_int64_int64_C orc).res = [.tmp 4] := nr rfl
theorem c_slices_Index_int64_int64_of {args : List AV} {h : Heap} {R : AV → Heap → Prop} {k : Nat} (ha : args.length = k) {orc : Orc} (hp : Pure Try.prog orc) (hk : Is (c_slices_Index_int64_int64_C orc) Try.f61 → Run2 (c_slices_Index_int64_int64_C orc) [.code c_slices_Index_int64_int64_22] (argEnv 0 args) h (Post R)) (hle : k ≤ 19 := by simp) : ACalls Try.prog 61 args h R :=
  contract2 [] c_slices_Index_int64_int64_22 [.tmp 4] Try.func61 (by decide +kernel) rfl (by kernel_rfl) (by rw [ha]; exact hle) (by kernel_rfl) hp hk
theorem c_slices_Index_int64_int64_of0 {args : List AV} {h : Heap} {R : AV → Heap → Prop} {k : Nat} (ha : args.length = k) {orc : Orc} (hp : Pure Try.prog orc) (hk : Is (c_slices_Index_int64_int64_C orc) Try.f61 → Run2 (c_slices_Index_int64_int64_C orc) [.code c_slices_Index_int64_int64_22] (argEnv 0 args) h R) (hle : k ≤ 19 := by simp) : ACalls Try.prog 61 args h R :=
  contract20 [] c_slices_Index_int64_int64_22 [.tmp 4] Try.func61 (by decide +kernel) rfl (by kernel_rfl) (by rw [ha]; exact hle) (by kernel_rfl) hp hk
theorem Index_s (l : List Int) (x : Int) (h : Heap) (hl : l.length ≤ 1048576) : ACalls Try.prog 61 [.snap 1 (l.map iv), .int .i64 x] h (fun v h' => v = .int .i64 (idxI l x) ∧ h' = h) := by
  refine c_slices_Index_int64_int64_of0 rfl noPure fun I => ?_
  refine Run2.of I 1000 ?_
  simp -implicitDefEqProofs
  refine Run2.loopE (fun i => [(0, .snap 1 (l.map iv)), (1, .int .i64 x), (7, .int .i64 l.length), (8, .int .i64 (i : Nat))]) (fun i => h) (fun i => l.length - i) (fun i => i ≤ l.length ∧ ∀ j (hj : j < l.length), j < i → ¬ x = l[j]) 0 (by simp) rfl ⟨Nat.zero_le _, fun _ _ h => absurd h (Nat.not_lt_zero _)⟩ fun i hi ih => ?_
  by_cases hlt : i < l.length
  · have go := fun (h1 : ¬ x = l[i]) => ih (i + 1) ⟨by omega, fun j hj hji => by
      rcases Nat.lt_or_ge j i with h | h
      · exact hi.2 j hj h
      · obtain rfl : j = i := by omega
        exact h1⟩ (by omega)
    have hat : x = l[i] → idxI l x = i := fun h1 => by
      have : l.findIdx? (fun a => decide (x = a)) = some i := List.findIdx?_eq_some_iff_getElem.2 ⟨hlt, by simp [h1], fun j hj => by simpa using hi.2 j (by omega) hj⟩
      unfold idxI; rw [this]
    clear ih
    refine Run2.of I 1000 ?_
    simp -implicitDefEqProofs [hlt]
    refine ⟨fun h => (hat h).symm, fun h => ⟨by omega, ?_⟩⟩
    simpa using go h
  · obtain rfl : i = l.length := by omega
    have : l.findIdx? (fun a => decide (x = a)) = none := List.findIdx?_eq_none_iff.2 fun a ha => by
      obtain ⟨j, hj, rfl⟩ := List.mem_iff_getElem.1 ha
      simpa using hi.2 j hj hj
    refine Run2.of I 1000 ?_
    simp -implicitDefEqProofs
    unfold idxI; rw [this]
theorem getD_at {l : List Int} {i : Nat} (h : i < l.length) : l.getD i 0 = l[i] := by simp [h]
/-- One more. -/
def bump (l : List Int) (i : Nat) : List Int := l.set i (l.getD i 0 + 1)
@[simp] theorem bump_length (l : List Int) (i : Nat) : (bump l i).length = l.length := by simp [bump]
def degsTo (n : Nat) (ts : List T) (i : Nat) : List Int := (ts.take i).foldl (fun l t => bump (bump l t.f.toNat) t.t.toNat) (List.replicate n 0)
theorem degsTo_succ (n : Nat) (ts : List T) {i : Nat} (hi : i < ts.length) : degsTo n ts (i + 1) = bump (bump (degsTo n ts i) ts[i].f.toNat) ts[i].t.toNat := by
  unfold degsTo
  rw [List.take_succ_eq_append_getElem hi, List.foldl_append]; rfl
theorem bump_le {l : List Int} {m : Int} (h : ∀ x ∈ l, 0 ≤ x ∧ x ≤ m) (i : Nat) : ∀ x ∈ bump l i, 0 ≤ x ∧ x ≤ m + 1 := by
  intro x hx
  have hx0 := hx
  unfold bump at hx
  rcases List.mem_or_eq_of_mem_set hx with h1 | h1
  · have := h x h1; omega
  · by_cases hi : i < l.length
    · have := h _ (List.getElem_mem hi)
      simp [hi] at h1
      omega
    · unfold bump at hx0
      rw [List.set_eq_of_length_le (by omega)] at hx0
      have := h x hx0
      omega
theorem degsTo_inv (n : Nat) (ts : List T) : ∀ i, i ≤ ts.length → (degsTo n ts i).length = n ∧ ∀ x ∈ degsTo n ts i, 0 ≤ x ∧ x ≤ 2 * i
  | 0, _ => by simp [degsTo]
  | i + 1, h => by
    obtain ⟨h1, h2⟩ := degsTo_inv n ts i (by omega)
    rw [degsTo_succ n ts (by omega)]
    refine ⟨by simp [h1], fun x hx => ?_⟩
    have := bump_le (bump_le h2 ts[i].f.toNat) ts[i].t.toNat x hx
    omega
def Gr.degs (x : Gr) : List Int := degsTo x.n.toNat x.ts x.ts.length
/-- The first place of the greatest one. -/
def isBest (l : List Int) (b : Nat) : Prop := ∃ hb : b < l.length, (∀ j (hj : j < l.length), l[j] ≤ l[b]) ∧ ∀ j (hj : j < b), l[j] < l[b]
theorem isBest.idx {l : List Int} {b : Nat} (h : isBest l b) : idxI l (maxL l) = b ∧ maxL l = l.getD b 0 := by
  obtain ⟨hb, h1, h2⟩ := h
  have hm : maxL l = l[b] := by
    have h3 := maxL_ge (List.getElem_mem hb)
    obtain ⟨j, hj, e⟩ := List.mem_iff_getElem.1 (maxL_mem (l := l) (by intro e; simp [e] at hb))
    have := h1 j hj
    omega
  refine ⟨?_, by simp [hm, hb]⟩
  have : l.findIdx? (fun a => decide (maxL l = a)) = some b := List.findIdx?_eq_some_iff_getElem.2 ⟨hb, by simp [hm], fun j hj => by have := h2 j hj; simp [hm]; omega⟩
  unfold idxI; rw [this]
noncomputable def Gr.bCode (x : Gr) : Int := if x.valid then 0 else 1
noncomputable def Gr.bIdx (x : Gr) : Int := if x.valid then idxI x.degs (maxL x.degs) else 0
noncomputable def Gr.bMax (x : Gr) : Int := if x.valid then maxL x.degs else 0
theorem bump_iv (l : List Int) {i : Nat} (hi : i < l.length) : (l.map iv).set i (.int .i64 (l[i] + 1)) = (bump l i).map iv := by
  unfold bump
  rw [List.map_set]
  simp [hi]
abbrev c_impl_BusiestNode_o0 : List AJ := [.o ⟨(some 1), none, false, .box false 2 (.t 0), none⟩, .o ⟨(some 2), none, false, .mv (.c (.int .i64 0)), none⟩, .o ⟨(some 3), none, false, .mv (.c (.int .i64 0)), none⟩, .o ⟨(some 4), none, false, .mv (.c (.int .i64 0)), (some [1])⟩]
def c_impl_BusiestNode_0 : ACode := .region c_impl_BusiestNode_o0
abbrev c_impl_BusiestNode_o1 : List AJ := [.o ⟨(some 9), none, false, .load 2 true (.t 1), none⟩, .o ⟨(some 10), none, false, .call 59 [(.t 9)], none⟩, .o ⟨(some 11), none, false, .un .not (.t 10), (some [1, 11])⟩]
def c_impl_BusiestNode_1 : ACode := .region c_impl_BusiestNode_o1
abbrev c_impl_BusiestNode_o2 : List AJ := [.o ⟨(some 2), none, false, .mv (.c (.int .i64 0)), none⟩, .o ⟨(some 3), none, false, .mv (.c (.int .i64 0)), none⟩, .o ⟨(some 4), none, false, .mv (.c (.int .i64 1)), (some [2, 3, 4])⟩]
def c_impl_BusiestNode_2 : ACode := .region c_impl_BusiestNode_o2
def c_impl_BusiestNode_3 : ACode := .seq c_impl_BusiestNode_2 .ret
def c_impl_BusiestNode_4 : ACode := .cond (.t 11) c_impl_BusiestNode_3 .skip
def c_impl_BusiestNode_5 : ACode := .seq c_impl_BusiestNode_1 c_impl_BusiestNode_4
abbrev c_impl_BusiestNode_o3 : List AJ := [.o ⟨(some 12), none, false, .fieldA 0 (.t 1), none⟩, .o ⟨(some 13), none, false, .load 1 false (.t 12), none⟩, .o ⟨(some 14), none, false, .mksl 1 8 (.int .i64 0) (.t 13) (.t 13), none⟩, .o ⟨(some 5), none, false, .mv (.t 14), (some [1, 5])⟩]
def c_impl_BusiestNode_6 : ACode := .region c_impl_BusiestNode_o3
abbrev c_impl_BusiestNode_o4 : List AJ := [.o ⟨(some 15), none, false, .fieldA 1 (.t 1), none⟩, .o ⟨(some 16), none, false, .load 1 false (.t 15), none⟩, .o ⟨(some 17), none, false, .len (.t 16), none⟩, .o ⟨(some 18), none, false, .mv (.c (.int .i64 0)), (some [5, 16, 17, 18])⟩]
def c_impl_BusiestNode_7 : ACode := .region c_impl_BusiestNode_o4
abbrev c_impl_BusiestNode_o5 : List AJ := [.o ⟨(some 19), none, false, .bin .lss (.t 18) (.t 17), (some [5, 16, 17, 18, 19])⟩]
def c_impl_BusiestNode_8 : ACode := .region c_impl_BusiestNode_o5
def c_impl_BusiestNode_9 : ACode := .cond (.t 19) .skip (.exit 0)
abbrev c_impl_BusiestNode_o6 : List AJ := [.o ⟨(some 20), none, false, .idxA 3 (.t 16) (.t 18), none⟩, .o ⟨(some 21), none, false, .load 3 true (.t 20), none⟩, .v 7 3 (.agg [(.int .i64 0), (.int .i64 0), (.int .i64 0)]) [] (.t 21) (some [5, 7, 16, 17, 18])]
def c_impl_BusiestNode_10 : ACode := .region c_impl_BusiestNode_o6
abbrev c_impl_BusiestNode_o7 : List AJ := [.o ⟨(some 22), none, false, .mv (.t 5), none⟩, .o ⟨(some 23), none, false, .fieldA 0 (.t 7), none⟩, .o ⟨(some 24), none, false, .load 1 false (.t 23), none⟩, .o ⟨(some 25), none, false, .idxA 1 (.t 22) (.t 24), none⟩, .o ⟨(some 26), none, false, .load 1 false (.t 25), none⟩, .o ⟨(some 27), none, true, .bin .add (.t 26) (.c (.int .i64 1)), none⟩, .o ⟨(some 28), none, false, .idxA 1 (.t 22) (.t 24), none⟩, .o ⟨none, none, false, .store 1 (.t 28) (.t 27), (some [5, 7, 16, 17, 18])⟩]
def c_impl_BusiestNode_11 : ACode := .region c_impl_BusiestNode_o7
abbrev c_impl_BusiestNode_o8 : List AJ := [.o ⟨(some 29), none, false, .mv (.t 5), none⟩, .o ⟨(some 30), none, false, .fieldA 1 (.t 7), none⟩, .o ⟨(some 31), none, false, .load 1 false (.t 30), none⟩, .o ⟨(some 32), none, false, .idxA 1 (.t 29) (.t 31), none⟩, .o ⟨(some 33), none, false, .load 1 false (.t 32), none⟩, .o ⟨(some 34), none, true, .bin .add (.t 33) (.c (.int .i64 1)), none⟩, .o ⟨(some 35), none, false, .idxA 1 (.t 29) (.t 31), none⟩, .o ⟨none, none, false, .store 1 (.t 35) (.t 34), (some [5, 16, 17, 18])⟩]
def c_impl_BusiestNode_12 : ACode := .region c_impl_BusiestNode_o8
def c_impl_BusiestNode_13 : ACode := .seq c_impl_BusiestNode_11 c_impl_BusiestNode_12
def c_impl_BusiestNode_14 : ACode := .seq c_impl_BusiestNode_10 c_impl_BusiestNode_13
def c_impl_BusiestNode_15 : ACode := .block 1 c_impl_BusiestNode_14
abbrev c_impl_BusiestNode_o9 : List AJ := [.o ⟨(some 36), none, true, .bin .add (.t 18) (.c (.int .i64 1)), none⟩, .o ⟨(some 18), none, false, .mv (.t 36), (some [5, 16, 17, 18])⟩]
def c_impl_BusiestNode_16 : ACode := .region c_impl_BusiestNode_o9
def c_impl_BusiestNode_17 : ACode := .seq c_impl_BusiestNode_15 c_impl_BusiestNode_16
def c_impl_BusiestNode_18 : ACode := .seq c_impl_BusiestNode_9 c_impl_BusiestNode_17
def c_impl_BusiestNode_19 : ACode := .seq c_impl_BusiestNode_8 c_impl_BusiestNode_18
def c_impl_BusiestNode_20 : ACode := .loop c_impl_BusiestNode_19
def c_impl_BusiestNode_21 : ACode := .block 0 c_impl_BusiestNode_20
def c_impl_BusiestNode_22 : ACode := .seq c_impl_BusiestNode_7 c_impl_BusiestNode_21
abbrev c_impl_BusiestNode_o10 : List AJ := [.o ⟨(some 37), none, false, .mv (.t 5), none⟩, .o ⟨(some 38), none, false, .call 60 [(.t 37)], none⟩, .o ⟨(some 8), none, false, .mv (.t 38), (some [5, 8])⟩]
def c_impl_BusiestNode_23 : ACode := .region c_impl_BusiestNode_o10
abbrev c_impl_BusiestNode_o11 : List AJ := [.o ⟨(some 39), none, false, .mv (.t 5), none⟩, .o ⟨(some 40), none, false, .mv (.t 8), none⟩, .o ⟨(some 41), none, false, .call 61 [(.t 39), (.t 40)], none⟩, .o ⟨(some 42), none, false, .mv (.t 8), none⟩, .o ⟨(some 2), none, false, .mv (.t 41), none⟩, .o ⟨(some 3), none, false, .mv (.t 42), none⟩, .o ⟨(some 4), none, false, .mv (.c (.int .i64 0)), (some [2, 3, 4])⟩]
def c_impl_BusiestNode_24 : ACode := .region c_impl_BusiestNode_o11
def c_impl_BusiestNode_25 : ACode := .seq c_impl_BusiestNode_24 .ret
def c_impl_BusiestNode_26 : ACode := .seq c_impl_BusiestNode_23 c_impl_BusiestNode_25
def c_impl_BusiestNode_27 : ACode := .seq c_impl_BusiestNode_22 c_impl_BusiestNode_26
def c_impl_BusiestNode_28 : ACode := .seq c_impl_BusiestNode_6 c_impl_BusiestNode_27
def c_impl_BusiestNode_29 : ACode := .seq c_impl_BusiestNode_5 c_impl_BusiestNode_28
def c_impl_BusiestNode_30 : ACode := .seq c_impl_BusiestNode_0 c_impl_BusiestNode_29
section
variable (C : Cx) (n : Nat) (sk : List AItem) (e : Env) (h : Heap) (R : AV → Heap → Prop)
@[simp, simp ↓] theorem c_impl_BusiestNode_0_r : vc2 C (n + 1) [] (.code c_impl_BusiestNode_0 :: sk) e h R = (vc2 C n c_impl_BusiestNode_o0 sk e h R) := nr rfl
@[simp, simp ↓] theorem c_impl_BusiestNode_1_r : vc2 C (n + 1) [] (.code c_impl_BusiestNode_1 :: sk) e h R = (vc2 C n c_impl_BusiestNode_o1 sk e h R) := nr rfl
@[simp, simp ↓] theorem c_impl_BusiestNode_2_r : vc2 C (n + 1) [] (.code c_impl_BusiestNode_2 :: sk) e h R = (vc2 C n c_impl_BusiestNode_o2 sk e h R) := nr rfl
@[simp, simp ↓] theorem c_impl_BusiestNode_3_r : vc2 C (n + 1) [] (.code c_impl_BusiestNode_3 :: sk) e h R = (vc2 C n [] (.code c_impl_BusiestNode_2 :: .code .ret :: sk) e h R) := nr rfl
@[simp, simp ↓] theorem c_impl_BusiestNode_4_r : vc2 C (n + 1) [] (.code c_impl_BusiestNode_4 :: sk) e h R = (condK (ev e (.t 11)) (vc2 C n [] (.code c_impl_BusiestNode_3 :: sk) e h R) (vc2 C n [] (.code .skip :: sk) e h R)) := nr rfl
@[simp, simp ↓] theorem c_impl_BusiestNode_5_r : vc2 C (n + 1) [] (.code c_impl_BusiestNode_5 :: sk) e h R = (vc2 C n [] (.code c_impl_BusiestNode_1 :: .code c_impl_BusiestNode_4 :: sk) e h R) := nr rfl
@[simp, simp ↓] theorem c_impl_BusiestNode_6_r : vc2 C (n + 1) [] (.code c_impl_BusiestNode_6 :: sk) e h R = (vc2 C n c_impl_BusiestNode_o3 sk e h R) := nr rfl
@[simp, simp ↓] theorem c_impl_BusiestNode_7_r : vc2 C (n + 1) [] (.code c_impl_BusiestNode_7 :: sk) e h R = (vc2 C n c_impl_BusiestNode_o4 sk e h R) := nr rfl
@[simp, simp ↓] theorem c_impl_BusiestNode_8_r : vc2 C (n + 1) [] (.code c_impl_BusiestNode_8 :: sk) e h R = (vc2 C n c_impl_BusiestNode_o5 sk e h R) := nr rfl
@[simp, simp ↓] theorem c_impl_BusiestNode_9_r : vc2 C (n + 1) [] (.code c_impl_BusiestNode_9 :: sk) e h R = (condK (ev e (.t 19)) (vc2 C n [] (.code .skip :: sk) e h R) (vc2 C n [] (.code (.exit 0) :: sk) e h R)) := nr rfl
@[simp, simp ↓] theorem c_impl_BusiestNode_10_r : vc2 C (n + 1) [] (.code c_impl_BusiestNode_10 :: sk) e h R = (vc2 C n c_impl_BusiestNode_o6 sk e h R) := nr rfl
@[simp, simp ↓] theorem c_impl_BusiestNode_11_r : vc2 C (n + 1) [] (.code c_impl_BusiestNode_11 :: sk) e h R = (vc2 C n c_impl_BusiestNode_o7 sk e h R) := nr rfl
@[simp, simp ↓] theorem c_impl_BusiestNode_12_r : vc2 C (n + 1) [] (.code c_impl_BusiestNode_12 :: sk) e h R = (vc2 C n c_impl_BusiestNode_o8 sk e h R) := nr rfl
@[simp, simp ↓] theorem c_impl_BusiestNode_13_r : vc2 C (n + 1) [] (.code c_impl_BusiestNode_13 :: sk) e h R = (vc2 C n [] (.code c_impl_BusiestNode_11 :: .code c_impl_BusiestNode_12 :: sk) e h R) := nr rfl
@[simp, simp ↓] theorem c_impl_BusiestNode_14_r : vc2 C (n + 1) [] (.code c_impl_BusiestNode_14 :: sk) e h R = (vc2 C n [] (.code c_impl_BusiestNode_10 :: .code c_impl_BusiestNode_13 :: sk) e h R) := nr rfl
@[simp, simp ↓] theorem c_impl_BusiestNode_15_r : vc2 C (n + 1) [] (.code c_impl_BusiestNode_15 :: sk) e h R = (vc2 C n [] (.code c_impl_BusiestNode_14 :: .inBlock 1 :: sk) e h R) := nr rfl
@[simp, simp ↓] theorem c_impl_BusiestNode_16_r : vc2 C (n + 1) [] (.code c_impl_BusiestNode_16 :: sk) e h R = (vc2 C n c_impl_BusiestNode_o9 sk e h R) := nr rfl
@[simp, simp ↓] theorem c_impl_BusiestNode_17_r : vc2 C (n + 1) [] (.code c_impl_BusiestNode_17 :: sk) e h R = (vc2 C n [] (.code c_impl_BusiestNode_15 :: .code c_impl_BusiestNode_16 :: sk) e h R) := nr rfl
@[simp, simp ↓] theorem c_impl_BusiestNode_18_r : vc2 C (n + 1) [] (.code c_impl_BusiestNode_18 :: sk) e h R = (vc2 C n [] (.code c_impl_BusiestNode_9 :: .code c_impl_BusiestNode_17 :: sk) e h R) := nr rfl
@[simp, simp ↓] theorem c_impl_BusiestNode_19_r : vc2 C (n + 1) [] (.code c_impl_BusiestNode_19 :: sk) e h R = (vc2 C n [] (.code c_impl_BusiestNode_8 :: .code c_impl_BusiestNode_18 :: sk) e h R) := nr rfl
@[simp, simp ↓] theorem c_impl_BusiestNode_20_r : vc2 C (n + 1) [] (.code c_impl_BusiestNode_20 :: sk) e h R = (Run2 C (.code c_impl_BusiestNode_19 :: .inLoop c_impl_BusiestNode_19 :: sk) e h R) := nr rfl
@[simp, simp ↓] theorem c_impl_BusiestNode_21_r : vc2 C (n + 1) [] (.code c_impl_BusiestNode_21 :: sk) e h R = (vc2 C n [] (.code c_impl_BusiestNode_20 :: .inBlock 0 :: sk) e h R) := nr rfl
@[simp, simp ↓] theorem c_impl_BusiestNode_22_r : vc2 C (n + 1) [] (.code c_impl_BusiestNode_22 :: sk) e h R = (vc2 C n [] (.code c_impl_BusiestNode_7 :: .code c_impl_BusiestNode_21 :: sk) e h R) := nr rfl
@[simp, simp ↓] theorem c_impl_BusiestNode_23_r : vc2 C (n + 1) [] (.code c_impl_BusiestNode_23 :: sk) e h R = (vc2 C n c_impl_BusiestNode_o10 sk e h R) := nr rfl
@[simp, simp ↓] theorem c_impl_BusiestNode_24_r : vc2 C (n + 1) [] (.code c_impl_BusiestNode_24 :: sk) e h R = (vc2 C n c_impl_BusiestNode_o11 sk e h R) := nr rfl
@[simp, simp ↓] theorem c_impl_BusiestNode_25_r : vc2 C (n + 1) [] (.code c_impl_BusiestNode_25 :: sk) e h R = (vc2 C n [] (.code c_impl_BusiestNode_24 :: .code .ret :: sk) e h R) := nr rfl
@[simp, simp ↓] theorem c_impl_BusiestNode_26_r : vc2 C (n + 1) [] (.code c_impl_BusiestNode_26 :: sk) e h R = (vc2 C n [] (.code c_impl_BusiestNode_23 :: .code c_impl_BusiestNode_25 :: sk) e h R) := nr rfl
@[simp, simp ↓] theorem c_impl_BusiestNode_27_r : vc2 C (n + 1) [] (.code c_impl_BusiestNode_27 :: sk) e h R = (vc2 C n [] (.code c_impl_BusiestNode_22 :: .code c_impl_BusiestNode_26 :: sk) e h R) := nr rfl
@[simp, simp ↓] theorem c_impl_BusiestNode_28_r : vc2 C (n + 1) [] (.code c_impl_BusiestNode_28 :: sk) e h R = (vc2 C n [] (.code c_impl_BusiestNode_6 :: .code c_impl_BusiestNode_27 :: sk) e h R) := nr rfl
@[simp, simp ↓] theorem c_impl_BusiestNode_29_r : vc2 C (n + 1) [] (.code c_impl_BusiestNode_29 :: sk) e h R = (vc2 C n [] (.code c_impl_BusiestNode_5 :: .code c_impl_BusiestNode_28 :: sk) e h R) := nr rfl
@[simp, simp ↓] theorem c_impl_BusiestNode_30_r : vc2 C (n + 1) [] (.code c_impl_BusiestNode_30 :: sk) e h R = (vc2 C n [] (.code c_impl_BusiestNode_0 :: .code c_impl_BusiestNode_29 :: sk) e h R) := nr rfl
end
noncomputable def c_impl_BusiestNode_C (orc : Orc) : Cx := ⟨Try.prog, [7], 18, 43, [.tmp 2, .tmp 3, .tmp 4], orc⟩
@[simp] theorem c_impl_BusiestNode_C_P (orc : Orc) : (c_impl_BusiestNode_C orc).P = Try.prog := nr rfl
@[simp] theorem c_impl_BusiestNode_C_o (orc : Orc) : (c_impl_BusiestNode_C orc).orc = orc := nr rfl
@[simp] theorem c_impl_BusiestNode_C_r (orc : Orc) : (c_impl_BusiestNode_C orc).res = [.tmp 2, .tmp 3, .tmp 4] := nr rfl
theorem c_impl_BusiestNode_of {args : List AV} {h : Heap} {R : AV → Heap → Prop} {k : Nat} (ha : args.length = k) {orc : Orc} (hp : Pure Try.prog orc) (hk : Is (c_impl_BusiestNode_C orc) Try.f18 → Run2 (c_impl_BusiestNode_C orc) [.code c_impl_BusiestNode_30] (argEnv 0 args) h (Post R)) (hle : k ≤ 43 := by simp) : ACalls Try.prog 18 args h R :=
  contract2 [7] c_impl_BusiestNode_30 [.tmp 2, .tmp 3, .tmp 4] Try.func18 (by decide +kernel) rfl (by kernel_rfl) (by rw [ha]; exact hle) (by kernel_rfl) hp hk
theorem c_impl_BusiestNode_of0 {args : List AV} {h : Heap} {R : AV → Heap → Prop} {k : Nat} (ha : args.length = k) {orc : Orc} (hp : Pure Try.prog orc) (hk : Is (c_impl_BusiestNode_C orc) Try.f18 → Run2 (c_impl_BusiestNode_C orc) [.code c_impl_BusiestNode_30] (argEnv 0 args) h R) (hle : k ≤ 43 := by simp) : ACalls Try.prog 18 args h R :=
  contract20 [7] c_impl_BusiestNode_30 [.tmp 2, .tmp 3, .tmp 4] Try.func18 (by decide +kernel) rfl (by kernel_rfl) (by rw [ha]; exact hle) (by kernel_rfl) hp hk
theorem implBusy_o (x : Gr) (hl : x.ts.length ≤ 1048576) (ok : x.ok) : ACalls Try.prog 18 [x.av] [] (fun v h' => v = .tup [.int .i64 x.bIdx, .int .i64 x.bMax, .int .i64 x.bCode] ∧ h' = []) := by
  refine c_impl_BusiestNode_of rfl orcV_p fun I => ?_
  refine Run2.of I 1000 ?_
  by_cases hv : x.valid
  · have hn1 := hv.1
    have hn2 := hv.2.1
    simp -implicitDefEqProofs [hl, ok, hv]
    refine ⟨by omega, by omega, fun id => ?_⟩
    refine Run2.loopE (fun (i : Nat) => [(5, .sl id 1 0 x.n.toNat (some x.n.toNat)), (16, .snap 3 (x.ts.map T.av)), (17, .int .i64 x.ts.length), (18, .int .i64 i)]) (fun i => [(id, ⟨1, (degsTo x.n.toNat x.ts i).map iv⟩)]) (fun i => x.ts.length - i) (fun i => i ≤ x.ts.length) 0 (by simp) (by simp [degsTo]) (Nat.zero_le _) fun i hi ih => ?_
    obtain ⟨d1, d2⟩ := degsTo_inv x.n.toNat x.ts i hi
    by_cases hlt : i < x.ts.length
    · have hel := hv.el (List.getElem_mem hlt)
      unfold Gr.el at hel
      have go := ih (i + 1) (by omega) (by omega)
      rw [degsTo_succ _ _ hlt] at go
      clear ih
      generalize hD : degsTo x.n.toNat x.ts i = D at *
      have hf : x.ts[i].f.toNat < D.length := by omega
      have ht : x.ts[i].t.toNat < (bump D x.ts[i].f.toNat).length := by simp; omega
      have hf' : x.ts[i].f.toNat < x.n.toNat := by omega
      have ht' : x.ts[i].t.toNat < x.n.toNat := by omega
      have b1 := d2 _ (List.getElem_mem hf)
      have b2 := bump_le d2 x.ts[i].f.toNat _ (List.getElem_mem ht)
      have e1 := bump_iv D hf
      have e2 := bump_iv (bump D x.ts[i].f.toNat) ht
      refine Run2.of I 1000 ?_
      simp -implicitDefEqProofs [hlt, hf, ht, d1, hf', ht', e1, e2]
      refine ⟨hel.1, by omega, hel.1, by omega, by omega, by omega, by omega, ?_⟩
      simpa using go
    · obtain rfl : i = x.ts.length := by omega
      have e1 : x.bCode = 0 := by simp [Gr.bCode, hv]
      have e2 : x.bIdx = idxI x.degs (maxL x.degs) := by simp [Gr.bIdx, hv]
      have e3 : x.bMax = maxL x.degs := by simp [Gr.bMax, hv]
      rw [e1, e2, e3]
      unfold Gr.degs
      generalize hD : degsTo x.n.toNat x.ts x.ts.length = D at *
      have o : OwnL iv 1 (.sl id 1 0 x.n.toNat (some x.n.toNat)) D [(id, ⟨1, D.map iv⟩)] := by
        have := OwnL.sl (enc := iv) (sz := 1) (l := D) id (some x.n.toNat) [] rfl
        simpa [d1] using this
      have hDl : D.length ≤ 1048576 := by omega
      have hDn : D ≠ [] := fun e => by rw [e] at d1; simp at d1; omega
      have m1 := ACalls.reads (h := [(id, ⟨1, D.map iv⟩)]) [(id, ⟨1, D.map iv⟩)] (fun p hp => hp) (v0 := .int .i64 (maxL D)) (P := Try.prog) (g := 60) (args := [.sl id 1 0 x.n.toNat (some x.n.toNat)]) (by
        rw [lend_cons, lend_nil']
        exact ACalls.wk (.cons o.lent.wk .nil) (Max_s D [] hDl hDn)) rfl
      have m2 := ACalls.reads (h := [(id, ⟨1, D.map iv⟩)]) [(id, ⟨1, D.map iv⟩)] (fun p hp => hp) (v0 := .int .i64 (idxI D (maxL D))) (P := Try.prog) (g := 61) (args := [.sl id 1 0 x.n.toNat (some x.n.toNat), .int .i64 (maxL D)]) (by
        rw [lend_cons, lend_cons, lend_nil', lend1_cold _ (x := .int .i64 (maxL D)) rfl]
        exact ACalls.wk (.cons o.lent.wk (.refl _)) (Index_s D (maxL D) [] hDl)) rfl
      refine Run2.of I 1000 ?_
      simp -implicitDefEqProofs
      refine m1.mono ?_
      rintro v h' ⟨rfl, rfl⟩
      refine gK.go ?_
      simp -implicitDefEqProofs
      refine m2.mono ?_
      rintro v h' ⟨rfl, rfl⟩
      refine gK.go ?_
      simp -implicitDefEqProofs
      exact Post.none ⟨rfl, rfl⟩
  · have e1 : x.bCode = 1 := by simp [Gr.bCode, hv]
    have e2 : x.bIdx = 0 := by simp [Gr.bIdx, hv]
    have e3 : x.bMax = 0 := by simp [Gr.bMax, hv]
    simp -implicitDefEqProofs [hl, ok, hv, e1, e2, e3]
    exact .base ⟨rfl, rfl⟩
abbrev c_spec_BusiestNode_o0 : List AJ := [.o ⟨(some 1), none, false, .box false 2 (.t 0), none⟩, .o ⟨(some 2), none, false, .mv (.c (.int .i64 0)), none⟩, .o ⟨(some 3), none, false, .mv (.c (.int .i64 0)), none⟩, .o ⟨(some 4), none, false, .mv (.c (.int .i64 0)), (some [1])⟩]
def c_spec_BusiestNode_0 : ACode := .region c_spec_BusiestNode_o0
abbrev c_spec_BusiestNode_o1 : List AJ := [.o ⟨(some 9), none, false, .call 57 [(.t 1)], none⟩, .o ⟨(some 10), none, false, .un .not (.t 9), (some [1, 10])⟩]
def c_spec_BusiestNode_1 : ACode := .region c_spec_BusiestNode_o1
abbrev c_spec_BusiestNode_o2 : List AJ := [.o ⟨(some 2), none, false, .mv (.c (.int .i64 0)), none⟩, .o ⟨(some 3), none, false, .mv (.c (.int .i64 0)), none⟩, .o ⟨(some 4), none, false, .mv (.c (.int .i64 1)), (some [2, 3, 4])⟩]
def c_spec_BusiestNode_2 : ACode := .region c_spec_BusiestNode_o2
def c_spec_BusiestNode_3 : ACode := .seq c_spec_BusiestNode_2 .ret
def c_spec_BusiestNode_4 : ACode := .cond (.t 10) c_spec_BusiestNode_3 .skip
def c_spec_BusiestNode_5 : ACode := .seq c_spec_BusiestNode_1 c_spec_BusiestNode_4
abbrev c_spec_BusiestNode_o3 : List AJ := [.o ⟨(some 11), none, false, .fieldA 0 (.t 1), none⟩, .o ⟨(some 12), none, false, .load 1 false (.t 11), none⟩, .o ⟨(some 13), none, false, .mksl 1 8 (.int .i64 0) (.t 12) (.t 12), none⟩, .o ⟨(some 5), none, false, .mv (.t 13), (some [1, 5])⟩]
def c_spec_BusiestNode_6 : ACode := .region c_spec_BusiestNode_o3
abbrev c_spec_BusiestNode_o4 : List AJ := [.o ⟨(some 6), none, false, .mv (.c (.int .i64 0)), (some [1, 5, 6])⟩]
def c_spec_BusiestNode_7 : ACode := .region c_spec_BusiestNode_o4
abbrev c_spec_BusiestNode_o5 : List AJ := [.o ⟨(some 14), none, false, .mv (.t 6), none⟩, .o ⟨(some 15), none, false, .fieldA 1 (.t 1), none⟩, .o ⟨(some 16), none, false, .load 1 false (.t 15), none⟩, .o ⟨(some 17), none, false, .len (.t 16), none⟩, .o ⟨(some 18), none, false, .bin .lss (.t 14) (.t 17), (some [1, 5, 6, 18])⟩]
def c_spec_BusiestNode_8 : ACode := .region c_spec_BusiestNode_o5
def c_spec_BusiestNode_9 : ACode := .cond (.t 18) .skip (.exit 0)
def c_spec_BusiestNode_10 : ACode := .seq c_spec_BusiestNode_8 c_spec_BusiestNode_9
abbrev c_spec_BusiestNode_o6 : List AJ := [.o ⟨(some 21), none, false, .mv (.t 5), none⟩, .o ⟨(some 22), none, false, .fieldA 1 (.t 1), none⟩, .o ⟨(some 23), none, false, .load 1 false (.t 22), none⟩, .o ⟨(some 24), none, false, .mv (.t 6), none⟩, .o ⟨(some 25), none, false, .idxA 3 (.t 23) (.t 24), none⟩, .o ⟨(some 26), none, false, .fieldA 0 (.t 25), none⟩, .o ⟨(some 27), none, false, .load 1 false (.t 26), none⟩, .o ⟨(some 28), none, false, .idxA 1 (.t 21) (.t 27), none⟩, .o ⟨(some 29), none, false, .load 1 false (.t 28), none⟩, .o ⟨(some 30), none, true, .bin .add (.t 29) (.c (.int .i64 1)), none⟩, .o ⟨(some 31), none, false, .idxA 1 (.t 21) (.t 27), none⟩, .o ⟨none, none, false, .store 1 (.t 31) (.t 30), (some [1, 5, 6])⟩]
def c_spec_BusiestNode_11 : ACode := .region c_spec_BusiestNode_o6
abbrev c_spec_BusiestNode_o7 : List AJ := [.o ⟨(some 32), none, false, .mv (.t 5), none⟩, .o ⟨(some 33), none, false, .fieldA 1 (.t 1), none⟩, .o ⟨(some 34), none, false, .load 1 false (.t 33), none⟩, .o ⟨(some 35), none, false, .mv (.t 6), none⟩, .o ⟨(some 36), none, false, .idxA 3 (.t 34) (.t 35), none⟩, .o ⟨(some 37), none, false, .fieldA 1 (.t 36), none⟩, .o ⟨(some 38), none, false, .load 1 false (.t 37), none⟩, .o ⟨(some 39), none, false, .idxA 1 (.t 32) (.t 38), none⟩, .o ⟨(some 40), none, false, .load 1 false (.t 39), none⟩, .o ⟨(some 41), none, true, .bin .add (.t 40) (.c (.int .i64 1)), none⟩, .o ⟨(some 42), none, false, .idxA 1 (.t 32) (.t 38), none⟩, .o ⟨none, none, false, .store 1 (.t 42) (.t 41), (some [1, 5, 6])⟩]
def c_spec_BusiestNode_12 : ACode := .region c_spec_BusiestNode_o7
def c_spec_BusiestNode_13 : ACode := .seq c_spec_BusiestNode_11 c_spec_BusiestNode_12
def c_spec_BusiestNode_14 : ACode := .block 1 c_spec_BusiestNode_13
abbrev c_spec_BusiestNode_o8 : List AJ := [.o ⟨(some 19), none, false, .mv (.t 6), none⟩, .o ⟨(some 20), none, true, .bin .add (.t 19) (.c (.int .i64 1)), none⟩, .o ⟨(some 6), none, false, .mv (.t 20), (some [1, 5, 6])⟩]
def c_spec_BusiestNode_15 : ACode := .region c_spec_BusiestNode_o8
def c_spec_BusiestNode_16 : ACode := .seq c_spec_BusiestNode_14 c_spec_BusiestNode_15
def c_spec_BusiestNode_17 : ACode := .seq c_spec_BusiestNode_10 c_spec_BusiestNode_16
def c_spec_BusiestNode_18 : ACode := .loop c_spec_BusiestNode_17
def c_spec_BusiestNode_19 : ACode := .block 0 c_spec_BusiestNode_18
def c_spec_BusiestNode_20 : ACode := .seq c_spec_BusiestNode_7 c_spec_BusiestNode_19
abbrev c_spec_BusiestNode_o9 : List AJ := [.o ⟨(some 7), none, false, .mv (.c (.int .i64 0)), (some [1, 5, 7])⟩]
def c_spec_BusiestNode_21 : ACode := .region c_spec_BusiestNode_o9
abbrev c_spec_BusiestNode_o10 : List AJ := [.o ⟨(some 8), none, false, .mv (.c (.int .i64 1)), (some [1, 5, 7, 8])⟩]
def c_spec_BusiestNode_22 : ACode := .region c_spec_BusiestNode_o10
abbrev c_spec_BusiestNode_o11 : List AJ := [.o ⟨(some 43), none, false, .mv (.t 8), none⟩, .o ⟨(some 44), none, false, .fieldA 0 (.t 1), none⟩, .o ⟨(some 45), none, false, .load 1 false (.t 44), none⟩, .o ⟨(some 46), none, false, .bin .lss (.t 43) (.t 45), (some [1, 5, 7, 8, 46])⟩]
def c_spec_BusiestNode_23 : ACode := .region c_spec_BusiestNode_o11
def c_spec_BusiestNode_24 : ACode := .cond (.t 46) .skip (.exit 2)
def c_spec_BusiestNode_25 : ACode := .seq c_spec_BusiestNode_23 c_spec_BusiestNode_24
abbrev c_spec_BusiestNode_o12 : List AI := [⟨(some 49), none, false, .mv (.t 5), none⟩, ⟨(some 50), none, false, .mv (.t 8), none⟩, ⟨(some 51), none, false, .idxA 1 (.t 49) (.t 50), none⟩, ⟨(some 52), none, false, .load 1 false (.t 51), none⟩, ⟨(some 53), none, false, .mv (.t 5), none⟩, ⟨(some 54), none, false, .mv (.t 7), none⟩, ⟨(some 55), none, false, .idxA 1 (.t 53) (.t 54), none⟩, ⟨(some 56), none, false, .load 1 false (.t 55), none⟩, ⟨(some 57), none, false, .bin .gtr (.t 52) (.t 56), (some [1, 5, 7, 8, 57])⟩]
def c_spec_BusiestNode_26 : ACode := .draw c_spec_BusiestNode_o12 [] rfl
abbrev c_spec_BusiestNode_o13 : List AJ := [.o ⟨(some 58), none, false, .mv (.t 8), none⟩, .o ⟨(some 7), none, false, .mv (.t 58), (some [1, 5, 7, 8])⟩]
def c_spec_BusiestNode_27 : ACode := .region c_spec_BusiestNode_o13
def c_spec_BusiestNode_28 : ACode := .cond (.t 57) c_spec_BusiestNode_27 .skip
def c_spec_BusiestNode_29 : ACode := .seq c_spec_BusiestNode_26 c_spec_BusiestNode_28
def c_spec_BusiestNode_30 : ACode := .block 3 c_spec_BusiestNode_29
abbrev c_spec_BusiestNode_o14 : List AJ := [.o ⟨(some 47), none, false, .mv (.t 8), none⟩, .o ⟨(some 48), none, true, .bin .add (.t 47) (.c (.int .i64 1)), none⟩, .o ⟨(some 8), none, false, .mv (.t 48), (some [1, 5, 7, 8])⟩]
def c_spec_BusiestNode_31 : ACode := .region c_spec_BusiestNode_o14
def c_spec_BusiestNode_32 : ACode := .seq c_spec_BusiestNode_30 c_spec_BusiestNode_31
def c_spec_BusiestNode_33 : ACode := .seq c_spec_BusiestNode_25 c_spec_BusiestNode_32
def c_spec_BusiestNode_34 : ACode := .loop c_spec_BusiestNode_33
def c_spec_BusiestNode_35 : ACode := .block 2 c_spec_BusiestNode_34
def c_spec_BusiestNode_36 : ACode := .seq c_spec_BusiestNode_22 c_spec_BusiestNode_35
abbrev c_spec_BusiestNode_o15 : List AI := [⟨(some 59), none, false, .mv (.t 7), none⟩, ⟨(some 60), none, false, .mv (.t 5), none⟩, ⟨(some 61), none, false, .mv (.t 7), none⟩, ⟨(some 62), none, false, .idxA 1 (.t 60) (.t 61), none⟩, ⟨(some 63), none, false, .load 1 false (.t 62), none⟩, ⟨(some 2), none, false, .mv (.t 59), none⟩, ⟨(some 3), none, false, .mv (.t 63), none⟩, ⟨(some 4), none, false, .mv (.c (.int .i64 0)), (some [2, 3, 4])⟩]
def c_spec_BusiestNode_37 : ACode := .draw c_spec_BusiestNode_o15 [] rfl
def c_spec_BusiestNode_38 : ACode := .seq c_spec_BusiestNode_37 .ret
def c_spec_BusiestNode_39 : ACode := .seq c_spec_BusiestNode_36 c_spec_BusiestNode_38
def c_spec_BusiestNode_40 : ACode := .seq c_spec_BusiestNode_21 c_spec_BusiestNode_39
def c_spec_BusiestNode_41 : ACode := .seq c_spec_BusiestNode_20 c_spec_BusiestNode_40
def c_spec_BusiestNode_42 : ACode := .seq c_spec_BusiestNode_6 c_spec_BusiestNode_41
def c_spec_BusiestNode_43 : ACode := .seq c_spec_BusiestNode_5 c_spec_BusiestNode_42
def c_spec_BusiestNode_44 : ACode := .seq c_spec_BusiestNode_0 c_spec_BusiestNode_43
section
variable (C : Cx) (n : Nat) (sk : List AItem) (e : Env) (h : Heap) (R : AV → Heap → Prop)
@[simp, simp ↓] theorem c_spec_BusiestNode_0_r : vc2 C (n + 1) [] (.code c_spec_BusiestNode_0 :: sk) e h R = (vc2 C n c_spec_BusiestNode_o0 sk e h R) := nr rfl
@[simp, simp ↓] theorem c_spec_BusiestNode_1_r : vc2 C (n + 1) [] (.code c_spec_BusiestNode_1 :: sk) e h R = (vc2 C n c_spec_BusiestNode_o1 sk e h R) := nr rfl
@[simp, simp ↓] theorem c_spec_BusiestNode_2_r : vc2 C (n + 1) [] (.code c_spec_BusiestNode_2 :: sk) e h R = (vc2 C n c_spec_BusiestNode_o2 sk e h R) := nr rfl
@[simp, simp ↓] theorem c_spec_BusiestNode_3_r : vc2 C (n + 1) [] (.code c_spec_BusiestNode_3 :: sk) e h R = (vc2 C n [] (.code c_spec_BusiestNode_2 :: .code .ret :: sk) e h R) := nr rfl
@[simp, simp ↓] theorem c_spec_BusiestNode_4_r : vc2 C (n + 1) [] (.code c_spec_BusiestNode_4 :: sk) e h R = (condK (ev e (.t 10)) (vc2 C n [] (.code c_spec_BusiestNode_3 :: sk) e h R) (vc2 C n [] (.code .skip :: sk) e h R)) := nr rfl
@[simp, simp ↓] theorem c_spec_BusiestNode_5_r : vc2 C (n + 1) [] (.code c_spec_BusiestNode_5 :: sk) e h R = (vc2 C n [] (.code c_spec_BusiestNode_1 :: .code c_spec_BusiestNode_4 :: sk) e h R) := nr rfl
@[simp, simp ↓] theorem c_spec_BusiestNode_6_r : vc2 C (n + 1) [] (.code c_spec_BusiestNode_6 :: sk) e h R = (vc2 C n c_spec_BusiestNode_o3 sk e h R) := nr rfl
@[simp, simp ↓] theorem c_spec_BusiestNode_7_r : vc2 C (n + 1) [] (.code c_spec_BusiestNode_7 :: sk) e h R = (vc2 C n c_spec_BusiestNode_o4 sk e h R) := nr rfl
@[simp, simp ↓] theorem c_spec_BusiestNode_8_r : vc2 C (n + 1) [] (.code c_spec_BusiestNode_8 :: sk) e h R = (vc2 C n c_spec_BusiestNode_o5 sk e h R) := nr rfl
@[simp, simp ↓] theorem c_spec_BusiestNode_9_r : vc2 C (n + 1) [] (.code c_spec_BusiestNode_9 :: sk) e h R = (condK (ev e (.t 18)) (vc2 C n [] (.code .skip :: sk) e h R) (vc2 C n [] (.code (.exit 0) :: sk) e h R)) := nr rfl
@[simp, simp ↓] theorem c_spec_BusiestNode_10_r : vc2 C (n + 1) [] (.code c_spec_BusiestNode_10 :: sk) e h R = (vc2 C n [] (.code c_spec_BusiestNode_8 :: .code c_spec_BusiestNode_9 :: sk) e h R) := nr rfl
@[simp, simp ↓] theorem c_spec_BusiestNode_11_r : vc2 C (n + 1) [] (.code c_spec_BusiestNode_11 :: sk) e h R = (vc2 C n c_spec_BusiestNode_o6 sk e h R) := nr rfl
@[simp, simp ↓] theorem c_spec_BusiestNode_12_r : vc2 C (n + 1) [] (.code c_spec_BusiestNode_12 :: sk) e h R = (vc2 C n c_spec_BusiestNode_o7 sk e h R) := nr rfl
@[simp, simp ↓] theorem c_spec_BusiestNode_13_r : vc2 C (n + 1) [] (.code c_spec_BusiestNode_13 :: sk) e h R = (vc2 C n [] (.code c_spec_BusiestNode_11 :: .code c_spec_BusiestNode_12 :: sk) e h R) := nr rfl
@[simp, simp ↓] theorem c_spec_BusiestNode_14_r : vc2 C (n + 1) [] (.code c_spec_BusiestNode_14 :: sk) e h R = (vc2 C n [] (.code c_spec_BusiestNode_13 :: .inBlock 1 :: sk) e h R) := nr rfl
@[simp, simp ↓] theorem c_spec_BusiestNode_15_r : vc2 C (n + 1) [] (.code c_spec_BusiestNode_15 :: sk) e h R = (vc2 C n c_spec_BusiestNode_o8 sk e h R) := nr rfl
@[simp, simp ↓] theorem c_spec_BusiestNode_16_r : vc2 C (n + 1) [] (.code c_spec_BusiestNode_16 :: sk) e h R = (vc2 C n [] (.code c_spec_BusiestNode_14 :: .code c_spec_BusiestNode_15 :: sk) e h R) := nr rfl
@[simp, simp ↓] theorem c_spec_BusiestNode_17_r : vc2 C (n + 1) [] (.code c_spec_BusiestNode_17 :: sk) e h R = (vc2 C n [] (.code c_spec_BusiestNode_10 :: .code c_spec_BusiestNode_16 :: sk) e h R) := nr rfl
@[simp, simp ↓] theorem c_spec_BusiestNode_18_r : vc2 C (n + 1) [] (.code c_spec_BusiestNode_18 :: sk) e h R = (Run2 C (.code c_spec_BusiestNode_17 :: .inLoop c_spec_BusiestNode_17 :: sk) e h R) := nr rfl
@[simp, simp ↓] theorem c_spec_BusiestNode_19_r : vc2 C (n + 1) [] (.code c_spec_BusiestNode_19 :: sk) e h R = (vc2 C n [] (.code c_spec_BusiestNode_18 :: .inBlock 0 :: sk) e h R) := nr rfl
@[simp, simp ↓] theorem c_spec_BusiestNode_20_r : vc2 C (n + 1) [] (.code c_spec_BusiestNode_20 :: sk) e h R = (vc2 C n [] (.code c_spec_BusiestNode_7 :: .code c_spec_BusiestNode_19 :: sk) e h R) := nr rfl
@[simp, simp ↓] theorem c_spec_BusiestNode_21_r : vc2 C (n + 1) [] (.code c_spec_BusiestNode_21 :: sk) e h R = (vc2 C n c_spec_BusiestNode_o9 sk e h R) := nr rfl
@[simp, simp ↓] theorem c_spec_BusiestNode_22_r : vc2 C (n + 1) [] (.code c_spec_BusiestNode_22 :: sk) e h R = (vc2 C n c_spec_BusiestNode_o10 sk e h R) := nr rfl
@[simp, simp ↓] theorem c_spec_BusiestNode_23_r : vc2 C (n + 1) [] (.code c_spec_BusiestNode_23 :: sk) e h R = (vc2 C n c_spec_BusiestNode_o11 sk e h R) := nr rfl
@[simp, simp ↓] theorem c_spec_BusiestNode_24_r : vc2 C (n + 1) [] (.code c_spec_BusiestNode_24 :: sk) e h R = (condK (ev e (.t 46)) (vc2 C n [] (.code .skip :: sk) e h R) (vc2 C n [] (.code (.exit 2) :: sk) e h R)) := nr rfl
@[simp, simp ↓] theorem c_spec_BusiestNode_25_r : vc2 C (n + 1) [] (.code c_spec_BusiestNode_25 :: sk) e h R = (vc2 C n [] (.code c_spec_BusiestNode_23 :: .code c_spec_BusiestNode_24 :: sk) e h R) := nr rfl
@[simp, simp ↓] theorem c_spec_BusiestNode_26_r : vc2 C (n + 1) [] (.code c_spec_BusiestNode_26 :: sk) e h R = (draw2 C h (vK C n [] sk R h) c_spec_BusiestNode_o12 e) := nr rfl
@[simp, simp ↓] theorem c_spec_BusiestNode_27_r : vc2 C (n + 1) [] (.code c_spec_BusiestNode_27 :: sk) e h R = (vc2 C n c_spec_BusiestNode_o13 sk e h R) := nr rfl
@[simp, simp ↓] theorem c_spec_BusiestNode_28_r : vc2 C (n + 1) [] (.code c_spec_BusiestNode_28 :: sk) e h R = (condK (ev e (.t 57)) (vc2 C n [] (.code c_spec_BusiestNode_27 :: sk) e h R) (vc2 C n [] (.code .skip :: sk) e h R)) := nr rfl
@[simp, simp ↓] theorem c_spec_BusiestNode_29_r : vc2 C (n + 1) [] (.code c_spec_BusiestNode_29 :: sk) e h R = (vc2 C n [] (.code c_spec_BusiestNode_26 :: .code c_spec_BusiestNode_28 :: sk) e h R) := nr rfl
@[simp, simp ↓] theorem c_spec_BusiestNode_30_r : vc2 C (n + 1) [] (.code c_spec_BusiestNode_30 :: sk) e h R = (vc2 C n [] (.code c_spec_BusiestNode_29 :: .inBlock 3 :: sk) e h R) := nr rfl
@[simp, simp ↓] theorem c_spec_BusiestNode_31_r : vc2 C (n + 1) [] (.code c_spec_BusiestNode_31 :: sk) e h R = (vc2 C n c_spec_BusiestNode_o14 sk e h R) := nr rfl
@[simp, simp ↓] theorem c_spec_BusiestNode_32_r : vc2 C (n + 1) [] (.code c_spec_BusiestNode_32 :: sk) e h R = (vc2 C n [] (.code c_spec_BusiestNode_30 :: .code c_spec_BusiestNode_31 :: sk) e h R) := nr rfl
@[simp, simp ↓] theorem c_spec_BusiestNode_33_r : vc2 C (n + 1) [] (.code c_spec_BusiestNode_33 :: sk) e h R = (vc2 C n [] (.code c_spec_BusiestNode_25 :: .code c_spec_BusiestNode_32 :: sk) e h R) := nr rfl
@[simp, simp ↓] theorem c_spec_BusiestNode_34_r : vc2 C (n + 1) [] (.code c_spec_BusiestNode_34 :: sk) e h R = (Run2 C (.code c_spec_BusiestNode_33 :: .inLoop c_spec_BusiestNode_33 :: sk) e h R) := nr rfl
@[simp, simp ↓] theorem c_spec_BusiestNode_35_r : vc2 C (n + 1) [] (.code c_spec_BusiestNode_35 :: sk) e h R = (vc2 C n [] (.code c_spec_BusiestNode_34 :: .inBlock 2 :: sk) e h R) := nr rfl
@[simp, simp ↓] theorem c_spec_BusiestNode_36_r : vc2 C (n + 1) [] (.code c_spec_BusiestNode_36 :: sk) e h R = (vc2 C n [] (.code c_spec_BusiestNode_22 :: .code c_spec_BusiestNode_35 :: sk) e h R) := nr rfl
@[simp, simp ↓] theorem c_spec_BusiestNode_37_r : vc2 C (n + 1) [] (.code c_spec_BusiestNode_37 :: sk) e h R = (draw2 C h (vK C n [] sk R h) c_spec_BusiestNode_o15 e) := nr rfl
@[simp, simp ↓] theorem c_spec_BusiestNode_38_r : vc2 C (n + 1) [] (.code c_spec_BusiestNode_38 :: sk) e h R = (vc2 C n [] (.code c_spec_BusiestNode_37 :: .code .ret :: sk) e h R) := nr rfl
@[simp, simp ↓] theorem c_spec_BusiestNode_39_r : vc2 C (n + 1) [] (.code c_spec_BusiestNode_39 :: sk) e h R = (vc2 C n [] (.code c_spec_BusiestNode_36 :: .code c_spec_BusiestNode_38 :: sk) e h R) := nr rfl
@[simp, simp ↓] theorem c_spec_BusiestNode_40_r : vc2 C (n + 1) [] (.code c_spec_BusiestNode_40 :: sk) e h R = (vc2 C n [] (.code c_spec_BusiestNode_21 :: .code c_spec_BusiestNode_39 :: sk) e h R) := nr rfl
@[simp, simp ↓] theorem c_spec_BusiestNode_41_r : vc2 C (n + 1) [] (.code c_spec_BusiestNode_41 :: sk) e h R = (vc2 C n [] (.code c_spec_BusiestNode_20 :: .code c_spec_BusiestNode_40 :: sk) e h R) := nr rfl
@[simp, simp ↓] theorem c_spec_BusiestNode_42_r : vc2 C (n + 1) [] (.code c_spec_BusiestNode_42 :: sk) e h R = (vc2 C n [] (.code c_spec_BusiestNode_6 :: .code c_spec_BusiestNode_41 :: sk) e h R) := nr rfl
@[simp, simp ↓] theorem c_spec_BusiestNode_43_r : vc2 C (n + 1) [] (.code c_spec_BusiestNode_43 :: sk) e h R = (vc2 C n [] (.code c_spec_BusiestNode_5 :: .code c_spec_BusiestNode_42 :: sk) e h R) := nr rfl
@[simp, simp ↓] theorem c_spec_BusiestNode_44_r : vc2 C (n + 1) [] (.code c_spec_BusiestNode_44 :: sk) e h R = (vc2 C n [] (.code c_spec_BusiestNode_0 :: .code c_spec_BusiestNode_43 :: sk) e h R) := nr rfl
end
noncomputable def c_spec_BusiestNode_C (orc : Orc) : Cx := ⟨Try.prog, [], 16, 64, [.tmp 2, .tmp 3, .tmp 4], orc⟩
@[simp] theorem c_spec_BusiestNode_C_P (orc : Orc) : (c_spec_BusiestNode_C orc).P = Try.prog := nr rfl
@[simp] theorem c_spec_BusiestNode_C_o (orc : Orc) : (c_spec_BusiestNode_C orc).orc = orc := nr rfl
@[simp] theorem c_spec_BusiestNode_C_r (orc : Orc) : (c_spec_BusiestNode_C orc).res = [.tmp 2, .tmp 3, .tmp 4] := nr rfl
theorem c_spec_BusiestNode_of {args : List AV} {h : Heap} {R : AV → Heap → Prop} {k : Nat} (ha : args.length = k) {orc : Orc} (hp : Pure Try.prog orc) (hk : Is (c_spec_BusiestNode_C orc) Try.f16 → Run2 (c_spec_BusiestNode_C orc) [.code c_spec_BusiestNode_44] (argEnv 0 args) h (Post R)) (hle : k ≤ 64 := by simp) : ACalls Try.prog 16 args h R :=
  contract2 [] c_spec_BusiestNode_44 [.tmp 2, .tmp 3, .tmp 4] Try.func16 (by decide +kernel) rfl (by kernel_rfl) (by rw [ha]; exact hle) (by kernel_rfl) hp hk
theorem c_spec_BusiestNode_of0 {args : List AV} {h : Heap} {R : AV → Heap → Prop} {k : Nat} (ha : args.length = k) {orc : Orc} (hp : Pure Try.prog orc) (hk : Is (c_spec_BusiestNode_C orc) Try.f16 → Run2 (c_spec_BusiestNode_C orc) [.code c_spec_BusiestNode_44] (argEnv 0 args) h R) (hle : k ≤ 64 := by simp) : ACalls Try.prog 16 args h R :=
  contract20 [] c_spec_BusiestNode_44 [.tmp 2, .tmp 3, .tmp 4] Try.func16 (by decide +kernel) rfl (by kernel_rfl) (by rw [ha]; exact hle) (by kernel_rfl) hp hk
theorem specBusy_c (x : Gr) (h : Heap) (hl : x.ts.length ≤ 1048576) (ok : x.ok) : ACalls Try.prog 16 [x.av] h (fun v h' => v = .tup [.int .i64 x.bIdx, .int .i64 x.bMax, .int .i64 x.bCode] ∧ h' = h) := by
  refine c_spec_BusiestNode_of rfl orcV_p fun I => ?_
  refine Run2.of I 1000 ?_
  by_cases hv : x.valid
  · have hn1 := hv.1
    have hn2 := hv.2.1
    simp -implicitDefEqProofs [hl, ok, hv]
    refine ⟨by omega, by omega, fun id hid => ?_⟩
    refine Run2.loopE (fun (i : Nat) => [(1, .ip [.int .i64 x.n, .snap 3 (x.ts.map T.av)]), (5, .sl id 1 0 x.n.toNat (some x.n.toNat)), (6, .int .i64 i)]) (fun i => (id, ⟨1, (degsTo x.n.toNat x.ts i).map iv⟩) :: h) (fun i => x.ts.length - i) (fun i => i ≤ x.ts.length) 0 (by simp) (by simp [degsTo]) (Nat.zero_le _) fun i hi ih => ?_
    obtain ⟨d1, d2⟩ := degsTo_inv x.n.toNat x.ts i hi
    by_cases hlt : i < x.ts.length
    · have hel := hv.el (List.getElem_mem hlt)
      unfold Gr.el at hel
      have go := ih (i + 1) (by omega) (by omega)
      rw [degsTo_succ _ _ hlt] at go
      clear ih
      generalize hD : degsTo x.n.toNat x.ts i = D at *
      have hf : x.ts[i].f.toNat < D.length := by omega
      have ht : x.ts[i].t.toNat < (bump D x.ts[i].f.toNat).length := by simp; omega
      have hf' : x.ts[i].f.toNat < x.n.toNat := by omega
      have ht' : x.ts[i].t.toNat < x.n.toNat := by omega
      have b1 := d2 _ (List.getElem_mem hf)
      have b2 := bump_le d2 x.ts[i].f.toNat _ (List.getElem_mem ht)
      have e1 := bump_iv D hf
      have e2 := bump_iv (bump D x.ts[i].f.toNat) ht
      refine Run2.of I 1000 ?_
      simp -implicitDefEqProofs [hlt, hf, ht, d1, hf', ht', e1, e2]
      refine ⟨hel.1, by omega, hel.1, by omega, by omega, by omega, by omega, ?_⟩
      simpa using go
    · obtain rfl : i = x.ts.length := by omega
      have e1 : x.bCode = 0 := by simp [Gr.bCode, hv]
      have e2 : x.bIdx = idxI x.degs (maxL x.degs) := by simp [Gr.bIdx, hv]
      have e3 : x.bMax = maxL x.degs := by simp [Gr.bMax, hv]
      rw [e1, e2, e3]
      unfold Gr.degs
      generalize hD : degsTo x.n.toNat x.ts x.ts.length = D at *
      have hnn : ((x.n.toNat : Nat) : Int) = x.n := Int.toNat_of_nonneg (by omega)
      refine Run2.of I 1000 ?_
      simp -implicitDefEqProofs
      refine Run2.loopE (α := Nat × Nat) (fun s => [(1, .ip [.int .i64 x.n, .snap 3 (x.ts.map T.av)]), (5, .sl id 1 0 x.n.toNat (some x.n.toNat)), (7, .int .i64 (s.2 : Nat)), (8, .int .i64 (s.1 : Nat))]) (fun i => (id, ⟨1, D.map iv⟩) :: h) (fun s => D.length - s.1) (fun s => s.1 ≤ D.length ∧ s.2 < s.1 ∧ (∀ j (hj : j < D.length), j < s.1 → D[j] ≤ D.getD s.2 0) ∧ ∀ j (hj : j < D.length), j < s.2 → D[j] < D.getD s.2 0) (1, 0) (by simp) rfl ⟨by simp; omega, by simp, fun j hj hji => by simp at hji; subst hji; simp [hj], fun j hj hji => by simp at hji⟩ ?_
      rintro ⟨i, b⟩ ⟨hi, hb, i1, i2⟩ ih
      simp only at hi hb i1 i2
      have hbl : b < D.length := by omega
      by_cases hlt : i < D.length
      · have hlt' : i < x.n.toNat := by omega
        have hbl' : b < x.n.toNat := by omega
        have hin : (i : Int) < x.n := by omega
        simp only [getD_at hbl] at i1 i2
        have go1 := fun (h1 : D[b] < D[i]) => ih (i + 1, i) ⟨by simp; omega, by simp, fun j hj hji => by
          rw [getD_at hlt]
          rcases Nat.lt_or_ge j i with h | h
          · have := i1 j hj h; omega
          · have e : j = i := by simp at hji; omega
            subst e; exact Int.le_refl _, fun j hj hji => by
          rw [getD_at hlt]
          have := i1 j hj hji; omega⟩ (by simp; omega)
        have go0 := fun (h1 : ¬ D[b] < D[i]) => ih (i + 1, b) ⟨by simp; omega, by simp; omega, fun j hj hji => by
          rw [getD_at hbl]
          rcases Nat.lt_or_ge j i with h | h
          · exact i1 j hj h
          · have e : j = i := by simp at hji; omega
            subst e; omega, fun j hj hji => by
          rw [getD_at hbl]
          exact i2 j hj hji⟩ (by simp; omega)
        clear ih
        refine Run2.of I 1000 ?_
        simp -implicitDefEqProofs [hlt, hlt', hbl, hbl', hin, d1]
        simp at go1 go0
        repeat' (first | refine And.intro ?_ ?_ | intro _)
        all_goals first | omega | exact go1 (by omega) | exact go0 (by omega)
      · have hin : ¬ (i : Int) < x.n := by omega
        have hbl' : b < x.n.toNat := by omega
        have hie : i = D.length := by omega
        subst hie
        simp only [getD_at hbl] at i1 i2
        obtain ⟨q1, q2⟩ := isBest.idx (l := D) (b := b) ⟨hbl, fun j hj => i1 j hj hj, fun j hj => i2 j (by omega) hj⟩
        rw [q1, q2, getD_at hbl]
        refine Run2.of I 1000 ?_
        simp -implicitDefEqProofs [hin, hbl, hbl', d1]
        refine ⟨fun h => by exfalso; omega, fun _ => .drop id (.base ?_)⟩
        simp [hdel]
  · have e1 : x.bCode = 1 := by simp [Gr.bCode, hv]
    have e2 : x.bIdx = 0 := by simp [Gr.bIdx, hv]
    have e3 : x.bMax = 0 := by simp [Gr.bMax, hv]
    simp -implicitDefEqProofs [hl, ok, hv, e1, e2, e3]
    exact .base ⟨rfl, rfl⟩
end Go.AG
