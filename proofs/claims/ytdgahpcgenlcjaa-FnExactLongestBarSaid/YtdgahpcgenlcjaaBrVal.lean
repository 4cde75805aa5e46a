/- What ValidBars and its counterpart of the reference ask of bars. No statement is made here. -/
import Derived.Test.YtdgahpcgenlcjaaBrV
namespace Go.AG
open Go.Proofs Go.Proofs.Ytdgahpcgenlcjaa
set_option linter.unusedSimpArgs false
set_option linter.unusedVariables false
set_option maxRecDepth 4000
/-- One bar is as it must be. -/
def T.el (t : T) : Prop := 0 ≤ t.f ∧ t.f ≤ 3 ∧ 0 ≤ t.t ∧ t.t ≤ 1000 ∧ (t.s = -1 ∨ t.t < t.s ∧ t.s ≤ 1000)
theorem T.bef_iff {a b : T} (ha : a.el) (hb : b.el) : a.bef b ↔ a.lt b := by
  unfold T.el at ha hb
  unfold T.bef T.lt T.en
  grind
/-- The first i bars are as they must be, in order. -/
def good (l : List T) (i : Nat) : Prop := ∀ j, (hj : j < l.length) → j < i → l[j].el ∧ (0 < j → ¬ l[j].lt l[j - 1])
def validB (l : List T) : Prop := good l l.length ∧ l.length ≤ 24
noncomputable instance (l : List T) : Decidable (validB l) := Classical.propDecidable _
theorem good_succ {l : List T} {i : Nat} (hi : i < l.length) : good l (i + 1) ↔ good l i ∧ l[i].el ∧ (0 < i → ¬ l[i].lt l[i - 1]) := by
  constructor
  · intro h
    exact ⟨fun j hj hji => h j hj (by omega), h i hi (by omega)⟩
  · rintro ⟨h1, h2⟩ j hj hji
    rcases Nat.lt_or_ge j i with h | h
    · exact h1 j hj h
    · obtain rfl : j = i := by omega
      exact h2
theorem good_mono {l : List T} {i j : Nat} (h : good l j) (hij : i ≤ j) : good l i := fun k hk hki => h k hk (by omega)
theorem not_validB {l : List T} {i : Nat} (hi : i < l.length) (h : ¬ (l[i].el ∧ (0 < i → ¬ l[i].lt l[i - 1]))) : ¬ validB l := fun hv =>
  h ((good_succ hi).1 (good_mono hv.1 (by omega))).2
theorem validB.el {l : List T} (h : validB l) {t : T} (ht : t ∈ l) : t.el := by
  obtain ⟨i, hi, rfl⟩ := List.mem_iff_getElem.1 ht
  exact (h.1 i hi hi).1
def okB (l : List T) : Prop := ∀ t ∈ l, t.ok
abbrev c_spec_l21List_o0 : List AJ := [.o ⟨(some 2), none, false, .mv (.c (.bool false)), (some [0])⟩]
def c_spec_l21List_0 : ACode := .region c_spec_l21List_o0
abbrev c_spec_l21List_o1 : List AJ := [.o ⟨(some 3), none, false, .mv (.c (.int .i64 0)), (some [0, 3])⟩]
def c_spec_l21List_1 : ACode := .region c_spec_l21List_o1
abbrev c_spec_l21List_o2 : List AJ := [.o ⟨(some 5), none, false, .mv (.t 3), none⟩, .o ⟨(some 6), none, false, .mv (.t 0), none⟩, .o ⟨(some 7), none, false, .len (.t 6), none⟩, .o ⟨(some 8), none, false, .bin .lss (.t 5) (.t 7), (some [0, 3, 8])⟩]
def c_spec_l21List_2 : ACode := .region c_spec_l21List_o2
def c_spec_l21List_3 : ACode := .cond (.t 8) .skip (.exit 0)
def c_spec_l21List_4 : ACode := .seq c_spec_l21List_2 c_spec_l21List_3
abbrev c_spec_l21List_o3 : List AJ := [.o ⟨(some 11), none, false, .mv (.t 0), none⟩, .o ⟨(some 12), none, false, .mv (.t 3), none⟩, .o ⟨(some 13), none, false, .idxA 3 (.t 11) (.t 12), none⟩, .o ⟨(some 14), none, false, .load 3 true (.t 13), none⟩, .v 4 3 (.agg [(.int .i64 0), (.int .i64 0), (.int .i64 0)]) [] (.t 14) (some [0, 3, 4])]
def c_spec_l21List_5 : ACode := .region c_spec_l21List_o3
abbrev c_spec_l21List_o4 : List AJ := [.o ⟨(some 15), none, false, .fieldA 0 (.t 4), none⟩, .o ⟨(some 16), none, false, .load 1 false (.t 15), none⟩, .o ⟨(some 17), none, false, .call 33 [(.t 16)], none⟩, .o ⟨(some 18), none, false, .un .not (.t 17), none⟩, .o ⟨(some 19), none, false, .mv (.t 18), none⟩, .o ⟨(some 20), (some (19, false)), false, .fieldA 1 (.t 4), none⟩, .o ⟨(some 21), (some (19, false)), false, .load 1 false (.t 20), none⟩, .o ⟨(some 22), (some (19, false)), false, .call 34 [(.t 21)], none⟩, .o ⟨(some 23), (some (19, false)), false, .un .not (.t 22), none⟩, .o ⟨(some 24), none, false, .pick (.t 19) (.c (.bool true)) (.t 23), (some [0, 3, 4, 24])⟩, .o ⟨(some 25), none, false, .mv (.t 24), none⟩, .o ⟨(some 26), (some (25, false)), false, .fieldA 2 (.t 4), none⟩, .o ⟨(some 27), (some (25, false)), false, .load 1 false (.t 26), none⟩, .o ⟨(some 28), (some (25, false)), false, .bin .neq (.t 27) (.c (.int .i64 (-1))), none⟩, .o ⟨(some 29), (some (25, false)), false, .mv (.t 28), none⟩, .o ⟨(some 30), (some (29, true)), false, .fieldA 2 (.t 4), none⟩, .o ⟨(some 31), (some (29, true)), false, .load 1 false (.t 30), none⟩, .o ⟨(some 32), (some (29, true)), false, .fieldA 1 (.t 4), (some [0, 3, 4, 25, 29, 31, 32])⟩, .o ⟨(some 33), (some (29, true)), false, .load 1 false (.t 32), none⟩, .o ⟨(some 34), (some (29, true)), false, .bin .leq (.t 31) (.t 33), none⟩, .o ⟨(some 35), (some (29, true)), false, .mv (.t 34), none⟩, .o ⟨(some 36), (some (35, false)), false, .fieldA 2 (.t 4), none⟩, .o ⟨(some 37), (some (35, false)), false, .load 1 false (.t 36), none⟩, .o ⟨(some 38), (some (35, false)), false, .call 34 [(.t 37)], none⟩, .o ⟨(some 39), (some (35, false)), false, .un .not (.t 38), (some [0, 3, 4, 25, 29, 35, 39])⟩, .o ⟨(some 40), (some (29, true)), false, .pick (.t 35) (.c (.bool true)) (.t 39), none⟩, .o ⟨(some 41), (some (25, false)), false, .pick (.t 29) (.t 40) (.c (.bool false)), none⟩, .o ⟨(some 42), none, false, .pick (.t 25) (.c (.bool true)) (.t 41), (some [0, 3, 4, 42])⟩]
def c_spec_l21List_6 : ACode := .region c_spec_l21List_o4
abbrev c_spec_l21List_o5 : List AJ := [.o ⟨(some 2), none, false, .mv (.c (.bool false)), (some [2])⟩]
def c_spec_l21List_7 : ACode := .region c_spec_l21List_o5
def c_spec_l21List_8 : ACode := .seq c_spec_l21List_7 .ret
def c_spec_l21List_9 : ACode := .cond (.t 42) c_spec_l21List_8 .skip
def c_spec_l21List_10 : ACode := .seq c_spec_l21List_6 c_spec_l21List_9
abbrev c_spec_l21List_o6 : List AJ := [.o ⟨(some 43), none, false, .mv (.t 3), none⟩, .o ⟨(some 44), none, false, .bin .gtr (.t 43) (.c (.int .i64 0)), none⟩, .o ⟨(some 45), none, false, .mv (.t 44), none⟩, .o ⟨(some 46), (some (45, true)), false, .mv (.t 0), none⟩, .o ⟨(some 47), (some (45, true)), false, .mv (.t 3), none⟩, .o ⟨(some 48), (some (45, true)), true, .bin .sub (.t 47) (.c (.int .i64 1)), none⟩, .o ⟨(some 49), (some (45, true)), false, .idxA 3 (.t 46) (.t 48), none⟩, .o ⟨(some 50), (some (45, true)), false, .call 53 [(.t 4), (.t 49)], none⟩, .o ⟨(some 51), none, false, .pick (.t 45) (.t 50) (.c (.bool false)), (some [0, 3, 51])⟩]
def c_spec_l21List_11 : ACode := .region c_spec_l21List_o6
abbrev c_spec_l21List_o7 : List AJ := [.o ⟨(some 2), none, false, .mv (.c (.bool false)), (some [2])⟩]
def c_spec_l21List_12 : ACode := .region c_spec_l21List_o7
def c_spec_l21List_13 : ACode := .seq c_spec_l21List_12 .ret
def c_spec_l21List_14 : ACode := .cond (.t 51) c_spec_l21List_13 .skip
def c_spec_l21List_15 : ACode := .seq c_spec_l21List_11 c_spec_l21List_14
def c_spec_l21List_16 : ACode := .seq c_spec_l21List_10 c_spec_l21List_15
def c_spec_l21List_17 : ACode := .seq c_spec_l21List_5 c_spec_l21List_16
def c_spec_l21List_18 : ACode := .block 1 c_spec_l21List_17
abbrev c_spec_l21List_o8 : List AJ := [.o ⟨(some 9), none, false, .mv (.t 3), none⟩, .o ⟨(some 10), none, true, .bin .add (.t 9) (.c (.int .i64 1)), none⟩, .o ⟨(some 3), none, false, .mv (.t 10), (some [0, 3])⟩]
def c_spec_l21List_19 : ACode := .region c_spec_l21List_o8
def c_spec_l21List_20 : ACode := .seq c_spec_l21List_18 c_spec_l21List_19
def c_spec_l21List_21 : ACode := .seq c_spec_l21List_4 c_spec_l21List_20
def c_spec_l21List_22 : ACode := .loop c_spec_l21List_21
def c_spec_l21List_23 : ACode := .block 0 c_spec_l21List_22
def c_spec_l21List_24 : ACode := .seq c_spec_l21List_1 c_spec_l21List_23
abbrev c_spec_l21List_o9 : List AJ := [.o ⟨(some 52), none, false, .mv (.t 0), none⟩, .o ⟨(some 53), none, false, .len (.t 52), none⟩, .o ⟨(some 54), none, false, .bin .leq (.t 53) (.c (.int .i64 24)), none⟩, .o ⟨(some 2), none, false, .mv (.t 54), (some [2])⟩]
def c_spec_l21List_25 : ACode := .region c_spec_l21List_o9
def c_spec_l21List_26 : ACode := .seq c_spec_l21List_25 .ret
def c_spec_l21List_27 : ACode := .seq c_spec_l21List_24 c_spec_l21List_26
def c_spec_l21List_28 : ACode := .seq c_spec_l21List_0 c_spec_l21List_27
section
variable (C : Cx) (n : Nat) (sk : List AItem) (e : Env) (h : Heap) (R : AV → Heap → Prop)
@[simp, simp ↓] theorem c_spec_l21List_0_r : vc2 C (n + 1) [] (.code c_spec_l21List_0 :: sk) e h R = (vc2 C n c_spec_l21List_o0 sk e h R) := nr rfl
@[simp, simp ↓] theorem c_spec_l21List_1_r : vc2 C (n + 1) [] (.code c_spec_l21List_1 :: sk) e h R = (vc2 C n c_spec_l21List_o1 sk e h R) := nr rfl
@[simp, simp ↓] theorem c_spec_l21List_2_r : vc2 C (n + 1) [] (.code c_spec_l21List_2 :: sk) e h R = (vc2 C n c_spec_l21List_o2 sk e h R) := nr rfl
@[simp, simp ↓] theorem c_spec_l21List_3_r : vc2 C (n + 1) [] (.code c_spec_l21List_3 :: sk) e h R = (condK (ev e (.t 8)) (vc2 C n [] (.code .skip :: sk) e h R) (vc2 C n [] (.code (.exit 0) :: sk) e h R)) := nr rfl
@[simp, simp ↓] theorem c_spec_l21List_4_r : vc2 C (n + 1) [] (.code c_spec_l21List_4 :: sk) e h R = (vc2 C n [] (.code c_spec_l21List_2 :: .code c_spec_l21List_3 :: sk) e h R) := nr rfl
@[simp, simp ↓] theorem c_spec_l21List_5_r : vc2 C (n + 1) [] (.code c_spec_l21List_5 :: sk) e h R = (vc2 C n c_spec_l21List_o3 sk e h R) := nr rfl
@[simp, simp ↓] theorem c_spec_l21List_6_r : vc2 C (n + 1) [] (.code c_spec_l21List_6 :: sk) e h R = (vc2 C n c_spec_l21List_o4 sk e h R) := nr rfl
@[simp, simp ↓] theorem c_spec_l21List_7_r : vc2 C (n + 1) [] (.code c_spec_l21List_7 :: sk) e h R = (vc2 C n c_spec_l21List_o5 sk e h R) := nr rfl
@[simp, simp ↓] theorem c_spec_l21List_8_r : vc2 C (n + 1) [] (.code c_spec_l21List_8 :: sk) e h R = (vc2 C n [] (.code c_spec_l21List_7 :: .code .ret :: sk) e h R) := nr rfl
@[simp, simp ↓] theorem c_spec_l21List_9_r : vc2 C (n + 1) [] (.code c_spec_l21List_9 :: sk) e h R = (condK (ev e (.t 42)) (vc2 C n [] (.code c_spec_l21List_8 :: sk) e h R) (vc2 C n [] (.code .skip :: sk) e h R)) := nr rfl
@[simp, simp ↓] theorem c_spec_l21List_10_r : vc2 C (n + 1) [] (.code c_spec_l21List_10 :: sk) e h R = (vc2 C n [] (.code c_spec_l21List_6 :: .code c_spec_l21List_9 :: sk) e h R) := nr rfl
@[simp, simp ↓] theorem c_spec_l21List_11_r : vc2 C (n + 1) [] (.code c_spec_l21List_11 :: sk) e h R = (vc2 C n c_spec_l21List_o6 sk e h R) := nr rfl
@[simp, simp ↓] theorem c_spec_l21List_12_r : vc2 C (n + 1) [] (.code c_spec_l21List_12 :: sk) e h R = (vc2 C n c_spec_l21List_o7 sk e h R) := nr rfl
@[simp, simp ↓] theorem c_spec_l21List_13_r : vc2 C (n + 1) [] (.code c_spec_l21List_13 :: sk) e h R = (vc2 C n [] (.code c_spec_l21List_12 :: .code .ret :: sk) e h R) := nr rfl
@[simp, simp ↓] theorem c_spec_l21List_14_r : vc2 C (n + 1) [] (.code c_spec_l21List_14 :: sk) e h R = (condK (ev e (.t 51)) (vc2 C n [] (.code c_spec_l21List_13 :: sk) e h R) (vc2 C n [] (.code .skip :: sk) e h R)) := nr rfl
@[simp, simp ↓] theorem c_spec_l21List_15_r : vc2 C (n + 1) [] (.code c_spec_l21List_15 :: sk) e h R = (vc2 C n [] (.code c_spec_l21List_11 :: .code c_spec_l21List_14 :: sk) e h R) := nr rfl
@[simp, simp ↓] theorem c_spec_l21List_16_r : vc2 C (n + 1) [] (.code c_spec_l21List_16 :: sk) e h R = (vc2 C n [] (.code c_spec_l21List_10 :: .code c_spec_l21List_15 :: sk) e h R) := nr rfl
@[simp, simp ↓] theorem c_spec_l21List_17_r : vc2 C (n + 1) [] (.code c_spec_l21List_17 :: sk) e h R = (vc2 C n [] (.code c_spec_l21List_5 :: .code c_spec_l21List_16 :: sk) e h R) := nr rfl
@[simp, simp ↓] theorem c_spec_l21List_18_r : vc2 C (n + 1) [] (.code c_spec_l21List_18 :: sk) e h R = (vc2 C n [] (.code c_spec_l21List_17 :: .inBlock 1 :: sk) e h R) := nr rfl
@[simp, simp ↓] theorem c_spec_l21List_19_r : vc2 C (n + 1) [] (.code c_spec_l21List_19 :: sk) e h R = (vc2 C n c_spec_l21List_o8 sk e h R) := nr rfl
@[simp, simp ↓] theorem c_spec_l21List_20_r : vc2 C (n + 1) [] (.code c_spec_l21List_20 :: sk) e h R = (vc2 C n [] (.code c_spec_l21List_18 :: .code c_spec_l21List_19 :: sk) e h R) := nr rfl
@[simp, simp ↓] theorem c_spec_l21List_21_r : vc2 C (n + 1) [] (.code c_spec_l21List_21 :: sk) e h R = (vc2 C n [] (.code c_spec_l21List_4 :: .code c_spec_l21List_20 :: sk) e h R) := nr rfl
@[simp, simp ↓] theorem c_spec_l21List_22_r : vc2 C (n + 1) [] (.code c_spec_l21List_22 :: sk) e h R = (Run2 C (.code c_spec_l21List_21 :: .inLoop c_spec_l21List_21 :: sk) e h R) := nr rfl
@[simp, simp ↓] theorem c_spec_l21List_23_r : vc2 C (n + 1) [] (.code c_spec_l21List_23 :: sk) e h R = (vc2 C n [] (.code c_spec_l21List_22 :: .inBlock 0 :: sk) e h R) := nr rfl
@[simp, simp ↓] theorem c_spec_l21List_24_r : vc2 C (n + 1) [] (.code c_spec_l21List_24 :: sk) e h R = (vc2 C n [] (.code c_spec_l21List_1 :: .code c_spec_l21List_23 :: sk) e h R) := nr rfl
@[simp, simp ↓] theorem c_spec_l21List_25_r : vc2 C (n + 1) [] (.code c_spec_l21List_25 :: sk) e h R = (vc2 C n c_spec_l21List_o9 sk e h R) := nr rfl
@[simp, simp ↓] theorem c_spec_l21List_26_r : vc2 C (n + 1) [] (.code c_spec_l21List_26 :: sk) e h R = (vc2 C n [] (.code c_spec_l21List_25 :: .code .ret :: sk) e h R) := nr rfl
@[simp, simp ↓] theorem c_spec_l21List_27_r : vc2 C (n + 1) [] (.code c_spec_l21List_27 :: sk) e h R = (vc2 C n [] (.code c_spec_l21List_24 :: .code c_spec_l21List_26 :: sk) e h R) := nr rfl
@[simp, simp ↓] theorem c_spec_l21List_28_r : vc2 C (n + 1) [] (.code c_spec_l21List_28 :: sk) e h R = (vc2 C n [] (.code c_spec_l21List_0 :: .code c_spec_l21List_27 :: sk) e h R) := nr rfl
end
noncomputable def c_spec_l21List_C (orc : Orc) : Cx := ⟨Try.prog, [4], 27, 55, [.tmp 2], orc⟩
@[simp] theorem c_spec_l21List_C_P (orc : Orc) : (c_spec_l21List_C orc).P = Try.prog := nr rfl
@[simp] theorem c_spec_l21List_C_o (orc : Orc) : (c_spec_l21List_C orc).orc = orc := nr rfl
@[simp] theorem c_spec_l21List_C_r (orc : Orc) : (c_spec_l21List_C orc).res = [.tmp 2] := nr rfl
theorem c_spec_l21List_of {args : List AV} {h : Heap} {R : AV → Heap → Prop} {k : Nat} (ha : args.length = k) {orc : Orc} (hp : Pure Try.prog orc) (hk : Is (c_spec_l21List_C orc) Try.f27 → Run2 (c_spec_l21List_C orc) [.code c_spec_l21List_28] (argEnv 0 args) h (Post R)) (hle : k ≤ 55 := by simp) : ACalls Try.prog 27 args h R :=
  contract2 [4] c_spec_l21List_28 [.tmp 2] Try.func27 (by decide +kernel) rfl (by kernel_rfl) (by rw [ha]; exact hle) (by kernel_rfl) hp hk
theorem c_spec_l21List_of0 {args : List AV} {h : Heap} {R : AV → Heap → Prop} {k : Nat} (ha : args.length = k) {orc : Orc} (hp : Pure Try.prog orc) (hk : Is (c_spec_l21List_C orc) Try.f27 → Run2 (c_spec_l21List_C orc) [.code c_spec_l21List_28] (argEnv 0 args) h R) (hle : k ≤ 55 := by simp) : ACalls Try.prog 27 args h R :=
  contract20 [4] c_spec_l21List_28 [.tmp 2] Try.func27 (by decide +kernel) rfl (by kernel_rfl) (by rw [ha]; exact hle) (by kernel_rfl) hp hk
theorem l21List_c (l : List T) (h : Heap) (hl : l.length ≤ 1048576) (ok : ∀ t ∈ l, t.ok) : ACalls Try.prog 27 [.snap 3 (l.map T.av)] h (fun v h' => v = .bool (decide (validB l)) ∧ h' = h) := by
  refine c_spec_l21List_of0 rfl orc3_p fun I => ?_
  refine Run2.of I 1000 ?_
  simp -implicitDefEqProofs
  refine Run2.loop (fun i => [(0, .snap 3 (l.map T.av)), (3, .int .i64 (i : Nat))]) (fun i => h) (fun i => l.length - i) (fun i => i ≤ l.length ∧ good l i) 0 ⟨Nat.zero_le _, fun _ _ h => absurd h (Nat.not_lt_zero _)⟩ fun i hi ih => ?_
  by_cases hlt : i < l.length
  · have hok := ok _ (List.getElem_mem hlt)
    have hbad := not_validB hlt
    have go := fun h1 => ih (i + 1) ⟨by omega, (good_succ hlt).2 ⟨hi.2, h1⟩⟩ (by omega)
    clear ih
    refine Run2.of I 1000 ?_
    cases i with
    | zero =>
      simp -implicitDefEqProofs [hlt]
      simp [T.el] at go hbad
      repeat' (first | refine And.intro ?_ ?_ | intro _)
      all_goals first | omega | grind
    | succ i =>
      have hlt' : i < l.length := by omega
      have hp := (hi.2 i hlt' (by omega)).1
      have hc : ((i : Int) + 1 - 1).toNat = i := by omega
      have hb := fun (h1 : l[i + 1].el) => T.bef_iff h1 hp
      simp -implicitDefEqProofs [hlt, hlt', hc]
      simp [T.el] at go hbad hb
      repeat' (first | refine And.intro ?_ ?_ | intro _)
      all_goals first | omega | grind
  · obtain rfl : i = l.length := by omega
    refine Run2.of I 1000 ?_
    simp -implicitDefEqProofs
    simp [validB, hi.2]
    omega
abbrev c_impl_ValidBars_o0 : List AJ := [.o ⟨(some 2), none, false, .mv (.c (.bool false)), (some [0])⟩]
def c_impl_ValidBars_0 : ACode := .region c_impl_ValidBars_o0
abbrev c_impl_ValidBars_o1 : List AJ := [.o ⟨(some 5), none, false, .mv (.t 0), none⟩, .o ⟨(some 6), none, false, .len (.t 5), none⟩, .o ⟨(some 7), none, false, .mv (.c (.int .i64 0)), (some [0, 5, 6, 7])⟩]
def c_impl_ValidBars_1 : ACode := .region c_impl_ValidBars_o1
abbrev c_impl_ValidBars_o2 : List AJ := [.o ⟨(some 8), none, false, .bin .lss (.t 7) (.t 6), (some [0, 5, 6, 7, 8])⟩]
def c_impl_ValidBars_2 : ACode := .region c_impl_ValidBars_o2
def c_impl_ValidBars_3 : ACode := .cond (.t 8) .skip (.exit 0)
abbrev c_impl_ValidBars_o3 : List AJ := [.o ⟨(some 9), none, false, .mv (.t 7), none⟩, .o ⟨(some 10), none, false, .idxA 3 (.t 5) (.t 7), none⟩, .o ⟨(some 11), none, false, .load 3 true (.t 10), none⟩, .v 4 3 (.agg [(.int .i64 0), (.int .i64 0), (.int .i64 0)]) [(3, (.t 9))] (.t 11) (some [0, 3, 4, 5, 6, 7])]
def c_impl_ValidBars_4 : ACode := .region c_impl_ValidBars_o3
abbrev c_impl_ValidBars_o4 : List AJ := [.o ⟨(some 12), none, false, .fieldA 0 (.t 4), none⟩, .o ⟨(some 13), none, false, .load 1 false (.t 12), none⟩, .o ⟨(some 14), none, false, .call 29 [(.t 13)], none⟩, .o ⟨(some 15), none, false, .un .not (.t 14), none⟩, .o ⟨(some 16), none, false, .mv (.t 15), none⟩, .o ⟨(some 17), (some (16, false)), false, .fieldA 1 (.t 4), none⟩, .o ⟨(some 18), (some (16, false)), false, .load 1 false (.t 17), none⟩, .o ⟨(some 19), (some (16, false)), false, .call 30 [(.t 18)], none⟩, .o ⟨(some 20), (some (16, false)), false, .un .not (.t 19), none⟩, .o ⟨(some 21), none, false, .pick (.t 16) (.c (.bool true)) (.t 20), (some [0, 3, 4, 5, 6, 7, 21])⟩, .o ⟨(some 22), none, false, .mv (.t 21), none⟩, .o ⟨(some 23), (some (22, false)), false, .fieldA 2 (.t 4), none⟩, .o ⟨(some 24), (some (22, false)), false, .load 1 false (.t 23), none⟩, .o ⟨(some 25), (some (22, false)), false, .bin .neq (.t 24) (.c (.int .i64 (-1))), none⟩, .o ⟨(some 26), (some (22, false)), false, .mv (.t 25), none⟩, .o ⟨(some 27), (some (26, true)), false, .fieldA 2 (.t 4), none⟩, .o ⟨(some 28), (some (26, true)), false, .load 1 false (.t 27), none⟩, .o ⟨(some 29), (some (26, true)), false, .fieldA 1 (.t 4), (some [0, 3, 4, 5, 6, 7, 22, 26, 28, 29])⟩, .o ⟨(some 30), (some (26, true)), false, .load 1 false (.t 29), none⟩, .o ⟨(some 31), (some (26, true)), true, .bin .add (.t 30) (.c (.int .i64 1)), none⟩, .o ⟨(some 32), (some (26, true)), false, .call 31 [(.t 28), (.t 31), (.c (.int .i64 1000))], none⟩, .o ⟨(some 33), (some (26, true)), false, .un .not (.t 32), none⟩, .o ⟨(some 34), (some (22, false)), false, .pick (.t 26) (.t 33) (.c (.bool false)), none⟩, .o ⟨(some 35), none, false, .pick (.t 22) (.c (.bool true)) (.t 34), (some [0, 3, 4, 5, 6, 7, 35])⟩]
def c_impl_ValidBars_5 : ACode := .region c_impl_ValidBars_o4
abbrev c_impl_ValidBars_o5 : List AJ := [.o ⟨(some 2), none, false, .mv (.c (.bool false)), (some [2])⟩]
def c_impl_ValidBars_6 : ACode := .region c_impl_ValidBars_o5
def c_impl_ValidBars_7 : ACode := .seq c_impl_ValidBars_6 .ret
def c_impl_ValidBars_8 : ACode := .cond (.t 35) c_impl_ValidBars_7 .skip
def c_impl_ValidBars_9 : ACode := .seq c_impl_ValidBars_5 c_impl_ValidBars_8
abbrev c_impl_ValidBars_o6 : List AI := [⟨(some 36), none, false, .mv (.t 3), none⟩, ⟨(some 37), none, false, .bin .gtr (.t 36) (.c (.int .i64 0)), none⟩, ⟨(some 38), none, false, .mv (.t 37), none⟩, ⟨(some 39), (some (38, true)), false, .mv (.t 0), none⟩, ⟨(some 40), (some (38, true)), false, .mv (.t 3), none⟩, ⟨(some 41), (some (38, true)), true, .bin .sub (.t 40) (.c (.int .i64 1)), none⟩, ⟨(some 42), (some (38, true)), false, .idxA 3 (.t 39) (.t 41), none⟩, ⟨(some 43), (some (38, true)), false, .load 3 true (.t 42), none⟩, ⟨(some 44), (some (38, true)), false, .load 3 true (.t 4), (some [0, 5, 6, 7, 38, 43, 44])⟩, ⟨(some 45), (some (38, true)), false, .call 32 [(.t 43), (.t 44)], none⟩, ⟨(some 46), (some (38, true)), false, .bin .gtr (.t 45) (.c (.int .i64 0)), none⟩, ⟨(some 47), none, false, .pick (.t 38) (.t 46) (.c (.bool false)), (some [0, 5, 6, 7, 47])⟩]
def c_impl_ValidBars_10 : ACode := .draw c_impl_ValidBars_o6 [] rfl
abbrev c_impl_ValidBars_o7 : List AJ := [.o ⟨(some 2), none, false, .mv (.c (.bool false)), (some [2])⟩]
def c_impl_ValidBars_11 : ACode := .region c_impl_ValidBars_o7
def c_impl_ValidBars_12 : ACode := .seq c_impl_ValidBars_11 .ret
def c_impl_ValidBars_13 : ACode := .cond (.t 47) c_impl_ValidBars_12 .skip
def c_impl_ValidBars_14 : ACode := .seq c_impl_ValidBars_10 c_impl_ValidBars_13
def c_impl_ValidBars_15 : ACode := .seq c_impl_ValidBars_9 c_impl_ValidBars_14
def c_impl_ValidBars_16 : ACode := .seq c_impl_ValidBars_4 c_impl_ValidBars_15
def c_impl_ValidBars_17 : ACode := .block 1 c_impl_ValidBars_16
abbrev c_impl_ValidBars_o8 : List AJ := [.o ⟨(some 48), none, true, .bin .add (.t 7) (.c (.int .i64 1)), none⟩, .o ⟨(some 7), none, false, .mv (.t 48), (some [0, 5, 6, 7])⟩]
def c_impl_ValidBars_18 : ACode := .region c_impl_ValidBars_o8
def c_impl_ValidBars_19 : ACode := .seq c_impl_ValidBars_17 c_impl_ValidBars_18
def c_impl_ValidBars_20 : ACode := .seq c_impl_ValidBars_3 c_impl_ValidBars_19
def c_impl_ValidBars_21 : ACode := .seq c_impl_ValidBars_2 c_impl_ValidBars_20
def c_impl_ValidBars_22 : ACode := .loop c_impl_ValidBars_21
def c_impl_ValidBars_23 : ACode := .block 0 c_impl_ValidBars_22
def c_impl_ValidBars_24 : ACode := .seq c_impl_ValidBars_1 c_impl_ValidBars_23
abbrev c_impl_ValidBars_o9 : List AJ := [.o ⟨(some 49), none, false, .mv (.t 0), none⟩, .o ⟨(some 50), none, false, .len (.t 49), none⟩, .o ⟨(some 51), none, false, .bin .leq (.t 50) (.c (.int .i64 24)), none⟩, .o ⟨(some 2), none, false, .mv (.t 51), (some [2])⟩]
def c_impl_ValidBars_25 : ACode := .region c_impl_ValidBars_o9
def c_impl_ValidBars_26 : ACode := .seq c_impl_ValidBars_25 .ret
def c_impl_ValidBars_27 : ACode := .seq c_impl_ValidBars_24 c_impl_ValidBars_26
def c_impl_ValidBars_28 : ACode := .seq c_impl_ValidBars_0 c_impl_ValidBars_27
section
variable (C : Cx) (n : Nat) (sk : List AItem) (e : Env) (h : Heap) (R : AV → Heap → Prop)
@[simp, simp ↓] theorem c_impl_ValidBars_0_r : vc2 C (n + 1) [] (.code c_impl_ValidBars_0 :: sk) e h R = (vc2 C n c_impl_ValidBars_o0 sk e h R) := nr rfl
@[simp, simp ↓] theorem c_impl_ValidBars_1_r : vc2 C (n + 1) [] (.code c_impl_ValidBars_1 :: sk) e h R = (vc2 C n c_impl_ValidBars_o1 sk e h R) := nr rfl
@[simp, simp ↓] theorem c_impl_ValidBars_2_r : vc2 C (n + 1) [] (.code c_impl_ValidBars_2 :: sk) e h R = (vc2 C n c_impl_ValidBars_o2 sk e h R) := nr rfl
@[simp, simp ↓] theorem c_impl_ValidBars_3_r : vc2 C (n + 1) [] (.code c_impl_ValidBars_3 :: sk) e h R = (condK (ev e (.t 8)) (vc2 C n [] (.code .skip :: sk) e h R) (vc2 C n [] (.code (.exit 0) :: sk) e h R)) := nr rfl
@[simp, simp ↓] theorem c_impl_ValidBars_4_r : vc2 C (n + 1) [] (.code c_impl_ValidBars_4 :: sk) e h R = (vc2 C n c_impl_ValidBars_o3 sk e h R) := nr rfl
@[simp, simp ↓] theorem c_impl_ValidBars_5_r : vc2 C (n + 1) [] (.code c_impl_ValidBars_5 :: sk) e h R = (vc2 C n c_impl_ValidBars_o4 sk e h R) := nr rfl
@[simp, simp ↓] theorem c_impl_ValidBars_6_r : vc2 C (n + 1) [] (.code c_impl_ValidBars_6 :: sk) e h R = (vc2 C n c_impl_ValidBars_o5 sk e h R) := nr rfl
@[simp, simp ↓] theorem c_impl_ValidBars_7_r : vc2 C (n + 1) [] (.code c_impl_ValidBars_7 :: sk) e h R = (vc2 C n [] (.code c_impl_ValidBars_6 :: .code .ret :: sk) e h R) := nr rfl
@[simp, simp ↓] theorem c_impl_ValidBars_8_r : vc2 C (n + 1) [] (.code c_impl_ValidBars_8 :: sk) e h R = (condK (ev e (.t 35)) (vc2 C n [] (.code c_impl_ValidBars_7 :: sk) e h R) (vc2 C n [] (.code .skip :: sk) e h R)) := nr rfl
@[simp, simp ↓] theorem c_impl_ValidBars_9_r : vc2 C (n + 1) [] (.code c_impl_ValidBars_9 :: sk) e h R = (vc2 C n [] (.code c_impl_ValidBars_5 :: .code c_impl_ValidBars_8 :: sk) e h R) := nr rfl
@[simp, simp ↓] theorem c_impl_ValidBars_10_r : vc2 C (n + 1) [] (.code c_impl_ValidBars_10 :: sk) e h R = (draw2 C h (vK C n [] sk R h) c_impl_ValidBars_o6 e) := nr rfl
@[simp, simp ↓] theorem c_impl_ValidBars_11_r : vc2 C (n + 1) [] (.code c_impl_ValidBars_11 :: sk) e h R = (vc2 C n c_impl_ValidBars_o7 sk e h R) := nr rfl
@[simp, simp ↓] theorem c_impl_ValidBars_12_r : vc2 C (n + 1) [] (.code c_impl_ValidBars_12 :: sk) e h R = (vc2 C n [] (.code c_impl_ValidBars_11 :: .code .ret :: sk) e h R) := nr rfl
@[simp, simp ↓] theorem c_impl_ValidBars_13_r : vc2 C (n + 1) [] (.code c_impl_ValidBars_13 :: sk) e h R = (condK (ev e (.t 47)) (vc2 C n [] (.code c_impl_ValidBars_12 :: sk) e h R) (vc2 C n [] (.code .skip :: sk) e h R)) := nr rfl
@[simp, simp ↓] theorem c_impl_ValidBars_14_r : vc2 C (n + 1) [] (.code c_impl_ValidBars_14 :: sk) e h R = (vc2 C n [] (.code c_impl_ValidBars_10 :: .code c_impl_ValidBars_13 :: sk) e h R) := nr rfl
@[simp, simp ↓] theorem c_impl_ValidBars_15_r : vc2 C (n + 1) [] (.code c_impl_ValidBars_15 :: sk) e h R = (vc2 C n [] (.code c_impl_ValidBars_9 :: .code c_impl_ValidBars_14 :: sk) e h R) := nr rfl
@[simp, simp ↓] theorem c_impl_ValidBars_16_r : vc2 C (n + 1) [] (.code c_impl_ValidBars_16 :: sk) e h R = (vc2 C n [] (.code c_impl_ValidBars_4 :: .code c_impl_ValidBars_15 :: sk) e h R) := nr rfl
@[simp, simp ↓] theorem c_impl_ValidBars_17_r : vc2 C (n + 1) [] (.code c_impl_ValidBars_17 :: sk) e h R = (vc2 C n [] (.code c_impl_ValidBars_16 :: .inBlock 1 :: sk) e h R) := nr rfl
@[simp, simp ↓] theorem c_impl_ValidBars_18_r : vc2 C (n + 1) [] (.code c_impl_ValidBars_18 :: sk) e h R = (vc2 C n c_impl_ValidBars_o8 sk e h R) := nr rfl
@[simp, simp ↓] theorem c_impl_ValidBars_19_r : vc2 C (n + 1) [] (.code c_impl_ValidBars_19 :: sk) e h R = (vc2 C n [] (.code c_impl_ValidBars_17 :: .code c_impl_ValidBars_18 :: sk) e h R) := nr rfl
@[simp, simp ↓] theorem c_impl_ValidBars_20_r : vc2 C (n + 1) [] (.code c_impl_ValidBars_20 :: sk) e h R = (vc2 C n [] (.code c_impl_ValidBars_3 :: .code c_impl_ValidBars_19 :: sk) e h R) := nr rfl
@[simp, simp ↓] theorem c_impl_ValidBars_21_r : vc2 C (n + 1) [] (.code c_impl_ValidBars_21 :: sk) e h R = (vc2 C n [] (.code c_impl_ValidBars_2 :: .code c_impl_ValidBars_20 :: sk) e h R) := nr rfl
@[simp, simp ↓] theorem c_impl_ValidBars_22_r : vc2 C (n + 1) [] (.code c_impl_ValidBars_22 :: sk) e h R = (Run2 C (.code c_impl_ValidBars_21 :: .inLoop c_impl_ValidBars_21 :: sk) e h R) := nr rfl
@[simp, simp ↓] theorem c_impl_ValidBars_23_r : vc2 C (n + 1) [] (.code c_impl_ValidBars_23 :: sk) e h R = (vc2 C n [] (.code c_impl_ValidBars_22 :: .inBlock 0 :: sk) e h R) := nr rfl
@[simp, simp ↓] theorem c_impl_ValidBars_24_r : vc2 C (n + 1) [] (.code c_impl_ValidBars_24 :: sk) e h R = (vc2 C n [] (.code c_impl_ValidBars_1 :: .code c_impl_ValidBars_23 :: sk) e h R) := nr rfl
@[simp, simp ↓] theorem c_impl_ValidBars_25_r : vc2 C (n + 1) [] (.code c_impl_ValidBars_25 :: sk) e h R = (vc2 C n c_impl_ValidBars_o9 sk e h R) := nr rfl
@[simp, simp ↓] theorem c_impl_ValidBars_26_r : vc2 C (n + 1) [] (.code c_impl_ValidBars_26 :: sk) e h R = (vc2 C n [] (.code c_impl_ValidBars_25 :: .code .ret :: sk) e h R) := nr rfl
@[simp, simp ↓] theorem c_impl_ValidBars_27_r : vc2 C (n + 1) [] (.code c_impl_ValidBars_27 :: sk) e h R = (vc2 C n [] (.code c_impl_ValidBars_24 :: .code c_impl_ValidBars_26 :: sk) e h R) := nr rfl
@[simp, simp ↓] theorem c_impl_ValidBars_28_r : vc2 C (n + 1) [] (.code c_impl_ValidBars_28 :: sk) e h R = (vc2 C n [] (.code c_impl_ValidBars_0 :: .code c_impl_ValidBars_27 :: sk) e h R) := nr rfl
end
noncomputable def c_impl_ValidBars_C (orc : Orc) : Cx := ⟨Try.prog, [4], 12, 52, [.tmp 2], orc⟩
@[simp] theorem c_impl_ValidBars_C_P (orc : Orc) : (c_impl_ValidBars_C orc).P = Try.prog := nr rfl
@[simp] theorem c_impl_ValidBars_C_o (orc : Orc) : (c_impl_ValidBars_C orc).orc = orc := nr rfl
@[simp] theorem c_impl_ValidBars_C_r (orc : Orc) : (c_impl_ValidBars_C orc).res = [.tmp 2] := nr rfl
theorem c_impl_ValidBars_of {args : List AV} {h : Heap} {R : AV → Heap → Prop} {k : Nat} (ha : args.length = k) {orc : Orc} (hp : Pure Try.prog orc) (hk : Is (c_impl_ValidBars_C orc) Try.f12 → Run2 (c_impl_ValidBars_C orc) [.code c_impl_ValidBars_28] (argEnv 0 args) h (Post R)) (hle : k ≤ 52 := by simp) : ACalls Try.prog 12 args h R :=
  contract2 [4] c_impl_ValidBars_28 [.tmp 2] Try.func12 (by decide +kernel) rfl (by kernel_rfl) (by rw [ha]; exact hle) (by kernel_rfl) hp hk
theorem c_impl_ValidBars_of0 {args : List AV} {h : Heap} {R : AV → Heap → Prop} {k : Nat} (ha : args.length = k) {orc : Orc} (hp : Pure Try.prog orc) (hk : Is (c_impl_ValidBars_C orc) Try.f12 → Run2 (c_impl_ValidBars_C orc) [.code c_impl_ValidBars_28] (argEnv 0 args) h R) (hle : k ≤ 52 := by simp) : ACalls Try.prog 12 args h R :=
  contract20 [4] c_impl_ValidBars_28 [.tmp 2] Try.func12 (by decide +kernel) rfl (by kernel_rfl) (by rw [ha]; exact hle) (by kernel_rfl) hp hk
theorem valid_c (l : List T) (h : Heap) (hl : l.length ≤ 1048576) (ok : ∀ t ∈ l, t.ok) : ACalls Try.prog 12 [.snap 3 (l.map T.av)] h (fun v h' => v = .bool (decide (validB l)) ∧ h' = h) := by
  refine c_impl_ValidBars_of0 rfl orc3_p fun I => ?_
  refine Run2.of I 1000 ?_
  simp -implicitDefEqProofs
  refine Run2.loop (fun i => [(0, .snap 3 (l.map T.av)), (5, .snap 3 (l.map T.av)), (6, .int .i64 l.length), (7, .int .i64 (i : Nat))]) (fun i => h) (fun i => l.length - i) (fun i => i ≤ l.length ∧ good l i) 0 ⟨Nat.zero_le _, fun _ _ h => absurd h (Nat.not_lt_zero _)⟩ fun i hi ih => ?_
  by_cases hlt : i < l.length
  · have hok := ok _ (List.getElem_mem hlt)
    have hbad := not_validB hlt
    have go := fun h1 => ih (i + 1) ⟨by omega, (good_succ hlt).2 ⟨hi.2, h1⟩⟩ (by omega)
    clear ih
    refine Run2.of I 1000 ?_
    cases i with
    | zero =>
      simp -implicitDefEqProofs [hlt]
      simp [T.el] at go hbad
      repeat' (first | refine And.intro ?_ ?_ | intro _)
      all_goals first | omega | (unfold in64; omega) | grind
    | succ i =>
      have hlt' : i < l.length := by omega
      have hc : ((i : Int) + 1 - 1).toNat = i := by omega
      simp -implicitDefEqProofs [hlt, hlt', hc, cmpB_pos]
      simp [T.el] at go hbad
      repeat' (first | refine And.intro ?_ ?_ | intro _)
      all_goals first | omega | (unfold in64; omega) | grind
  · obtain rfl : i = l.length := by omega
    refine Run2.of I 1000 ?_
    simp -implicitDefEqProofs
    simp [validB, hi.2]
    omega
noncomputable def o_l21List : List AV → Option (Prop × AV) := tab (fun (x : List T) => match x with | l => [.snap 3 (l.map T.av)]) (fun x => match x with | l => (l.length ≤ 1048576 ∧ okB l)) (fun x => match x with | l => .bool (decide (validB l)))
@[simp] theorem o_l21List_e (l : List T) : o_l21List [.snap 3 (l.map T.av)] = some ((l.length ≤ 1048576 ∧ okB l), .bool (decide (validB l))) := tab_at (enc := fun (x : List T) => match x with | l => [.snap 3 (l.map T.av)]) (fun x y h => by
  simp at h; simp [h]) _ _ l
theorem o_l21List_k : Knows Try.prog 27 o_l21List := tab_knows fun x hx h => by
  exact l21List_c x h hx.1 hx.2
noncomputable def o_valid : List AV → Option (Prop × AV) := tab (fun (x : List T) => match x with | l => [.snap 3 (l.map T.av)]) (fun x => match x with | l => (l.length ≤ 1048576 ∧ okB l)) (fun x => match x with | l => .bool (decide (validB l)))
@[simp] theorem o_valid_e (l : List T) : o_valid [.snap 3 (l.map T.av)] = some ((l.length ≤ 1048576 ∧ okB l), .bool (decide (validB l))) := tab_at (enc := fun (x : List T) => match x with | l => [.snap 3 (l.map T.av)]) (fun x y h => by
  simp at h; simp [h]) _ _ l
theorem o_valid_k : Knows Try.prog 12 o_valid := tab_knows fun x hx h => by
  exact valid_c x h hx.1 hx.2
noncomputable def orcV : List (Nat × (List AV → Option (Prop × AV))) := (27, o_l21List) :: (12, o_valid) :: orc3
theorem orcV_p : Pure Try.prog (lk orcV) := (lk_pure o_l21List_k (lk_pure o_valid_k orc3_p))
@[simp] theorem orcV_l (g : FuncId) (l : List AV) : lk orcV g l = if g = 27 then o_l21List l else if g = 12 then o_valid l else lk orc3 g l := nr rfl
end Go.AG
