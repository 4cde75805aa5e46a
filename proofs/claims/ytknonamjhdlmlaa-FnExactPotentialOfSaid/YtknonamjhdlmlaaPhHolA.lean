/- Sums along paths: what the program's and the reference's functions give. No statement is made here. -/
import Derived.Test.YtknonamjhdlmlaaPhC
namespace Go.AG
open Go.Proofs Go.Proofs.Ytknonamjhdlmlaa
set_option linter.unusedSimpArgs false
set_option linter.unusedVariables false
set_option maxRecDepth 4000
def T.joins (a b : Int) (t : T) : Bool := decide (t.f = a ∧ t.t = b) || decide (t.f = b ∧ t.t = a)
/-- The difference along an edge, if there is one. -/
def Ph.step (x : Ph) (a b : Int) : Option Int := (x.ts.find? (T.joins a b)).map fun t => if t.f = a ∧ t.t = b then t.s else x.m - t.s
def stepAV : Option Int → AV
  | some d => .tup [.int .i64 d, .bool true]
  | none => .tup [.int .i64 0, .bool false]
@[simp] theorem stepAV_s (d : Int) : stepAV (some d) = .tup [.int .i64 d, .bool true] := rfl
@[simp] theorem stepAV_n : stepAV none = .tup [.int .i64 0, .bool false] := rfl
theorem find_at {α : Type} {q : α → Bool} {l : List α} {i : Nat} (h : i < l.length) (hb : ∀ j (hj : j < l.length), j < i → q l[j] = false) (ht : q l[i] = true) : l.find? q = some l[i] := by
  rw [List.find?_eq_some_iff_getElem]
  exact ⟨ht, i, h, rfl, fun j hj => by simp [hb j (by omega) hj]⟩
theorem find_none {α : Type} {q : α → Bool} {l : List α} (hb : ∀ j (hj : j < l.length), q l[j] = false) : l.find? q = none := by
  rw [List.find?_eq_none]
  intro a ha
  obtain ⟨j, hj, rfl⟩ := List.mem_iff_getElem.1 ha
  simp [hb j hj]
theorem Ph.step_at {x : Ph} {a b : Int} {i : Nat} (h : i < x.ts.length) (hb : ∀ j (hj : j < x.ts.length), j < i → T.joins a b x.ts[j] = false) :
    (x.ts[i].f = a → x.ts[i].t = b → x.step a b = some x.ts[i].s) ∧ (¬ (x.ts[i].f = a ∧ x.ts[i].t = b) → x.ts[i].f = b → x.ts[i].t = a → x.step a b = some (x.m - x.ts[i].s)) := by
  unfold Ph.step
  constructor
  · intro h1 h2
    rw [find_at h hb (by simp [T.joins, h1, h2])]
    simp [h1, h2]
  · intro h0 h1 h2
    rw [find_at h hb (by simp [T.joins, h1, h2])]
    simp only [Option.map_some, if_neg h0]
theorem Ph.step_none {x : Ph} {a b : Int} (hb : ∀ j (hj : j < x.ts.length), T.joins a b x.ts[j] = false) : x.step a b = none := by
  unfold Ph.step
  rw [find_none hb]; rfl
theorem upto_succ {P : Nat → Prop} {i : Nat} (h : ∀ j, j < i → P j) (hi : P i) : ∀ j, j < i + 1 → P j := fun j hj => by
  rcases Nat.lt_or_ge j i with h' | h'
  · exact h j h'
  · obtain rfl : j = i := by omega
    exact hi
abbrev c_spec_l23Step_o0 : List AJ := [.o ⟨(some 6), none, false, .mv (.c (.int .i64 0)), none⟩, .o ⟨(some 7), none, false, .mv (.c (.bool false)), (some [0, 1, 2])⟩]
def c_spec_l23Step_0 : ACode := .region c_spec_l23Step_o0
abbrev c_spec_l23Step_o1 : List AJ := [.o ⟨(some 8), none, false, .mv (.c (.int .i64 0)), (some [0, 1, 2, 8])⟩]
def c_spec_l23Step_1 : ACode := .region c_spec_l23Step_o1
abbrev c_spec_l23Step_o2 : List AJ := [.o ⟨(some 10), none, false, .mv (.t 8), none⟩, .o ⟨(some 11), none, false, .mv (.t 0), none⟩, .o ⟨(some 12), none, false, .nilchk (.t 11), none⟩, .o ⟨(some 13), none, false, .fieldA 2 (.t 12), none⟩, .o ⟨(some 14), none, false, .load 1 false (.t 13), none⟩, .o ⟨(some 15), none, false, .len (.t 14), none⟩, .o ⟨(some 16), none, false, .bin .lss (.t 10) (.t 15), (some [0, 1, 2, 8, 16])⟩]
def c_spec_l23Step_2 : ACode := .region c_spec_l23Step_o2
def c_spec_l23Step_3 : ACode := .cond (.t 16) .skip (.exit 0)
def c_spec_l23Step_4 : ACode := .seq c_spec_l23Step_2 c_spec_l23Step_3
abbrev c_spec_l23Step_o3 : List AJ := [.o ⟨(some 19), none, false, .mv (.t 0), none⟩, .o ⟨(some 20), none, false, .nilchk (.t 19), none⟩, .o ⟨(some 21), none, false, .fieldA 2 (.t 20), none⟩, .o ⟨(some 22), none, false, .load 1 false (.t 21), none⟩, .o ⟨(some 23), none, false, .mv (.t 8), none⟩, .o ⟨(some 24), none, false, .idxA 3 (.t 22) (.t 23), none⟩, .o ⟨(some 25), none, false, .load 3 true (.t 24), none⟩, .v 9 3 (.agg [(.int .i64 0), (.int .i64 0), (.int .i64 0)]) [] (.t 25) (some [0, 1, 2, 8, 9])]
def c_spec_l23Step_5 : ACode := .region c_spec_l23Step_o3
abbrev c_spec_l23Step_o4 : List AJ := [.o ⟨(some 26), none, false, .fieldA 0 (.t 9), none⟩, .o ⟨(some 27), none, false, .load 1 false (.t 26), none⟩, .o ⟨(some 28), none, false, .mv (.t 1), none⟩, .o ⟨(some 29), none, false, .bin .eql (.t 27) (.t 28), none⟩, .o ⟨(some 30), none, false, .mv (.t 29), none⟩, .o ⟨(some 31), (some (30, true)), false, .fieldA 1 (.t 9), none⟩, .o ⟨(some 32), (some (30, true)), false, .load 1 false (.t 31), none⟩, .o ⟨(some 33), (some (30, true)), false, .mv (.t 2), none⟩, .o ⟨(some 34), (some (30, true)), false, .bin .eql (.t 32) (.t 33), none⟩, .o ⟨(some 35), none, false, .pick (.t 30) (.t 34) (.c (.bool false)), (some [0, 1, 2, 8, 9, 35])⟩]
def c_spec_l23Step_6 : ACode := .region c_spec_l23Step_o4
abbrev c_spec_l23Step_o5 : List AJ := [.o ⟨(some 36), none, false, .fieldA 2 (.t 9), none⟩, .o ⟨(some 37), none, false, .load 1 false (.t 36), none⟩, .o ⟨(some 6), none, false, .mv (.t 37), none⟩, .o ⟨(some 7), none, false, .mv (.c (.bool true)), (some [6, 7])⟩]
def c_spec_l23Step_7 : ACode := .region c_spec_l23Step_o5
def c_spec_l23Step_8 : ACode := .seq c_spec_l23Step_7 .ret
def c_spec_l23Step_9 : ACode := .cond (.t 35) c_spec_l23Step_8 .skip
def c_spec_l23Step_10 : ACode := .seq c_spec_l23Step_6 c_spec_l23Step_9
abbrev c_spec_l23Step_o6 : List AJ := [.o ⟨(some 38), none, false, .fieldA 0 (.t 9), none⟩, .o ⟨(some 39), none, false, .load 1 false (.t 38), none⟩, .o ⟨(some 40), none, false, .mv (.t 2), none⟩, .o ⟨(some 41), none, false, .bin .eql (.t 39) (.t 40), none⟩, .o ⟨(some 42), none, false, .mv (.t 41), none⟩, .o ⟨(some 43), (some (42, true)), false, .fieldA 1 (.t 9), none⟩, .o ⟨(some 44), (some (42, true)), false, .load 1 false (.t 43), none⟩, .o ⟨(some 45), (some (42, true)), false, .mv (.t 1), none⟩, .o ⟨(some 46), (some (42, true)), false, .bin .eql (.t 44) (.t 45), none⟩, .o ⟨(some 47), none, false, .pick (.t 42) (.t 46) (.c (.bool false)), (some [0, 1, 2, 8, 9, 47])⟩]
def c_spec_l23Step_11 : ACode := .region c_spec_l23Step_o6
abbrev c_spec_l23Step_o7 : List AI := [⟨(some 48), none, false, .mv (.t 0), none⟩, ⟨(some 49), none, false, .nilchk (.t 48), none⟩, ⟨(some 50), none, false, .fieldA 1 (.t 49), none⟩, ⟨(some 51), none, false, .load 1 false (.t 50), none⟩, ⟨(some 52), none, false, .fieldA 2 (.t 9), none⟩, ⟨(some 53), none, false, .load 1 false (.t 52), none⟩, ⟨(some 54), none, true, .bin .sub (.t 51) (.t 53), none⟩, ⟨(some 55), none, false, .mv (.t 0), none⟩, ⟨(some 56), none, false, .nilchk (.t 55), none⟩, ⟨(some 57), none, false, .fieldA 1 (.t 56), none⟩, ⟨(some 58), none, false, .load 1 false (.t 57), none⟩, ⟨(some 59), none, false, .bin .rem (.t 54) (.t 58), none⟩, ⟨(some 6), none, false, .mv (.t 59), none⟩, ⟨(some 7), none, false, .mv (.c (.bool true)), (some [6, 7])⟩]
def c_spec_l23Step_12 : ACode := .draw c_spec_l23Step_o7 [] rfl
def c_spec_l23Step_13 : ACode := .seq c_spec_l23Step_12 .ret
def c_spec_l23Step_14 : ACode := .cond (.t 47) c_spec_l23Step_13 .skip
def c_spec_l23Step_15 : ACode := .seq c_spec_l23Step_11 c_spec_l23Step_14
def c_spec_l23Step_16 : ACode := .seq c_spec_l23Step_10 c_spec_l23Step_15
def c_spec_l23Step_17 : ACode := .seq c_spec_l23Step_5 c_spec_l23Step_16
def c_spec_l23Step_18 : ACode := .block 1 c_spec_l23Step_17
abbrev c_spec_l23Step_o8 : List AJ := [.o ⟨(some 17), none, false, .mv (.t 8), none⟩, .o ⟨(some 18), none, true, .bin .add (.t 17) (.c (.int .i64 1)), none⟩, .o ⟨(some 8), none, false, .mv (.t 18), (some [0, 1, 2, 8])⟩]
def c_spec_l23Step_19 : ACode := .region c_spec_l23Step_o8
def c_spec_l23Step_20 : ACode := .seq c_spec_l23Step_18 c_spec_l23Step_19
def c_spec_l23Step_21 : ACode := .seq c_spec_l23Step_4 c_spec_l23Step_20
def c_spec_l23Step_22 : ACode := .loop c_spec_l23Step_21
def c_spec_l23Step_23 : ACode := .block 0 c_spec_l23Step_22
def c_spec_l23Step_24 : ACode := .seq c_spec_l23Step_1 c_spec_l23Step_23
abbrev c_spec_l23Step_o9 : List AJ := [.o ⟨(some 6), none, false, .mv (.c (.int .i64 0)), none⟩, .o ⟨(some 7), none, false, .mv (.c (.bool false)), (some [6, 7])⟩]
def c_spec_l23Step_25 : ACode := .region c_spec_l23Step_o9
def c_spec_l23Step_26 : ACode := .seq c_spec_l23Step_25 .ret
def c_spec_l23Step_27 : ACode := .seq c_spec_l23Step_24 c_spec_l23Step_26
def c_spec_l23Step_28 : ACode := .seq c_spec_l23Step_0 c_spec_l23Step_27
section
variable (C : Cx) (n : Nat) (sk : List AItem) (e : Env) (h : Heap) (R : AV → Heap → Prop)
@[simp, simp ↓] theorem c_spec_l23Step_0_r : vc2 C (n + 1) [] (.code c_spec_l23Step_0 :: sk) e h R = (vc2 C n c_spec_l23Step_o0 sk e h R) := nr rfl
@[simp, simp ↓] theorem c_spec_l23Step_1_r : vc2 C (n + 1) [] (.code c_spec_l23Step_1 :: sk) e h R = (vc2 C n c_spec_l23Step_o1 sk e h R) := nr rfl
@[simp, simp ↓] theorem c_spec_l23Step_2_r : vc2 C (n + 1) [] (.code c_spec_l23Step_2 :: sk) e h R = (vc2 C n c_spec_l23Step_o2 sk e h R) := nr rfl
@[simp, simp ↓] theorem c_spec_l23Step_3_r : vc2 C (n + 1) [] (.code c_spec_l23Step_3 :: sk) e h R = (condK (ev e (.t 16)) (vc2 C n [] (.code .skip :: sk) e h R) (vc2 C n [] (.code (.exit 0) :: sk) e h R)) := nr rfl
@[simp, simp ↓] theorem c_spec_l23Step_4_r : vc2 C (n + 1) [] (.code c_spec_l23Step_4 :: sk) e h R = (vc2 C n [] (.code c_spec_l23Step_2 :: .code c_spec_l23Step_3 :: sk) e h R) := nr rfl
@[simp, simp ↓] theorem c_spec_l23Step_5_r : vc2 C (n + 1) [] (.code c_spec_l23Step_5 :: sk) e h R = (vc2 C n c_spec_l23Step_o3 sk e h R) := nr rfl
@[simp, simp ↓] theorem c_spec_l23Step_6_r : vc2 C (n + 1) [] (.code c_spec_l23Step_6 :: sk) e h R = (vc2 C n c_spec_l23Step_o4 sk e h R) := nr rfl
@[simp, simp ↓] theorem c_spec_l23Step_7_r : vc2 C (n + 1) [] (.code c_spec_l23Step_7 :: sk) e h R = (vc2 C n c_spec_l23Step_o5 sk e h R) := nr rfl
@[simp, simp ↓] theorem c_spec_l23Step_8_r : vc2 C (n + 1) [] (.code c_spec_l23Step_8 :: sk) e h R = (vc2 C n [] (.code c_spec_l23Step_7 :: .code .ret :: sk) e h R) := nr rfl
@[simp, simp ↓] theorem c_spec_l23Step_9_r : vc2 C (n + 1) [] (.code c_spec_l23Step_9 :: sk) e h R = (condK (ev e (.t 35)) (vc2 C n [] (.code c_spec_l23Step_8 :: sk) e h R) (vc2 C n [] (.code .skip :: sk) e h R)) := nr rfl
@[simp, simp ↓] theorem c_spec_l23Step_10_r : vc2 C (n + 1) [] (.code c_spec_l23Step_10 :: sk) e h R = (vc2 C n [] (.code c_spec_l23Step_6 :: .code c_spec_l23Step_9 :: sk) e h R) := nr rfl
@[simp, simp ↓] theorem c_spec_l23Step_11_r : vc2 C (n + 1) [] (.code c_spec_l23Step_11 :: sk) e h R = (vc2 C n c_spec_l23Step_o6 sk e h R) := nr rfl
@[simp, simp ↓] theorem c_spec_l23Step_12_r : vc2 C (n + 1) [] (.code c_spec_l23Step_12 :: sk) e h R = (draw2 C h (vK C n [] sk R h) c_spec_l23Step_o7 e) := nr rfl
@[simp, simp ↓] theorem c_spec_l23Step_13_r : vc2 C (n + 1) [] (.code c_spec_l23Step_13 :: sk) e h R = (vc2 C n [] (.code c_spec_l23Step_12 :: .code .ret :: sk) e h R) := nr rfl
@[simp, simp ↓] theorem c_spec_l23Step_14_r : vc2 C (n + 1) [] (.code c_spec_l23Step_14 :: sk) e h R = (condK (ev e (.t 47)) (vc2 C n [] (.code c_spec_l23Step_13 :: sk) e h R) (vc2 C n [] (.code .skip :: sk) e h R)) := nr rfl
@[simp, simp ↓] theorem c_spec_l23Step_15_r : vc2 C (n + 1) [] (.code c_spec_l23Step_15 :: sk) e h R = (vc2 C n [] (.code c_spec_l23Step_11 :: .code c_spec_l23Step_14 :: sk) e h R) := nr rfl
@[simp, simp ↓] theorem c_spec_l23Step_16_r : vc2 C (n + 1) [] (.code c_spec_l23Step_16 :: sk) e h R = (vc2 C n [] (.code c_spec_l23Step_10 :: .code c_spec_l23Step_15 :: sk) e h R) := nr rfl
@[simp, simp ↓] theorem c_spec_l23Step_17_r : vc2 C (n + 1) [] (.code c_spec_l23Step_17 :: sk) e h R = (vc2 C n [] (.code c_spec_l23Step_5 :: .code c_spec_l23Step_16 :: sk) e h R) := nr rfl
@[simp, simp ↓] theorem c_spec_l23Step_18_r : vc2 C (n + 1) [] (.code c_spec_l23Step_18 :: sk) e h R = (vc2 C n [] (.code c_spec_l23Step_17 :: .inBlock 1 :: sk) e h R) := nr rfl
@[simp, simp ↓] theorem c_spec_l23Step_19_r : vc2 C (n + 1) [] (.code c_spec_l23Step_19 :: sk) e h R = (vc2 C n c_spec_l23Step_o8 sk e h R) := nr rfl
@[simp, simp ↓] theorem c_spec_l23Step_20_r : vc2 C (n + 1) [] (.code c_spec_l23Step_20 :: sk) e h R = (vc2 C n [] (.code c_spec_l23Step_18 :: .code c_spec_l23Step_19 :: sk) e h R) := nr rfl
@[simp, simp ↓] theorem c_spec_l23Step_21_r : vc2 C (n + 1) [] (.code c_spec_l23Step_21 :: sk) e h R = (vc2 C n [] (.code c_spec_l23Step_4 :: .code c_spec_l23Step_20 :: sk) e h R) := nr rfl
@[simp, simp ↓] theorem c_spec_l23Step_22_r : vc2 C (n + 1) [] (.code c_spec_l23Step_22 :: sk) e h R = (Run2 C (.code c_spec_l23Step_21 :: .inLoop c_spec_l23Step_21 :: sk) e h R) := nr rfl
@[simp, simp ↓] theorem c_spec_l23Step_23_r : vc2 C (n + 1) [] (.code c_spec_l23Step_23 :: sk) e h R = (vc2 C n [] (.code c_spec_l23Step_22 :: .inBlock 0 :: sk) e h R) := nr rfl
@[simp, simp ↓] theorem c_spec_l23Step_24_r : vc2 C (n + 1) [] (.code c_spec_l23Step_24 :: sk) e h R = (vc2 C n [] (.code c_spec_l23Step_1 :: .code c_spec_l23Step_23 :: sk) e h R) := nr rfl
@[simp, simp ↓] theorem c_spec_l23Step_25_r : vc2 C (n + 1) [] (.code c_spec_l23Step_25 :: sk) e h R = (vc2 C n c_spec_l23Step_o9 sk e h R) := nr rfl
@[simp, simp ↓] theorem c_spec_l23Step_26_r : vc2 C (n + 1) [] (.code c_spec_l23Step_26 :: sk) e h R = (vc2 C n [] (.code c_spec_l23Step_25 :: .code .ret :: sk) e h R) := nr rfl
@[simp, simp ↓] theorem c_spec_l23Step_27_r : vc2 C (n + 1) [] (.code c_spec_l23Step_27 :: sk) e h R = (vc2 C n [] (.code c_spec_l23Step_24 :: .code c_spec_l23Step_26 :: sk) e h R) := nr rfl
@[simp, simp ↓] theorem c_spec_l23Step_28_r : vc2 C (n + 1) [] (.code c_spec_l23Step_28 :: sk) e h R = (vc2 C n [] (.code c_spec_l23Step_0 :: .code c_spec_l23Step_27 :: sk) e h R) := nr rfl
end
noncomputable def c_spec_l23Step_C (orc : Orc) : Cx := ⟨Try.prog, [9], 89, 60, [.tmp 6, .tmp 7], orc⟩
@[simp] theorem c_spec_l23Step_C_P (orc : Orc) : (c_spec_l23Step_C orc).P = Try.prog := nr rfl
@[simp] theorem c_spec_l23Step_C_o (orc : Orc) : (c_spec_l23Step_C orc).orc = orc := nr rfl
@[simp] theorem c_spec_l23Step_C_r (orc : Orc) : (c_spec_l23Step_C orc).res = [.tmp 6, .tmp 7] := nr rfl
theorem c_spec_l23Step_of {args : List AV} {h : Heap} {R : AV → Heap → Prop} {k : Nat} (ha : args.length = k) {orc : Orc} (hp : Pure Try.prog orc) (hk : Is (c_spec_l23Step_C orc) Try.f89 → Run2 (c_spec_l23Step_C orc) [.code c_spec_l23Step_28] (argEnv 0 args) h (Post R)) (hle : k ≤ 60 := by simp) : ACalls Try.prog 89 args h R :=
  contract2 [9] c_spec_l23Step_28 [.tmp 6, .tmp 7] Try.func89 (by decide +kernel) rfl (by kernel_rfl) (by rw [ha]; exact hle) (by kernel_rfl) hp hk
theorem c_spec_l23Step_of0 {args : List AV} {h : Heap} {R : AV → Heap → Prop} {k : Nat} (ha : args.length = k) {orc : Orc} (hp : Pure Try.prog orc) (hk : Is (c_spec_l23Step_C orc) Try.f89 → Run2 (c_spec_l23Step_C orc) [.code c_spec_l23Step_28] (argEnv 0 args) h R) (hle : k ≤ 60 := by simp) : ACalls Try.prog 89 args h R :=
  contract20 [9] c_spec_l23Step_28 [.tmp 6, .tmp 7] Try.func89 (by decide +kernel) rfl (by kernel_rfl) (by rw [ha]; exact hle) (by kernel_rfl) hp hk
theorem l23Step_c (x : Ph) (a b : Int) (h : Heap) (hv : x.valid) : ACalls Try.prog 89 [.ip [.int .i64 x.n, .int .i64 x.m, .snap 3 (x.ts.map T.av)], .int .i64 a, .int .i64 b] h (fun v h' => v = stepAV ((x.step a b).map (· % x.m)) ∧ h' = h) := by
  have hm1 := hv.2.2.1
  have hm2 := hv.2.2.2.1
  have hl := hv.2.2.2.2.2
  refine c_spec_l23Step_of0 rfl noPure fun I => ?_
  refine Run2.of I 1000 ?_
  simp -implicitDefEqProofs
  refine Run2.loopE (fun i => [(0, .ip [.int .i64 x.n, .int .i64 x.m, .snap 3 (x.ts.map T.av)]), (1, .int .i64 a), (2, .int .i64 b), (8, .int .i64 (i : Nat))]) (fun i => h) (fun i => x.ts.length - i) (fun i => i ≤ x.ts.length ∧ ∀ j, j < i → (hj : j < x.ts.length) → T.joins a b x.ts[j] = false) 0 (by simp) rfl (by simp) fun i hi ih => ?_
  by_cases hlt : i < x.ts.length
  · obtain ⟨e1, e2, e3, e4, e5⟩ := Ph.edge hv hlt
    obtain ⟨s1, s2⟩ := Ph.step_at (a := a) (b := b) hlt fun j hj hji => hi.2 j hji hj
    have go := fun (h1 : T.joins a b x.ts[i] = false) => ih (i + 1) ⟨by omega, upto_succ hi.2 fun _ => h1⟩ (by omega)
    have hs := Int.emod_eq_of_lt e4 e5
    have ht : (x.m - x.ts[i].s).tmod x.m = (x.m - x.ts[i].s) % x.m := Int.tmod_eq_emod_of_nonneg (by omega)
    clear ih
    refine Run2.of I 1000 ?_
    simp -implicitDefEqProofs [hlt, ht]
    simp [T.joins] at go
    repeat' (first | refine And.intro ?_ ?_ | intro _)
    all_goals first | omega | exact go (by omega) (by omega) | (rw [s1 (by omega) (by omega)]; simp [*]; done) | (rw [s2 (by omega) (by omega) (by omega)]; simp [*]; done)
  · obtain rfl : i = x.ts.length := by omega
    have := Ph.step_none (x := x) (a := a) (b := b) fun j hj => hi.2 j hj hj
    refine Run2.of I 1000 ?_
    simp -implicitDefEqProofs [this]
abbrev c_impl_shiftBetween_o0 : List AJ := [.o ⟨(some 3), none, false, .box false 3 (.t 0), none⟩, .o ⟨(some 6), none, false, .mv (.c (.int .i64 0)), none⟩, .o ⟨(some 7), none, false, .mv (.c (.bool false)), (some [1, 2, 3])⟩]
def c_impl_shiftBetween_0 : ACode := .region c_impl_shiftBetween_o0
abbrev c_impl_shiftBetween_o1 : List AJ := [.o ⟨(some 10), none, false, .fieldA 2 (.t 3), none⟩, .o ⟨(some 11), none, false, .load 1 false (.t 10), none⟩, .o ⟨(some 12), none, false, .len (.t 11), none⟩, .o ⟨(some 13), none, false, .mv (.c (.int .i64 0)), (some [1, 2, 3, 11, 12, 13])⟩]
def c_impl_shiftBetween_1 : ACode := .region c_impl_shiftBetween_o1
abbrev c_impl_shiftBetween_o2 : List AJ := [.o ⟨(some 14), none, false, .bin .lss (.t 13) (.t 12), (some [1, 2, 3, 11, 12, 13, 14])⟩]
def c_impl_shiftBetween_2 : ACode := .region c_impl_shiftBetween_o2
def c_impl_shiftBetween_3 : ACode := .cond (.t 14) .skip (.exit 0)
abbrev c_impl_shiftBetween_o3 : List AJ := [.o ⟨(some 15), none, false, .idxA 3 (.t 11) (.t 13), none⟩, .o ⟨(some 16), none, false, .load 3 true (.t 15), none⟩, .v 9 3 (.agg [(.int .i64 0), (.int .i64 0), (.int .i64 0)]) [] (.t 16) (some [1, 2, 3, 9, 11, 12, 13])]
def c_impl_shiftBetween_4 : ACode := .region c_impl_shiftBetween_o3
abbrev c_impl_shiftBetween_o4 : List AJ := [.o ⟨(some 18), none, false, .fieldA 0 (.t 9), none⟩, .o ⟨(some 19), none, false, .load 1 false (.t 18), none⟩, .o ⟨(some 20), none, false, .mv (.t 1), none⟩, .o ⟨(some 21), none, false, .bin .eql (.t 19) (.t 20), none⟩, .o ⟨(some 22), none, false, .mv (.t 21), none⟩, .o ⟨(some 23), (some (22, true)), false, .fieldA 1 (.t 9), none⟩, .o ⟨(some 24), (some (22, true)), false, .load 1 false (.t 23), none⟩, .o ⟨(some 25), (some (22, true)), false, .mv (.t 2), none⟩, .o ⟨(some 26), (some (22, true)), false, .bin .eql (.t 24) (.t 25), none⟩, .o ⟨(some 27), none, false, .pick (.t 22) (.t 26) (.c (.bool false)), (some [1, 2, 3, 9, 11, 12, 13, 27])⟩, .o ⟨(some 17), none, false, .mv (.t 27), (some [1, 2, 3, 9, 11, 12, 13, 17])⟩]
def c_impl_shiftBetween_5 : ACode := .region c_impl_shiftBetween_o4
abbrev c_impl_shiftBetween_o5 : List AJ := [.o ⟨(some 28), none, false, .fieldA 2 (.t 9), none⟩, .o ⟨(some 29), none, false, .load 1 false (.t 28), none⟩, .o ⟨(some 6), none, false, .mv (.t 29), none⟩, .o ⟨(some 7), none, false, .mv (.c (.bool true)), (some [6, 7])⟩]
def c_impl_shiftBetween_6 : ACode := .region c_impl_shiftBetween_o5
def c_impl_shiftBetween_7 : ACode := .seq c_impl_shiftBetween_6 .ret
abbrev c_impl_shiftBetween_o6 : List AJ := [.o ⟨(some 31), none, false, .fieldA 0 (.t 9), none⟩, .o ⟨(some 32), none, false, .load 1 false (.t 31), none⟩, .o ⟨(some 33), none, false, .mv (.t 2), none⟩, .o ⟨(some 34), none, false, .bin .eql (.t 32) (.t 33), none⟩, .o ⟨(some 35), none, false, .mv (.t 34), none⟩, .o ⟨(some 36), (some (35, true)), false, .fieldA 1 (.t 9), none⟩, .o ⟨(some 37), (some (35, true)), false, .load 1 false (.t 36), none⟩, .o ⟨(some 38), (some (35, true)), false, .mv (.t 1), none⟩, .o ⟨(some 39), (some (35, true)), false, .bin .eql (.t 37) (.t 38), none⟩, .o ⟨(some 40), none, false, .pick (.t 35) (.t 39) (.c (.bool false)), (some [1, 2, 3, 9, 11, 12, 13, 40])⟩, .o ⟨(some 30), none, false, .mv (.t 40), (some [1, 2, 3, 9, 11, 12, 13, 30])⟩]
def c_impl_shiftBetween_8 : ACode := .region c_impl_shiftBetween_o6
abbrev c_impl_shiftBetween_o7 : List AJ := [.o ⟨(some 41), none, false, .fieldA 1 (.t 3), none⟩, .o ⟨(some 42), none, false, .load 1 false (.t 41), none⟩, .o ⟨(some 43), none, false, .fieldA 2 (.t 9), none⟩, .o ⟨(some 44), none, false, .load 1 false (.t 43), none⟩, .o ⟨(some 45), none, true, .bin .sub (.t 42) (.t 44), none⟩, .o ⟨(some 6), none, false, .mv (.t 45), none⟩, .o ⟨(some 7), none, false, .mv (.c (.bool true)), (some [6, 7])⟩]
def c_impl_shiftBetween_9 : ACode := .region c_impl_shiftBetween_o7
def c_impl_shiftBetween_10 : ACode := .seq c_impl_shiftBetween_9 .ret
def c_impl_shiftBetween_11 : ACode := .cond (.t 30) c_impl_shiftBetween_10 .skip
def c_impl_shiftBetween_12 : ACode := .seq c_impl_shiftBetween_8 c_impl_shiftBetween_11
def c_impl_shiftBetween_13 : ACode := .cond (.t 17) c_impl_shiftBetween_7 c_impl_shiftBetween_12
def c_impl_shiftBetween_14 : ACode := .seq c_impl_shiftBetween_5 c_impl_shiftBetween_13
def c_impl_shiftBetween_15 : ACode := .block 2 c_impl_shiftBetween_14
def c_impl_shiftBetween_16 : ACode := .seq c_impl_shiftBetween_4 c_impl_shiftBetween_15
def c_impl_shiftBetween_17 : ACode := .block 1 c_impl_shiftBetween_16
abbrev c_impl_shiftBetween_o8 : List AJ := [.o ⟨(some 46), none, true, .bin .add (.t 13) (.c (.int .i64 1)), none⟩, .o ⟨(some 13), none, false, .mv (.t 46), (some [1, 2, 3, 11, 12, 13])⟩]
def c_impl_shiftBetween_18 : ACode := .region c_impl_shiftBetween_o8
def c_impl_shiftBetween_19 : ACode := .seq c_impl_shiftBetween_17 c_impl_shiftBetween_18
def c_impl_shiftBetween_20 : ACode := .seq c_impl_shiftBetween_3 c_impl_shiftBetween_19
def c_impl_shiftBetween_21 : ACode := .seq c_impl_shiftBetween_2 c_impl_shiftBetween_20
def c_impl_shiftBetween_22 : ACode := .loop c_impl_shiftBetween_21
def c_impl_shiftBetween_23 : ACode := .block 0 c_impl_shiftBetween_22
def c_impl_shiftBetween_24 : ACode := .seq c_impl_shiftBetween_1 c_impl_shiftBetween_23
abbrev c_impl_shiftBetween_o9 : List AJ := [.o ⟨(some 6), none, false, .mv (.c (.int .i64 0)), none⟩, .o ⟨(some 7), none, false, .mv (.c (.bool false)), (some [6, 7])⟩]
def c_impl_shiftBetween_25 : ACode := .region c_impl_shiftBetween_o9
def c_impl_shiftBetween_26 : ACode := .seq c_impl_shiftBetween_25 .ret
def c_impl_shiftBetween_27 : ACode := .seq c_impl_shiftBetween_24 c_impl_shiftBetween_26
def c_impl_shiftBetween_28 : ACode := .seq c_impl_shiftBetween_0 c_impl_shiftBetween_27
section
variable (C : Cx) (n : Nat) (sk : List AItem) (e : Env) (h : Heap) (R : AV → Heap → Prop)
@[simp, simp ↓] theorem c_impl_shiftBetween_0_r : vc2 C (n + 1) [] (.code c_impl_shiftBetween_0 :: sk) e h R = (vc2 C n c_impl_shiftBetween_o0 sk e h R) := nr rfl
@[simp, simp ↓] theorem c_impl_shiftBetween_1_r : vc2 C (n + 1) [] (.code c_impl_shiftBetween_1 :: sk) e h R = (vc2 C n c_impl_shiftBetween_o1 sk e h R) := nr rfl
@[simp, simp ↓] theorem c_impl_shiftBetween_2_r : vc2 C (n + 1) [] (.code c_impl_shiftBetween_2 :: sk) e h R = (vc2 C n c_impl_shiftBetween_o2 sk e h R) := nr rfl
@[simp, simp ↓] theorem c_impl_shiftBetween_3_r : vc2 C (n + 1) [] (.code c_impl_shiftBetween_3 :: sk) e h R = (condK (ev e (.t 14)) (vc2 C n [] (.code .skip :: sk) e h R) (vc2 C n [] (.code (.exit 0) :: sk) e h R)) := nr rfl
@[simp, simp ↓] theorem c_impl_shiftBetween_4_r : vc2 C (n + 1) [] (.code c_impl_shiftBetween_4 :: sk) e h R = (vc2 C n c_impl_shiftBetween_o3 sk e h R) := nr rfl
@[simp, simp ↓] theorem c_impl_shiftBetween_5_r : vc2 C (n + 1) [] (.code c_impl_shiftBetween_5 :: sk) e h R = (vc2 C n c_impl_shiftBetween_o4 sk e h R) := nr rfl
@[simp, simp ↓] theorem c_impl_shiftBetween_6_r : vc2 C (n + 1) [] (.code c_impl_shiftBetween_6 :: sk) e h R = (vc2 C n c_impl_shiftBetween_o5 sk e h R) := nr rfl
@[simp, simp ↓] theorem c_impl_shiftBetween_7_r : vc2 C (n + 1) [] (.code c_impl_shiftBetween_7 :: sk) e h R = (vc2 C n [] (.code c_impl_shiftBetween_6 :: .code .ret :: sk) e h R) := nr rfl
@[simp, simp ↓] theorem c_impl_shiftBetween_8_r : vc2 C (n + 1) [] (.code c_impl_shiftBetween_8 :: sk) e h R = (vc2 C n c_impl_shiftBetween_o6 sk e h R) := nr rfl
@[simp, simp ↓] theorem c_impl_shiftBetween_9_r : vc2 C (n + 1) [] (.code c_impl_shiftBetween_9 :: sk) e h R = (vc2 C n c_impl_shiftBetween_o7 sk e h R) := nr rfl
@[simp, simp ↓] theorem c_impl_shiftBetween_10_r : vc2 C (n + 1) [] (.code c_impl_shiftBetween_10 :: sk) e h R = (vc2 C n [] (.code c_impl_shiftBetween_9 :: .code .ret :: sk) e h R) := nr rfl
@[simp, simp ↓] theorem c_impl_shiftBetween_11_r : vc2 C (n + 1) [] (.code c_impl_shiftBetween_11 :: sk) e h R = (condK (ev e (.t 30)) (vc2 C n [] (.code c_impl_shiftBetween_10 :: sk) e h R) (vc2 C n [] (.code .skip :: sk) e h R)) := nr rfl
@[simp, simp ↓] theorem c_impl_shiftBetween_12_r : vc2 C (n + 1) [] (.code c_impl_shiftBetween_12 :: sk) e h R = (vc2 C n [] (.code c_impl_shiftBetween_8 :: .code c_impl_shiftBetween_11 :: sk) e h R) := nr rfl
@[simp, simp ↓] theorem c_impl_shiftBetween_13_r : vc2 C (n + 1) [] (.code c_impl_shiftBetween_13 :: sk) e h R = (condK (ev e (.t 17)) (vc2 C n [] (.code c_impl_shiftBetween_7 :: sk) e h R) (vc2 C n [] (.code c_impl_shiftBetween_12 :: sk) e h R)) := nr rfl
@[simp, simp ↓] theorem c_impl_shiftBetween_14_r : vc2 C (n + 1) [] (.code c_impl_shiftBetween_14 :: sk) e h R = (vc2 C n [] (.code c_impl_shiftBetween_5 :: .code c_impl_shiftBetween_13 :: sk) e h R) := nr rfl
@[simp, simp ↓] theorem c_impl_shiftBetween_15_r : vc2 C (n + 1) [] (.code c_impl_shiftBetween_15 :: sk) e h R = (vc2 C n [] (.code c_impl_shiftBetween_14 :: .inBlock 2 :: sk) e h R) := nr rfl
@[simp, simp ↓] theorem c_impl_shiftBetween_16_r : vc2 C (n + 1) [] (.code c_impl_shiftBetween_16 :: sk) e h R = (vc2 C n [] (.code c_impl_shiftBetween_4 :: .code c_impl_shiftBetween_15 :: sk) e h R) := nr rfl
@[simp, simp ↓] theorem c_impl_shiftBetween_17_r : vc2 C (n + 1) [] (.code c_impl_shiftBetween_17 :: sk) e h R = (vc2 C n [] (.code c_impl_shiftBetween_16 :: .inBlock 1 :: sk) e h R) := nr rfl
@[simp, simp ↓] theorem c_impl_shiftBetween_18_r : vc2 C (n + 1) [] (.code c_impl_shiftBetween_18 :: sk) e h R = (vc2 C n c_impl_shiftBetween_o8 sk e h R) := nr rfl
@[simp, simp ↓] theorem c_impl_shiftBetween_19_r : vc2 C (n + 1) [] (.code c_impl_shiftBetween_19 :: sk) e h R = (vc2 C n [] (.code c_impl_shiftBetween_17 :: .code c_impl_shiftBetween_18 :: sk) e h R) := nr rfl
@[simp, simp ↓] theorem c_impl_shiftBetween_20_r : vc2 C (n + 1) [] (.code c_impl_shiftBetween_20 :: sk) e h R = (vc2 C n [] (.code c_impl_shiftBetween_3 :: .code c_impl_shiftBetween_19 :: sk) e h R) := nr rfl
@[simp, simp ↓] theorem c_impl_shiftBetween_21_r : vc2 C (n + 1) [] (.code c_impl_shiftBetween_21 :: sk) e h R = (vc2 C n [] (.code c_impl_shiftBetween_2 :: .code c_impl_shiftBetween_20 :: sk) e h R) := nr rfl
@[simp, simp ↓] theorem c_impl_shiftBetween_22_r : vc2 C (n + 1) [] (.code c_impl_shiftBetween_22 :: sk) e h R = (Run2 C (.code c_impl_shiftBetween_21 :: .inLoop c_impl_shiftBetween_21 :: sk) e h R) := nr rfl
@[simp, simp ↓] theorem c_impl_shiftBetween_23_r : vc2 C (n + 1) [] (.code c_impl_shiftBetween_23 :: sk) e h R = (vc2 C n [] (.code c_impl_shiftBetween_22 :: .inBlock 0 :: sk) e h R) := nr rfl
@[simp, simp ↓] theorem c_impl_shiftBetween_24_r : vc2 C (n + 1) [] (.code c_impl_shiftBetween_24 :: sk) e h R = (vc2 C n [] (.code c_impl_shiftBetween_1 :: .code c_impl_shiftBetween_23 :: sk) e h R) := nr rfl
@[simp, simp ↓] theorem c_impl_shiftBetween_25_r : vc2 C (n + 1) [] (.code c_impl_shiftBetween_25 :: sk) e h R = (vc2 C n c_impl_shiftBetween_o9 sk e h R) := nr rfl
@[simp, simp ↓] theorem c_impl_shiftBetween_26_r : vc2 C (n + 1) [] (.code c_impl_shiftBetween_26 :: sk) e h R = (vc2 C n [] (.code c_impl_shiftBetween_25 :: .code .ret :: sk) e h R) := nr rfl
@[simp, simp ↓] theorem c_impl_shiftBetween_27_r : vc2 C (n + 1) [] (.code c_impl_shiftBetween_27 :: sk) e h R = (vc2 C n [] (.code c_impl_shiftBetween_24 :: .code c_impl_shiftBetween_26 :: sk) e h R) := nr rfl
@[simp, simp ↓] theorem c_impl_shiftBetween_28_r : vc2 C (n + 1) [] (.code c_impl_shiftBetween_28 :: sk) e h R = (vc2 C n [] (.code c_impl_shiftBetween_0 :: .code c_impl_shiftBetween_27 :: sk) e h R) := nr rfl
end
noncomputable def c_impl_shiftBetween_C (orc : Orc) : Cx := ⟨Try.prog, [9], 92, 47, [.tmp 6, .tmp 7], orc⟩
@[simp] theorem c_impl_shiftBetween_C_P (orc : Orc) : (c_impl_shiftBetween_C orc).P = Try.prog := nr rfl
@[simp] theorem c_impl_shiftBetween_C_o (orc : Orc) : (c_impl_shiftBetween_C orc).orc = orc := nr rfl
@[simp] theorem c_impl_shiftBetween_C_r (orc : Orc) : (c_impl_shiftBetween_C orc).res = [.tmp 6, .tmp 7] := nr rfl
theorem c_impl_shiftBetween_of {args : List AV} {h : Heap} {R : AV → Heap → Prop} {k : Nat} (ha : args.length = k) {orc : Orc} (hp : Pure Try.prog orc) (hk : Is (c_impl_shiftBetween_C orc) Try.f92 → Run2 (c_impl_shiftBetween_C orc) [.code c_impl_shiftBetween_28] (argEnv 0 args) h (Post R)) (hle : k ≤ 47 := by simp) : ACalls Try.prog 92 args h R :=
  contract2 [9] c_impl_shiftBetween_28 [.tmp 6, .tmp 7] Try.func92 (by decide +kernel) rfl (by kernel_rfl) (by rw [ha]; exact hle) (by kernel_rfl) hp hk
theorem c_impl_shiftBetween_of0 {args : List AV} {h : Heap} {R : AV → Heap → Prop} {k : Nat} (ha : args.length = k) {orc : Orc} (hp : Pure Try.prog orc) (hk : Is (c_impl_shiftBetween_C orc) Try.f92 → Run2 (c_impl_shiftBetween_C orc) [.code c_impl_shiftBetween_28] (argEnv 0 args) h R) (hle : k ≤ 47 := by simp) : ACalls Try.prog 92 args h R :=
  contract20 [9] c_impl_shiftBetween_28 [.tmp 6, .tmp 7] Try.func92 (by decide +kernel) rfl (by kernel_rfl) (by rw [ha]; exact hle) (by kernel_rfl) hp hk
theorem shiftBetween_w (x : Ph) (a b : Int) (h : Heap) (hm1 : 2 ≤ x.m) (hm2 : x.m ≤ 360) (hl : x.ts.length ≤ 24) (hsh : ∀ (i : Nat) (hi : i < x.ts.length), 0 ≤ x.ts[i].s ∧ x.ts[i].s < x.m) : ACalls Try.prog 92 [x.av, .int .i64 a, .int .i64 b] h (fun v h' => v = stepAV (x.step a b) ∧ h' = h) := by
  refine c_impl_shiftBetween_of0 rfl noPure fun I => ?_
  refine Run2.of I 1000 ?_
  simp -implicitDefEqProofs
  refine Run2.loopE (fun i => [(1, .int .i64 a), (2, .int .i64 b), (3, .ip [.int .i64 x.n, .int .i64 x.m, .snap 3 (x.ts.map T.av)]), (11, .snap 3 (x.ts.map T.av)), (12, .int .i64 x.ts.length), (13, .int .i64 (i : Nat))]) (fun i => h) (fun i => x.ts.length - i) (fun i => i ≤ x.ts.length ∧ ∀ j, j < i → (hj : j < x.ts.length) → T.joins a b x.ts[j] = false) 0 (by simp) rfl (by simp) fun i hi ih => ?_
  by_cases hlt : i < x.ts.length
  · obtain ⟨e4, e5⟩ := hsh i hlt
    obtain ⟨s1, s2⟩ := Ph.step_at (a := a) (b := b) hlt fun j hj hji => hi.2 j hji hj
    have go := fun (h1 : T.joins a b x.ts[i] = false) => ih (i + 1) ⟨by omega, upto_succ hi.2 fun _ => h1⟩ (by omega)
    clear ih
    refine Run2.of I 1000 ?_
    simp -implicitDefEqProofs [hlt]
    simp [T.joins] at go
    repeat' (first | refine And.intro ?_ ?_ | intro _)
    all_goals first | omega | exact go (by omega) (by omega) | (rw [s1 (by omega) (by omega)]; simp [*]; done) | (rw [s2 (by omega) (by omega) (by omega)]; simp [*]; done)
  · obtain rfl : i = x.ts.length := by omega
    have := Ph.step_none (x := x) (a := a) (b := b) fun j hj => hi.2 j hj hj
    refine Run2.of I 1000 ?_
    simp -implicitDefEqProofs [this]
theorem shiftBetween_c (x : Ph) (a b : Int) (h : Heap) (hv : x.valid) : ACalls Try.prog 92 [x.av, .int .i64 a, .int .i64 b] h (fun v h' => v = stepAV (x.step a b) ∧ h' = h) :=
  shiftBetween_w x a b h hv.2.2.1 hv.2.2.2.1 hv.2.2.2.2.2 fun i hi => (Ph.edge hv hi).2.2.2
/-- The sum along a path. -/
def holR (st : Int → Int → Option Int) (m : Int) : Int → List Int → Option Int
  | acc, a :: b :: r => match st a b with
    | some d => holR st m ((acc + d) % m) (b :: r)
    | none => none
  | acc, _ => some acc
def Ph.hol (x : Ph) (p : List Int) : Option Int := holR x.step x.m 0 p
theorem holR_mod (st : Int → Int → Option Int) (m : Int) : ∀ (p : List Int) (acc : Int), holR (fun a b => (st a b).map (· % m)) m acc p = holR st m acc p
  | [], _ => rfl
  | [_], _ => rfl
  | a :: b :: r, acc => by
    simp only [holR]
    cases st a b with
    | none => rfl
    | some d =>
      simp only [Option.map_some]
      rw [holR_mod st m (b :: r), Int.add_emod_emod]
theorem Ph.step_bd {x : Ph} (hv : x.valid) {a b d : Int} (h : x.step a b = some d) : 0 ≤ d ∧ d ≤ x.m := by
  unfold Ph.step at h
  obtain ⟨t, ht, rfl⟩ := Option.map_eq_some_iff.1 h
  obtain ⟨i, hi, rfl⟩ := List.mem_iff_getElem.1 (List.mem_of_find?_eq_some ht)
  obtain ⟨e1, e2, e3, e4, e5⟩ := Ph.edge hv hi
  split <;> omega
def holAV : Option Int → AV := stepAV
abbrev c_spec_l23Sum_o0 : List AJ := [.o ⟨(some 4), none, false, .mv (.c (.int .i64 0)), none⟩, .o ⟨(some 5), none, false, .mv (.c (.bool false)), (some [0, 1])⟩]
def c_spec_l23Sum_0 : ACode := .region c_spec_l23Sum_o0
abbrev c_spec_l23Sum_o1 : List AJ := [.o ⟨(some 6), none, false, .mv (.c (.int .i64 0)), (some [0, 1, 6])⟩]
def c_spec_l23Sum_1 : ACode := .region c_spec_l23Sum_o1
abbrev c_spec_l23Sum_o2 : List AJ := [.o ⟨(some 7), none, false, .mv (.c (.int .i64 1)), (some [0, 1, 6, 7])⟩]
def c_spec_l23Sum_2 : ACode := .region c_spec_l23Sum_o2
abbrev c_spec_l23Sum_o3 : List AJ := [.o ⟨(some 10), none, false, .mv (.t 7), none⟩, .o ⟨(some 11), none, false, .mv (.t 1), none⟩, .o ⟨(some 12), none, false, .len (.t 11), none⟩, .o ⟨(some 13), none, false, .bin .lss (.t 10) (.t 12), (some [0, 1, 6, 7, 13])⟩]
def c_spec_l23Sum_3 : ACode := .region c_spec_l23Sum_o3
def c_spec_l23Sum_4 : ACode := .cond (.t 13) .skip (.exit 0)
def c_spec_l23Sum_5 : ACode := .seq c_spec_l23Sum_3 c_spec_l23Sum_4
abbrev c_spec_l23Sum_o4 : List AI := [⟨(some 17), none, false, .mv (.t 0), none⟩, ⟨(some 18), none, false, .mv (.t 1), none⟩, ⟨(some 19), none, false, .mv (.t 7), none⟩, ⟨(some 20), none, true, .bin .sub (.t 19) (.c (.int .i64 1)), none⟩, ⟨(some 21), none, false, .idxA 1 (.t 18) (.t 20), none⟩, ⟨(some 22), none, false, .load 1 false (.t 21), none⟩, ⟨(some 23), none, false, .mv (.t 1), none⟩, ⟨(some 24), none, false, .mv (.t 7), none⟩, ⟨(some 25), none, false, .idxA 1 (.t 23) (.t 24), none⟩, ⟨(some 26), none, false, .load 1 false (.t 25), none⟩, ⟨(some 27), none, false, .call 89 [(.t 17), (.t 22), (.t 26)], none⟩, ⟨(some 16), none, false, .mv (.t 27), none⟩, ⟨(some 28), none, false, .extract (.t 16) 0, none⟩, ⟨(some 29), none, false, .extract (.t 16) 1, (some [0, 1, 6, 7, 28, 29])⟩, ⟨(some 8), none, false, .mv (.t 28), none⟩, ⟨(some 9), none, false, .mv (.t 29), (some [0, 1, 6, 7, 8, 9])⟩]
def c_spec_l23Sum_6 : ACode := .draw c_spec_l23Sum_o4 [] rfl
abbrev c_spec_l23Sum_o5 : List AJ := [.o ⟨(some 30), none, false, .mv (.t 9), none⟩, .o ⟨(some 31), none, false, .un .not (.t 30), (some [0, 1, 6, 7, 8, 31])⟩]
def c_spec_l23Sum_7 : ACode := .region c_spec_l23Sum_o5
abbrev c_spec_l23Sum_o6 : List AJ := [.o ⟨(some 4), none, false, .mv (.c (.int .i64 0)), none⟩, .o ⟨(some 5), none, false, .mv (.c (.bool false)), (some [4, 5])⟩]
def c_spec_l23Sum_8 : ACode := .region c_spec_l23Sum_o6
def c_spec_l23Sum_9 : ACode := .seq c_spec_l23Sum_8 .ret
def c_spec_l23Sum_10 : ACode := .cond (.t 31) c_spec_l23Sum_9 .skip
def c_spec_l23Sum_11 : ACode := .seq c_spec_l23Sum_7 c_spec_l23Sum_10
abbrev c_spec_l23Sum_o7 : List AJ := [.o ⟨(some 32), none, false, .mv (.t 6), none⟩, .o ⟨(some 33), none, false, .mv (.t 8), none⟩, .o ⟨(some 34), none, true, .bin .add (.t 32) (.t 33), none⟩, .o ⟨(some 35), none, false, .mv (.t 0), none⟩, .o ⟨(some 36), none, false, .nilchk (.t 35), none⟩, .o ⟨(some 37), none, false, .fieldA 1 (.t 36), none⟩, .o ⟨(some 38), none, false, .load 1 false (.t 37), none⟩, .o ⟨(some 39), none, false, .bin .rem (.t 34) (.t 38), none⟩, .o ⟨(some 6), none, false, .mv (.t 39), (some [0, 1, 6, 7])⟩]
def c_spec_l23Sum_12 : ACode := .region c_spec_l23Sum_o7
def c_spec_l23Sum_13 : ACode := .seq c_spec_l23Sum_11 c_spec_l23Sum_12
def c_spec_l23Sum_14 : ACode := .seq c_spec_l23Sum_6 c_spec_l23Sum_13
def c_spec_l23Sum_15 : ACode := .block 1 c_spec_l23Sum_14
abbrev c_spec_l23Sum_o8 : List AJ := [.o ⟨(some 14), none, false, .mv (.t 7), none⟩, .o ⟨(some 15), none, true, .bin .add (.t 14) (.c (.int .i64 1)), none⟩, .o ⟨(some 7), none, false, .mv (.t 15), (some [0, 1, 6, 7])⟩]
def c_spec_l23Sum_16 : ACode := .region c_spec_l23Sum_o8
def c_spec_l23Sum_17 : ACode := .seq c_spec_l23Sum_15 c_spec_l23Sum_16
def c_spec_l23Sum_18 : ACode := .seq c_spec_l23Sum_5 c_spec_l23Sum_17
def c_spec_l23Sum_19 : ACode := .loop c_spec_l23Sum_18
def c_spec_l23Sum_20 : ACode := .block 0 c_spec_l23Sum_19
def c_spec_l23Sum_21 : ACode := .seq c_spec_l23Sum_2 c_spec_l23Sum_20
abbrev c_spec_l23Sum_o9 : List AJ := [.o ⟨(some 40), none, false, .mv (.t 6), none⟩, .o ⟨(some 4), none, false, .mv (.t 40), none⟩, .o ⟨(some 5), none, false, .mv (.c (.bool true)), (some [4, 5])⟩]
def c_spec_l23Sum_22 : ACode := .region c_spec_l23Sum_o9
def c_spec_l23Sum_23 : ACode := .seq c_spec_l23Sum_22 .ret
def c_spec_l23Sum_24 : ACode := .seq c_spec_l23Sum_21 c_spec_l23Sum_23
def c_spec_l23Sum_25 : ACode := .seq c_spec_l23Sum_1 c_spec_l23Sum_24
def c_spec_l23Sum_26 : ACode := .seq c_spec_l23Sum_0 c_spec_l23Sum_25
section
variable (C : Cx) (n : Nat) (sk : List AItem) (e : Env) (h : Heap) (R : AV → Heap → Prop)
@[simp, simp ↓] theorem c_spec_l23Sum_0_r : vc2 C (n + 1) [] (.code c_spec_l23Sum_0 :: sk) e h R = (vc2 C n c_spec_l23Sum_o0 sk e h R) := nr rfl
@[simp, simp ↓] theorem c_spec_l23Sum_1_r : vc2 C (n + 1) [] (.code c_spec_l23Sum_1 :: sk) e h R = (vc2 C n c_spec_l23Sum_o1 sk e h R) := nr rfl
@[simp, simp ↓] theorem c_spec_l23Sum_2_r : vc2 C (n + 1) [] (.code c_spec_l23Sum_2 :: sk) e h R = (vc2 C n c_spec_l23Sum_o2 sk e h R) := nr rfl
@[simp, simp ↓] theorem c_spec_l23Sum_3_r : vc2 C (n + 1) [] (.code c_spec_l23Sum_3 :: sk) e h R = (vc2 C n c_spec_l23Sum_o3 sk e h R) := nr rfl
@[simp, simp ↓] theorem c_spec_l23Sum_4_r : vc2 C (n + 1) [] (.code c_spec_l23Sum_4 :: sk) e h R = (condK (ev e (.t 13)) (vc2 C n [] (.code .skip :: sk) e h R) (vc2 C n [] (.code (.exit 0) :: sk) e h R)) := nr rfl
@[simp, simp ↓] theorem c_spec_l23Sum_5_r : vc2 C (n + 1) [] (.code c_spec_l23Sum_5 :: sk) e h R = (vc2 C n [] (.code c_spec_l23Sum_3 :: .code c_spec_l23Sum_4 :: sk) e h R) := nr rfl
@[simp, simp ↓] theorem c_spec_l23Sum_6_r : vc2 C (n + 1) [] (.code c_spec_l23Sum_6 :: sk) e h R = (draw2 C h (vK C n [] sk R h) c_spec_l23Sum_o4 e) := nr rfl
@[simp, simp ↓] theorem c_spec_l23Sum_7_r : vc2 C (n + 1) [] (.code c_spec_l23Sum_7 :: sk) e h R = (vc2 C n c_spec_l23Sum_o5 sk e h R) := nr rfl
@[simp, simp ↓] theorem c_spec_l23Sum_8_r : vc2 C (n + 1) [] (.code c_spec_l23Sum_8 :: sk) e h R = (vc2 C n c_spec_l23Sum_o6 sk e h R) := nr rfl
@[simp, simp ↓] theorem c_spec_l23Sum_9_r : vc2 C (n + 1) [] (.code c_spec_l23Sum_9 :: sk) e h R = (vc2 C n [] (.code c_spec_l23Sum_8 :: .code .ret :: sk) e h R) := nr rfl
@[simp, simp ↓] theorem c_spec_l23Sum_10_r : vc2 C (n + 1) [] (.code c_spec_l23Sum_10 :: sk) e h R = (condK (ev e (.t 31)) (vc2 C n [] (.code c_spec_l23Sum_9 :: sk) e h R) (vc2 C n [] (.code .skip :: sk) e h R)) := nr rfl
@[simp, simp ↓] theorem c_spec_l23Sum_11_r : vc2 C (n + 1) [] (.code c_spec_l23Sum_11 :: sk) e h R = (vc2 C n [] (.code c_spec_l23Sum_7 :: .code c_spec_l23Sum_10 :: sk) e h R) := nr rfl
@[simp, simp ↓] theorem c_spec_l23Sum_12_r : vc2 C (n + 1) [] (.code c_spec_l23Sum_12 :: sk) e h R = (vc2 C n c_spec_l23Sum_o7 sk e h R) := nr rfl
@[simp, simp ↓] theorem c_spec_l23Sum_13_r : vc2 C (n + 1) [] (.code c_spec_l23Sum_13 :: sk) e h R = (vc2 C n [] (.code c_spec_l23Sum_11 :: .code c_spec_l23Sum_12 :: sk) e h R) := nr rfl
@[simp, simp ↓] theorem c_spec_l23Sum_14_r : vc2 C (n + 1) [] (.code c_spec_l23Sum_14 :: sk) e h R = (vc2 C n [] (.code c_spec_l23Sum_6 :: .code c_spec_l23Sum_13 :: sk) e h R) := nr rfl
@[simp, simp ↓] theorem c_spec_l23Sum_15_r : vc2 C (n + 1) [] (.code c_spec_l23Sum_15 :: sk) e h R = (vc2 C n [] (.code c_spec_l23Sum_14 :: .inBlock 1 :: sk) e h R) := nr rfl
@[simp, simp ↓] theorem c_spec_l23Sum_16_r : vc2 C (n + 1) [] (.code c_spec_l23Sum_16 :: sk) e h R = (vc2 C n c_spec_l23Sum_o8 sk e h R) := nr rfl
@[simp, simp ↓] theorem c_spec_l23Sum_17_r : vc2 C (n + 1) [] (.code c_spec_l23Sum_17 :: sk) e h R = (vc2 C n [] (.code c_spec_l23Sum_15 :: .code c_spec_l23Sum_16 :: sk) e h R) := nr rfl
@[simp, simp ↓] theorem c_spec_l23Sum_18_r : vc2 C (n + 1) [] (.code c_spec_l23Sum_18 :: sk) e h R = (vc2 C n [] (.code c_spec_l23Sum_5 :: .code c_spec_l23Sum_17 :: sk) e h R) := nr rfl
@[simp, simp ↓] theorem c_spec_l23Sum_19_r : vc2 C (n + 1) [] (.code c_spec_l23Sum_19 :: sk) e h R = (Run2 C (.code c_spec_l23Sum_18 :: .inLoop c_spec_l23Sum_18 :: sk) e h R) := nr rfl
@[simp, simp ↓] theorem c_spec_l23Sum_20_r : vc2 C (n + 1) [] (.code c_spec_l23Sum_20 :: sk) e h R = (vc2 C n [] (.code c_spec_l23Sum_19 :: .inBlock 0 :: sk) e h R) := nr rfl
@[simp, simp ↓] theorem c_spec_l23Sum_21_r : vc2 C (n + 1) [] (.code c_spec_l23Sum_21 :: sk) e h R = (vc2 C n [] (.code c_spec_l23Sum_2 :: .code c_spec_l23Sum_20 :: sk) e h R) := nr rfl
@[simp, simp ↓] theorem c_spec_l23Sum_22_r : vc2 C (n + 1) [] (.code c_spec_l23Sum_22 :: sk) e h R = (vc2 C n c_spec_l23Sum_o9 sk e h R) := nr rfl
@[simp, simp ↓] theorem c_spec_l23Sum_23_r : vc2 C (n + 1) [] (.code c_spec_l23Sum_23 :: sk) e h R = (vc2 C n [] (.code c_spec_l23Sum_22 :: .code .ret :: sk) e h R) := nr rfl
@[simp, simp ↓] theorem c_spec_l23Sum_24_r : vc2 C (n + 1) [] (.code c_spec_l23Sum_24 :: sk) e h R = (vc2 C n [] (.code c_spec_l23Sum_21 :: .code c_spec_l23Sum_23 :: sk) e h R) := nr rfl
@[simp, simp ↓] theorem c_spec_l23Sum_25_r : vc2 C (n + 1) [] (.code c_spec_l23Sum_25 :: sk) e h R = (vc2 C n [] (.code c_spec_l23Sum_1 :: .code c_spec_l23Sum_24 :: sk) e h R) := nr rfl
@[simp, simp ↓] theorem c_spec_l23Sum_26_r : vc2 C (n + 1) [] (.code c_spec_l23Sum_26 :: sk) e h R = (vc2 C n [] (.code c_spec_l23Sum_0 :: .code c_spec_l23Sum_25 :: sk) e h R) := nr rfl
end
noncomputable def c_spec_l23Sum_C (orc : Orc) : Cx := ⟨Try.prog, [], 55, 41, [.tmp 4, .tmp 5], orc⟩
@[simp] theorem c_spec_l23Sum_C_P (orc : Orc) : (c_spec_l23Sum_C orc).P = Try.prog := nr rfl
@[simp] theorem c_spec_l23Sum_C_o (orc : Orc) : (c_spec_l23Sum_C orc).orc = orc := nr rfl
@[simp] theorem c_spec_l23Sum_C_r (orc : Orc) : (c_spec_l23Sum_C orc).res = [.tmp 4, .tmp 5] := nr rfl
theorem c_spec_l23Sum_of {args : List AV} {h : Heap} {R : AV → Heap → Prop} {k : Nat} (ha : args.length = k) {orc : Orc} (hp : Pure Try.prog orc) (hk : Is (c_spec_l23Sum_C orc) Try.f55 → Run2 (c_spec_l23Sum_C orc) [.code c_spec_l23Sum_26] (argEnv 0 args) h (Post R)) (hle : k ≤ 41 := by simp) : ACalls Try.prog 55 args h R :=
  contract2 [] c_spec_l23Sum_26 [.tmp 4, .tmp 5] Try.func55 (by decide +kernel) rfl (by kernel_rfl) (by rw [ha]; exact hle) (by kernel_rfl) hp hk
theorem c_spec_l23Sum_of0 {args : List AV} {h : Heap} {R : AV → Heap → Prop} {k : Nat} (ha : args.length = k) {orc : Orc} (hp : Pure Try.prog orc) (hk : Is (c_spec_l23Sum_C orc) Try.f55 → Run2 (c_spec_l23Sum_C orc) [.code c_spec_l23Sum_26] (argEnv 0 args) h R) (hle : k ≤ 41 := by simp) : ACalls Try.prog 55 args h R :=
  contract20 [] c_spec_l23Sum_26 [.tmp 4, .tmp 5] Try.func55 (by decide +kernel) rfl (by kernel_rfl) (by rw [ha]; exact hle) (by kernel_rfl) hp hk
theorem l23Sum_c (x : Ph) (p : List Int) (h : Heap) (hv : x.valid) (hp : p.length ≤ 1048576) : ACalls Try.prog 55 [.ip [.int .i64 x.n, .int .i64 x.m, .snap 3 (x.ts.map T.av)], .snap 1 (p.map iv)] h (fun v h' => v = stepAV (x.hol p) ∧ h' = h) := by
  have hm1 := hv.2.2.1
  have hm2 := hv.2.2.2.1
  refine c_spec_l23Sum_of0 rfl noPure fun I => ?_
  refine Run2.of I 1000 ?_
  simp -implicitDefEqProofs
  refine Run2.loopE (α := Nat × Int) (fun s => [(0, .ip [.int .i64 x.n, .int .i64 x.m, .snap 3 (x.ts.map T.av)]), (1, .snap 1 (p.map iv)), (6, .int .i64 s.2), (7, .int .i64 (s.1 + 1 : Nat))]) (fun i => h) (fun s => p.length - s.1) (fun s => (0 ≤ s.2 ∧ s.2 < x.m) ∧ holR x.step x.m s.2 (p.drop s.1) = x.hol p) (0, 0) (by simp) rfl ⟨by simp; omega, rfl⟩ ?_
  rintro ⟨i, acc⟩ ⟨ha, hi⟩ ih
  simp only at ha hi ih ⊢
  by_cases hlt : i + 1 < p.length
  · have hd : p.drop i = p[i] :: p[i + 1] :: p.drop (i + 2) := by rw [List.drop_eq_getElem_cons (by omega), List.drop_eq_getElem_cons hlt]
    have hd1 : p.drop (i + 1) = p[i + 1] :: p.drop (i + 2) := List.drop_eq_getElem_cons hlt
    rw [hd] at hi
    have hlt0 : i < p.length := by omega
    have hc : ((i : Int) + 1 - 1).toNat = i := by omega
    have hI : (i : Int) + 1 < p.length := by omega
    have hcall := fun h => l23Step_c x p[i] p[i + 1] h hv
    cases hst : x.step p[i] p[i + 1] with
    | none =>
      simp only [holR, hst] at hi
      simp only [hst, Option.map_none] at hcall
      refine Run2.of I 1000 ?_
      simp -implicitDefEqProofs [hlt, hlt0, hc, hI]
      refine ⟨by omega, by omega, dcallK (hcall h) ?_⟩
      simp -implicitDefEqProofs [← hi]
    | some d =>
      have hbd := Ph.step_bd hv hst
      simp only [holR, hst] at hi
      simp only [hst, Option.map_some] at hcall
      have go := ih (i + 1, (acc + d) % x.m) ⟨⟨Int.emod_nonneg _ (by omega), Int.emod_lt_of_pos _ (by omega)⟩, by rw [hd1]; exact hi⟩ (by simp; omega)
      have hdm := Int.emod_nonneg d (show x.m ≠ 0 by omega)
      have hdl := Int.emod_lt_of_pos d (show 0 < x.m by omega)
      have ht : (acc + d % x.m).tmod x.m = (acc + d) % x.m := by rw [Int.tmod_eq_emod_of_nonneg (by omega), Int.add_emod_emod]
      clear ih
      refine Run2.of I 1000 ?_
      simp -implicitDefEqProofs [hlt, hlt0, hc, hI]
      refine ⟨by omega, by omega, dcallK (hcall h) ?_⟩
      simp -implicitDefEqProofs [ht]
      exact ⟨by omega, by omega, by omega, by simpa using go⟩
  · have : x.hol p = some acc := by
      rw [← hi]
      have : (p.drop i).length ≤ 1 := by simp; omega
      match hp : p.drop i, this with
      | [], _ => rfl
      | [_], _ => rfl
    have hI : ¬ (i : Int) + 1 < p.length := by omega
    refine Run2.of I 1000 ?_
    simp -implicitDefEqProofs [hI, this]
abbrev c_impl_holonomy_o0 : List AJ := [.o ⟨(some 2), none, false, .box false 3 (.t 0), none⟩, .o ⟨(some 4), none, false, .mv (.c (.int .i64 0)), none⟩, .o ⟨(some 5), none, false, .mv (.c (.bool false)), (some [1, 2])⟩]
def c_impl_holonomy_0 : ACode := .region c_impl_holonomy_o0
abbrev c_impl_holonomy_o1 : List AJ := [.o ⟨(some 6), none, false, .mv (.c (.int .i64 0)), (some [1, 2, 6])⟩]
def c_impl_holonomy_1 : ACode := .region c_impl_holonomy_o1
abbrev c_impl_holonomy_o2 : List AJ := [.o ⟨(some 7), none, false, .mv (.c (.int .i64 1)), (some [1, 2, 6, 7])⟩]
def c_impl_holonomy_2 : ACode := .region c_impl_holonomy_o2
abbrev c_impl_holonomy_o3 : List AJ := [.o ⟨(some 10), none, false, .mv (.t 7), none⟩, .o ⟨(some 11), none, false, .mv (.t 1), none⟩, .o ⟨(some 12), none, false, .len (.t 11), none⟩, .o ⟨(some 13), none, false, .bin .lss (.t 10) (.t 12), (some [1, 2, 6, 7, 13])⟩]
def c_impl_holonomy_3 : ACode := .region c_impl_holonomy_o3
def c_impl_holonomy_4 : ACode := .cond (.t 13) .skip (.exit 0)
def c_impl_holonomy_5 : ACode := .seq c_impl_holonomy_3 c_impl_holonomy_4
abbrev c_impl_holonomy_o4 : List AI := [⟨(some 17), none, false, .load 3 true (.t 2), none⟩, ⟨(some 18), none, false, .mv (.t 1), none⟩, ⟨(some 19), none, false, .mv (.t 7), none⟩, ⟨(some 20), none, true, .bin .sub (.t 19) (.c (.int .i64 1)), none⟩, ⟨(some 21), none, false, .idxA 1 (.t 18) (.t 20), none⟩, ⟨(some 22), none, false, .load 1 false (.t 21), none⟩, ⟨(some 23), none, false, .mv (.t 1), none⟩, ⟨(some 24), none, false, .mv (.t 7), none⟩, ⟨(some 25), none, false, .idxA 1 (.t 23) (.t 24), none⟩, ⟨(some 26), none, false, .load 1 false (.t 25), none⟩, ⟨(some 27), none, false, .call 92 [(.t 17), (.t 22), (.t 26)], none⟩, ⟨(some 16), none, false, .mv (.t 27), none⟩, ⟨(some 28), none, false, .extract (.t 16) 0, none⟩, ⟨(some 29), none, false, .extract (.t 16) 1, (some [1, 2, 6, 7, 28, 29])⟩, ⟨(some 8), none, false, .mv (.t 28), none⟩, ⟨(some 9), none, false, .mv (.t 29), (some [1, 2, 6, 7, 8, 9])⟩]
def c_impl_holonomy_6 : ACode := .draw c_impl_holonomy_o4 [] rfl
abbrev c_impl_holonomy_o5 : List AJ := [.o ⟨(some 30), none, false, .mv (.t 9), none⟩, .o ⟨(some 31), none, false, .un .not (.t 30), (some [1, 2, 6, 7, 8, 31])⟩]
def c_impl_holonomy_7 : ACode := .region c_impl_holonomy_o5
abbrev c_impl_holonomy_o6 : List AJ := [.o ⟨(some 4), none, false, .mv (.c (.int .i64 0)), none⟩, .o ⟨(some 5), none, false, .mv (.c (.bool false)), (some [4, 5])⟩]
def c_impl_holonomy_8 : ACode := .region c_impl_holonomy_o6
def c_impl_holonomy_9 : ACode := .seq c_impl_holonomy_8 .ret
def c_impl_holonomy_10 : ACode := .cond (.t 31) c_impl_holonomy_9 .skip
def c_impl_holonomy_11 : ACode := .seq c_impl_holonomy_7 c_impl_holonomy_10
abbrev c_impl_holonomy_o7 : List AJ := [.o ⟨(some 32), none, false, .mv (.t 6), none⟩, .o ⟨(some 33), none, false, .mv (.t 8), none⟩, .o ⟨(some 34), none, true, .bin .add (.t 32) (.t 33), none⟩, .o ⟨(some 35), none, false, .fieldA 1 (.t 2), none⟩, .o ⟨(some 36), none, false, .load 1 false (.t 35), none⟩, .o ⟨(some 37), none, false, .bin .rem (.t 34) (.t 36), none⟩, .o ⟨(some 6), none, false, .mv (.t 37), (some [1, 2, 6, 7])⟩]
def c_impl_holonomy_12 : ACode := .region c_impl_holonomy_o7
def c_impl_holonomy_13 : ACode := .seq c_impl_holonomy_11 c_impl_holonomy_12
def c_impl_holonomy_14 : ACode := .seq c_impl_holonomy_6 c_impl_holonomy_13
def c_impl_holonomy_15 : ACode := .block 1 c_impl_holonomy_14
abbrev c_impl_holonomy_o8 : List AJ := [.o ⟨(some 14), none, false, .mv (.t 7), none⟩, .o ⟨(some 15), none, true, .bin .add (.t 14) (.c (.int .i64 1)), none⟩, .o ⟨(some 7), none, false, .mv (.t 15), (some [1, 2, 6, 7])⟩]
def c_impl_holonomy_16 : ACode := .region c_impl_holonomy_o8
def c_impl_holonomy_17 : ACode := .seq c_impl_holonomy_15 c_impl_holonomy_16
def c_impl_holonomy_18 : ACode := .seq c_impl_holonomy_5 c_impl_holonomy_17
def c_impl_holonomy_19 : ACode := .loop c_impl_holonomy_18
def c_impl_holonomy_20 : ACode := .block 0 c_impl_holonomy_19
def c_impl_holonomy_21 : ACode := .seq c_impl_holonomy_2 c_impl_holonomy_20
abbrev c_impl_holonomy_o9 : List AJ := [.o ⟨(some 38), none, false, .mv (.t 6), none⟩, .o ⟨(some 4), none, false, .mv (.t 38), none⟩, .o ⟨(some 5), none, false, .mv (.c (.bool true)), (some [4, 5])⟩]
def c_impl_holonomy_22 : ACode := .region c_impl_holonomy_o9
def c_impl_holonomy_23 : ACode := .seq c_impl_holonomy_22 .ret
def c_impl_holonomy_24 : ACode := .seq c_impl_holonomy_21 c_impl_holonomy_23
def c_impl_holonomy_25 : ACode := .seq c_impl_holonomy_1 c_impl_holonomy_24
def c_impl_holonomy_26 : ACode := .seq c_impl_holonomy_0 c_impl_holonomy_25
section
variable (C : Cx) (n : Nat) (sk : List AItem) (e : Env) (h : Heap) (R : AV → Heap → Prop)
@[simp, simp ↓] theorem c_impl_holonomy_0_r : vc2 C (n + 1) [] (.code c_impl_holonomy_0 :: sk) e h R = (vc2 C n c_impl_holonomy_o0 sk e h R) := nr rfl
@[simp, simp ↓] theorem c_impl_holonomy_1_r : vc2 C (n + 1) [] (.code c_impl_holonomy_1 :: sk) e h R = (vc2 C n c_impl_holonomy_o1 sk e h R) := nr rfl
@[simp, simp ↓] theorem c_impl_holonomy_2_r : vc2 C (n + 1) [] (.code c_impl_holonomy_2 :: sk) e h R = (vc2 C n c_impl_holonomy_o2 sk e h R) := nr rfl
@[simp, simp ↓] theorem c_impl_holonomy_3_r : vc2 C (n + 1) [] (.code c_impl_holonomy_3 :: sk) e h R = (vc2 C n c_impl_holonomy_o3 sk e h R) := nr rfl
@[simp, simp ↓] theorem c_impl_holonomy_4_r : vc2 C (n + 1) [] (.code c_impl_holonomy_4 :: sk) e h R = (condK (ev e (.t 13)) (vc2 C n [] (.code .skip :: sk) e h R) (vc2 C n [] (.code (.exit 0) :: sk) e h R)) := nr rfl
@[simp, simp ↓] theorem c_impl_holonomy_5_r : vc2 C (n + 1) [] (.code c_impl_holonomy_5 :: sk) e h R = (vc2 C n [] (.code c_impl_holonomy_3 :: .code c_impl_holonomy_4 :: sk) e h R) := nr rfl
@[simp, simp ↓] theorem c_impl_holonomy_6_r : vc2 C (n + 1) [] (.code c_impl_holonomy_6 :: sk) e h R = (draw2 C h (vK C n [] sk R h) c_impl_holonomy_o4 e) := nr rfl
@[simp, simp ↓] theorem c_impl_holonomy_7_r : vc2 C (n + 1) [] (.code c_impl_holonomy_7 :: sk) e h R = (vc2 C n c_impl_holonomy_o5 sk e h R) := nr rfl
@[simp, simp ↓] theorem c_impl_holonomy_8_r : vc2 C (n + 1) [] (.code c_impl_holonomy_8 :: sk) e h R = (vc2 C n c_impl_holonomy_o6 sk e h R) := nr rfl
@[simp, simp ↓] theorem c_impl_holonomy_9_r : vc2 C (n + 1) [] (.code c_impl_holonomy_9 :: sk) e h R = (vc2 C n [] (.code c_impl_holonomy_8 :: .code .ret :: sk) e h R) := nr rfl
@[simp, simp ↓] theorem c_impl_holonomy_10_r : vc2 C (n + 1) [] (.code c_impl_holonomy_10 :: sk) e h R = (condK (ev e (.t 31)) (vc2 C n [] (.code c_impl_holonomy_9 :: sk) e h R) (vc2 C n [] (.code .skip :: sk) e h R)) := nr rfl
@[simp, simp ↓] theorem c_impl_holonomy_11_r : vc2 C (n + 1) [] (.code c_impl_holonomy_11 :: sk) e h R = (vc2 C n [] (.code c_impl_holonomy_7 :: .code c_impl_holonomy_10 :: sk) e h R) := nr rfl
@[simp, simp ↓] theorem c_impl_holonomy_12_r : vc2 C (n + 1) [] (.code c_impl_holonomy_12 :: sk) e h R = (vc2 C n c_impl_holonomy_o7 sk e h R) := nr rfl
@[simp, simp ↓] theorem c_impl_holonomy_13_r : vc2 C (n + 1) [] (.code c_impl_holonomy_13 :: sk) e h R = (vc2 C n [] (.code c_impl_holonomy_11 :: .code c_impl_holonomy_12 :: sk) e h R) := nr rfl
@[simp, simp ↓] theorem c_impl_holonomy_14_r : vc2 C (n + 1) [] (.code c_impl_holonomy_14 :: sk) e h R = (vc2 C n [] (.code c_impl_holonomy_6 :: .code c_impl_holonomy_13 :: sk) e h R) := nr rfl
@[simp, simp ↓] theorem c_impl_holonomy_15_r : vc2 C (n + 1) [] (.code c_impl_holonomy_15 :: sk) e h R = (vc2 C n [] (.code c_impl_holonomy_14 :: .inBlock 1 :: sk) e h R) := nr rfl
@[simp, simp ↓] theorem c_impl_holonomy_16_r : vc2 C (n + 1) [] (.code c_impl_holonomy_16 :: sk) e h R = (vc2 C n c_impl_holonomy_o8 sk e h R) := nr rfl
@[simp, simp ↓] theorem c_impl_holonomy_17_r : vc2 C (n + 1) [] (.code c_impl_holonomy_17 :: sk) e h R = (vc2 C n [] (.code c_impl_holonomy_15 :: .code c_impl_holonomy_16 :: sk) e h R) := nr rfl
@[simp, simp ↓] theorem c_impl_holonomy_18_r : vc2 C (n + 1) [] (.code c_impl_holonomy_18 :: sk) e h R = (vc2 C n [] (.code c_impl_holonomy_5 :: .code c_impl_holonomy_17 :: sk) e h R) := nr rfl
@[simp, simp ↓] theorem c_impl_holonomy_19_r : vc2 C (n + 1) [] (.code c_impl_holonomy_19 :: sk) e h R = (Run2 C (.code c_impl_holonomy_18 :: .inLoop c_impl_holonomy_18 :: sk) e h R) := nr rfl
@[simp, simp ↓] theorem c_impl_holonomy_20_r : vc2 C (n + 1) [] (.code c_impl_holonomy_20 :: sk) e h R = (vc2 C n [] (.code c_impl_holonomy_19 :: .inBlock 0 :: sk) e h R) := nr rfl
@[simp, simp ↓] theorem c_impl_holonomy_21_r : vc2 C (n + 1) [] (.code c_impl_holonomy_21 :: sk) e h R = (vc2 C n [] (.code c_impl_holonomy_2 :: .code c_impl_holonomy_20 :: sk) e h R) := nr rfl
@[simp, simp ↓] theorem c_impl_holonomy_22_r : vc2 C (n + 1) [] (.code c_impl_holonomy_22 :: sk) e h R = (vc2 C n c_impl_holonomy_o9 sk e h R) := nr rfl
@[simp, simp ↓] theorem c_impl_holonomy_23_r : vc2 C (n + 1) [] (.code c_impl_holonomy_23 :: sk) e h R = (vc2 C n [] (.code c_impl_holonomy_22 :: .code .ret :: sk) e h R) := nr rfl
@[simp, simp ↓] theorem c_impl_holonomy_24_r : vc2 C (n + 1) [] (.code c_impl_holonomy_24 :: sk) e h R = (vc2 C n [] (.code c_impl_holonomy_21 :: .code c_impl_holonomy_23 :: sk) e h R) := nr rfl
@[simp, simp ↓] theorem c_impl_holonomy_25_r : vc2 C (n + 1) [] (.code c_impl_holonomy_25 :: sk) e h R = (vc2 C n [] (.code c_impl_holonomy_1 :: .code c_impl_holonomy_24 :: sk) e h R) := nr rfl
@[simp, simp ↓] theorem c_impl_holonomy_26_r : vc2 C (n + 1) [] (.code c_impl_holonomy_26 :: sk) e h R = (vc2 C n [] (.code c_impl_holonomy_0 :: .code c_impl_holonomy_25 :: sk) e h R) := nr rfl
end
noncomputable def c_impl_holonomy_C (orc : Orc) : Cx := ⟨Try.prog, [], 57, 39, [.tmp 4, .tmp 5], orc⟩
@[simp] theorem c_impl_holonomy_C_P (orc : Orc) : (c_impl_holonomy_C orc).P = Try.prog := nr rfl
@[simp] theorem c_impl_holonomy_C_o (orc : Orc) : (c_impl_holonomy_C orc).orc = orc := nr rfl
@[simp] theorem c_impl_holonomy_C_r (orc : Orc) : (c_impl_holonomy_C orc).res = [.tmp 4, .tmp 5] := nr rfl
theorem c_impl_holonomy_of {args : List AV} {h : Heap} {R : AV → Heap → Prop} {k : Nat} (ha : args.length = k) {orc : Orc} (hp : Pure Try.prog orc) (hk : Is (c_impl_holonomy_C orc) Try.f57 → Run2 (c_impl_holonomy_C orc) [.code c_impl_holonomy_26] (argEnv 0 args) h (Post R)) (hle : k ≤ 39 := by simp) : ACalls Try.prog 57 args h R :=
  contract2 [] c_impl_holonomy_26 [.tmp 4, .tmp 5] Try.func57 (by decide +kernel) rfl (by kernel_rfl) (by rw [ha]; exact hle) (by kernel_rfl) hp hk
theorem c_impl_holonomy_of0 {args : List AV} {h : Heap} {R : AV → Heap → Prop} {k : Nat} (ha : args.length = k) {orc : Orc} (hp : Pure Try.prog orc) (hk : Is (c_impl_holonomy_C orc) Try.f57 → Run2 (c_impl_holonomy_C orc) [.code c_impl_holonomy_26] (argEnv 0 args) h R) (hle : k ≤ 39 := by simp) : ACalls Try.prog 57 args h R :=
  contract20 [] c_impl_holonomy_26 [.tmp 4, .tmp 5] Try.func57 (by decide +kernel) rfl (by kernel_rfl) (by rw [ha]; exact hle) (by kernel_rfl) hp hk
theorem holonomy_c (x : Ph) (p : List Int) (h : Heap) (hv : x.valid) (hp : p.length ≤ 1048576) : ACalls Try.prog 57 [x.av, .snap 1 (p.map iv)] h (fun v h' => v = stepAV (x.hol p) ∧ h' = h) := by
  have hm1 := hv.2.2.1
  have hm2 := hv.2.2.2.1
  refine c_impl_holonomy_of0 rfl noPure fun I => ?_
  refine Run2.of I 1000 ?_
  simp -implicitDefEqProofs
  refine Run2.loopE (α := Nat × Int) (fun s => [(1, .snap 1 (p.map iv)), (2, .ip [.int .i64 x.n, .int .i64 x.m, .snap 3 (x.ts.map T.av)]), (6, .int .i64 s.2), (7, .int .i64 (s.1 + 1 : Nat))]) (fun i => h) (fun s => p.length - s.1) (fun s => (0 ≤ s.2 ∧ s.2 < x.m) ∧ holR x.step x.m s.2 (p.drop s.1) = x.hol p) (0, 0) (by simp) rfl ⟨by simp; omega, rfl⟩ ?_
  rintro ⟨i, acc⟩ ⟨ha, hi⟩ ih
  simp only at ha hi ih ⊢
  by_cases hlt : i + 1 < p.length
  · have hd : p.drop i = p[i] :: p[i + 1] :: p.drop (i + 2) := by rw [List.drop_eq_getElem_cons (by omega), List.drop_eq_getElem_cons hlt]
    have hd1 : p.drop (i + 1) = p[i + 1] :: p.drop (i + 2) := List.drop_eq_getElem_cons hlt
    rw [hd] at hi
    have hlt0 : i < p.length := by omega
    have hc : ((i : Int) + 1 - 1).toNat = i := by omega
    have hI : (i : Int) + 1 < p.length := by omega
    have hcall := fun h => shiftBetween_c x p[i] p[i + 1] h hv
    cases hst : x.step p[i] p[i + 1] with
    | none =>
      simp only [holR, hst] at hi
      simp only [hst] at hcall
      refine Run2.of I 1000 ?_
      simp -implicitDefEqProofs [hlt, hlt0, hc, hI]
      refine ⟨by omega, by omega, dcallK (hcall h) ?_⟩
      simp -implicitDefEqProofs [← hi]
    | some d =>
      have hbd := Ph.step_bd hv hst
      simp only [holR, hst] at hi
      simp only [hst] at hcall
      have go := ih (i + 1, (acc + d) % x.m) ⟨⟨Int.emod_nonneg _ (by omega), Int.emod_lt_of_pos _ (by omega)⟩, by rw [hd1]; exact hi⟩ (by simp; omega)
      have ht : (acc + d).tmod x.m = (acc + d) % x.m := by rw [Int.tmod_eq_emod_of_nonneg (by omega)]
      clear ih
      refine Run2.of I 1000 ?_
      simp -implicitDefEqProofs [hlt, hlt0, hc, hI]
      refine ⟨by omega, by omega, dcallK (hcall h) ?_⟩
      simp -implicitDefEqProofs [ht]
      exact ⟨by omega, by omega, by omega, by simpa using go⟩
  · have : x.hol p = some acc := by
      rw [← hi]
      have : (p.drop i).length ≤ 1 := by simp; omega
      match hp : p.drop i, this with
      | [], _ => rfl
      | [_], _ => rfl
    have hI : ¬ (i : Int) + 1 < p.length := by omega
    refine Run2.of I 1000 ?_
    simp -implicitDefEqProofs [hI, this]
/-- What HolonomyOf gives. -/
noncomputable def Ph.hol2 (x : Ph) (p : List Int) : Int × Int := if x.valid then (if p.length ≤ 64 then (if ∀ a ∈ p, 0 ≤ a ∧ a < x.n then (match x.hol p with | some s => (s, 0) | none => (0, 3)) else (0, 2)) else (0, 5)) else (0, 1)
noncomputable def o_l23Sum : List AV → Option (Prop × AV) := tab (fun (x : Int × Int × List T × List Int) => match x with | (n, m, ts, p) => [.ip [.int .i64 n, .int .i64 m, .snap 3 (ts.map T.av)], .snap 1 (p.map iv)]) (fun x => match x with | (n, m, ts, p) => (Ph.valid ⟨n, m, ts⟩ ∧ p.length ≤ 1048576)) (fun x => match x with | (n, m, ts, p) => stepAV (Ph.hol ⟨n, m, ts⟩ p))
@[simp] theorem o_l23Sum_e (n : Int) (m : Int) (ts : List T) (p : List Int) : o_l23Sum [.ip [.int .i64 n, .int .i64 m, .snap 3 (ts.map T.av)], .snap 1 (p.map iv)] = some ((Ph.valid ⟨n, m, ts⟩ ∧ p.length ≤ 1048576), stepAV (Ph.hol ⟨n, m, ts⟩ p)) := tab_at (enc := fun (x : Int × Int × List T × List Int) => match x with | (n, m, ts, p) => [.ip [.int .i64 n, .int .i64 m, .snap 3 (ts.map T.av)], .snap 1 (p.map iv)]) (fun x y h => by
  obtain ⟨n1, m1, ts1, p1⟩ := x; obtain ⟨n2, m2, ts2, p2⟩ := y; simp at h; simp [h]) _ _ (n, m, ts, p)
theorem o_l23Sum_k : Knows Try.prog 55 o_l23Sum := tab_knows fun x hx h => by
  obtain ⟨n, m, ts, p⟩ := x; exact l23Sum_c ⟨n, m, ts⟩ p h hx.1 hx.2
noncomputable def orcH : List (Nat × (List AV → Option (Prop × AV))) := (55, o_l23Sum) :: orcC3
theorem orcH_p : Pure Try.prog (lk orcH) := (lk_pure o_l23Sum_k orcC3_p)
@[simp] theorem orcH_l (g : FuncId) (l : List AV) : lk orcH g l = if g = 55 then o_l23Sum l else lk orcC3 g l := nr rfl
abbrev c_spec_HolonomyOf_o0 : List AJ := [.o ⟨(some 2), none, false, .box false 3 (.t 0), none⟩, .o ⟨(some 4), none, false, .mv (.c (.int .i64 0)), none⟩, .o ⟨(some 5), none, false, .mv (.c (.int .i64 0)), (some [1, 2])⟩]
def c_spec_HolonomyOf_0 : ACode := .region c_spec_HolonomyOf_o0
abbrev c_spec_HolonomyOf_o1 : List AJ := [.o ⟨(some 9), none, false, .call 49 [(.t 2)], none⟩, .o ⟨(some 10), none, false, .un .not (.t 9), (some [1, 2, 10])⟩]
def c_spec_HolonomyOf_1 : ACode := .region c_spec_HolonomyOf_o1
abbrev c_spec_HolonomyOf_o2 : List AJ := [.o ⟨(some 4), none, false, .mv (.c (.int .i64 0)), none⟩, .o ⟨(some 5), none, false, .mv (.c (.int .i64 1)), (some [4, 5])⟩]
def c_spec_HolonomyOf_2 : ACode := .region c_spec_HolonomyOf_o2
def c_spec_HolonomyOf_3 : ACode := .seq c_spec_HolonomyOf_2 .ret
def c_spec_HolonomyOf_4 : ACode := .cond (.t 10) c_spec_HolonomyOf_3 .skip
def c_spec_HolonomyOf_5 : ACode := .seq c_spec_HolonomyOf_1 c_spec_HolonomyOf_4
abbrev c_spec_HolonomyOf_o3 : List AJ := [.o ⟨(some 11), none, false, .mv (.t 1), none⟩, .o ⟨(some 12), none, false, .len (.t 11), none⟩, .o ⟨(some 13), none, false, .bin .gtr (.t 12) (.c (.int .i64 64)), (some [1, 2, 13])⟩]
def c_spec_HolonomyOf_6 : ACode := .region c_spec_HolonomyOf_o3
abbrev c_spec_HolonomyOf_o4 : List AJ := [.o ⟨(some 4), none, false, .mv (.c (.int .i64 0)), none⟩, .o ⟨(some 5), none, false, .mv (.c (.int .i64 5)), (some [4, 5])⟩]
def c_spec_HolonomyOf_7 : ACode := .region c_spec_HolonomyOf_o4
def c_spec_HolonomyOf_8 : ACode := .seq c_spec_HolonomyOf_7 .ret
def c_spec_HolonomyOf_9 : ACode := .cond (.t 13) c_spec_HolonomyOf_8 .skip
def c_spec_HolonomyOf_10 : ACode := .seq c_spec_HolonomyOf_6 c_spec_HolonomyOf_9
abbrev c_spec_HolonomyOf_o5 : List AJ := [.o ⟨(some 6), none, false, .mv (.c (.int .i64 0)), (some [1, 2, 6])⟩]
def c_spec_HolonomyOf_11 : ACode := .region c_spec_HolonomyOf_o5
abbrev c_spec_HolonomyOf_o6 : List AJ := [.o ⟨(some 14), none, false, .mv (.t 6), none⟩, .o ⟨(some 15), none, false, .mv (.t 1), none⟩, .o ⟨(some 16), none, false, .len (.t 15), none⟩, .o ⟨(some 17), none, false, .bin .lss (.t 14) (.t 16), (some [1, 2, 6, 17])⟩]
def c_spec_HolonomyOf_12 : ACode := .region c_spec_HolonomyOf_o6
def c_spec_HolonomyOf_13 : ACode := .cond (.t 17) .skip (.exit 0)
def c_spec_HolonomyOf_14 : ACode := .seq c_spec_HolonomyOf_12 c_spec_HolonomyOf_13
abbrev c_spec_HolonomyOf_o7 : List AI := [⟨(some 20), none, false, .mv (.t 1), none⟩, ⟨(some 21), none, false, .mv (.t 6), none⟩, ⟨(some 22), none, false, .idxA 1 (.t 20) (.t 21), none⟩, ⟨(some 23), none, false, .load 1 false (.t 22), none⟩, ⟨(some 24), none, false, .fieldA 0 (.t 2), none⟩, ⟨(some 25), none, false, .load 1 false (.t 24), none⟩, ⟨(some 26), none, true, .bin .sub (.t 25) (.c (.int .i64 1)), none⟩, ⟨(some 27), none, false, .call 54 [(.t 23), (.c (.int .i64 0)), (.t 26)], none⟩, ⟨(some 28), none, false, .un .not (.t 27), (some [1, 2, 6, 28])⟩]
def c_spec_HolonomyOf_15 : ACode := .draw c_spec_HolonomyOf_o7 [] rfl
abbrev c_spec_HolonomyOf_o8 : List AJ := [.o ⟨(some 4), none, false, .mv (.c (.int .i64 0)), none⟩, .o ⟨(some 5), none, false, .mv (.c (.int .i64 2)), (some [4, 5])⟩]
def c_spec_HolonomyOf_16 : ACode := .region c_spec_HolonomyOf_o8
def c_spec_HolonomyOf_17 : ACode := .seq c_spec_HolonomyOf_16 .ret
def c_spec_HolonomyOf_18 : ACode := .cond (.t 28) c_spec_HolonomyOf_17 .skip
def c_spec_HolonomyOf_19 : ACode := .seq c_spec_HolonomyOf_15 c_spec_HolonomyOf_18
def c_spec_HolonomyOf_20 : ACode := .block 1 c_spec_HolonomyOf_19
abbrev c_spec_HolonomyOf_o9 : List AJ := [.o ⟨(some 18), none, false, .mv (.t 6), none⟩, .o ⟨(some 19), none, true, .bin .add (.t 18) (.c (.int .i64 1)), none⟩, .o ⟨(some 6), none, false, .mv (.t 19), (some [1, 2, 6])⟩]
def c_spec_HolonomyOf_21 : ACode := .region c_spec_HolonomyOf_o9
def c_spec_HolonomyOf_22 : ACode := .seq c_spec_HolonomyOf_20 c_spec_HolonomyOf_21
def c_spec_HolonomyOf_23 : ACode := .seq c_spec_HolonomyOf_14 c_spec_HolonomyOf_22
def c_spec_HolonomyOf_24 : ACode := .loop c_spec_HolonomyOf_23
def c_spec_HolonomyOf_25 : ACode := .block 0 c_spec_HolonomyOf_24
def c_spec_HolonomyOf_26 : ACode := .seq c_spec_HolonomyOf_11 c_spec_HolonomyOf_25
abbrev c_spec_HolonomyOf_o10 : List AJ := [.o ⟨(some 30), none, false, .mv (.t 1), none⟩, .o ⟨(some 31), none, false, .call 55 [(.t 2), (.t 30)], none⟩, .o ⟨(some 29), none, false, .mv (.t 31), none⟩, .o ⟨(some 32), none, false, .extract (.t 29) 0, none⟩, .o ⟨(some 33), none, false, .extract (.t 29) 1, none⟩, .o ⟨(some 7), none, false, .mv (.t 32), none⟩, .o ⟨(some 8), none, false, .mv (.t 33), (some [7, 8])⟩]
def c_spec_HolonomyOf_27 : ACode := .region c_spec_HolonomyOf_o10
abbrev c_spec_HolonomyOf_o11 : List AJ := [.o ⟨(some 34), none, false, .mv (.t 8), none⟩, .o ⟨(some 35), none, false, .un .not (.t 34), (some [7, 35])⟩]
def c_spec_HolonomyOf_28 : ACode := .region c_spec_HolonomyOf_o11
abbrev c_spec_HolonomyOf_o12 : List AJ := [.o ⟨(some 4), none, false, .mv (.c (.int .i64 0)), none⟩, .o ⟨(some 5), none, false, .mv (.c (.int .i64 3)), (some [4, 5])⟩]
def c_spec_HolonomyOf_29 : ACode := .region c_spec_HolonomyOf_o12
def c_spec_HolonomyOf_30 : ACode := .seq c_spec_HolonomyOf_29 .ret
def c_spec_HolonomyOf_31 : ACode := .cond (.t 35) c_spec_HolonomyOf_30 .skip
def c_spec_HolonomyOf_32 : ACode := .seq c_spec_HolonomyOf_28 c_spec_HolonomyOf_31
abbrev c_spec_HolonomyOf_o13 : List AJ := [.o ⟨(some 36), none, false, .mv (.t 7), none⟩, .o ⟨(some 4), none, false, .mv (.t 36), none⟩, .o ⟨(some 5), none, false, .mv (.c (.int .i64 0)), (some [4, 5])⟩]
def c_spec_HolonomyOf_33 : ACode := .region c_spec_HolonomyOf_o13
def c_spec_HolonomyOf_34 : ACode := .seq c_spec_HolonomyOf_33 .ret
def c_spec_HolonomyOf_35 : ACode := .seq c_spec_HolonomyOf_32 c_spec_HolonomyOf_34
def c_spec_HolonomyOf_36 : ACode := .seq c_spec_HolonomyOf_27 c_spec_HolonomyOf_35
def c_spec_HolonomyOf_37 : ACode := .seq c_spec_HolonomyOf_26 c_spec_HolonomyOf_36
def c_spec_HolonomyOf_38 : ACode := .seq c_spec_HolonomyOf_10 c_spec_HolonomyOf_37
def c_spec_HolonomyOf_39 : ACode := .seq c_spec_HolonomyOf_5 c_spec_HolonomyOf_38
def c_spec_HolonomyOf_40 : ACode := .seq c_spec_HolonomyOf_0 c_spec_HolonomyOf_39
section
variable (C : Cx) (n : Nat) (sk : List AItem) (e : Env) (h : Heap) (R : AV → Heap → Prop)
@[simp, simp ↓] theorem c_spec_HolonomyOf_0_r : vc2 C (n + 1) [] (.code c_spec_HolonomyOf_0 :: sk) e h R = (vc2 C n c_spec_HolonomyOf_o0 sk e h R) := nr rfl
@[simp, simp ↓] theorem c_spec_HolonomyOf_1_r : vc2 C (n + 1) [] (.code c_spec_HolonomyOf_1 :: sk) e h R = (vc2 C n c_spec_HolonomyOf_o1 sk e h R) := nr rfl
@[simp, simp ↓] theorem c_spec_HolonomyOf_2_r : vc2 C (n + 1) [] (.code c_spec_HolonomyOf_2 :: sk) e h R = (vc2 C n c_spec_HolonomyOf_o2 sk e h R) := nr rfl
@[simp, simp ↓] theorem c_spec_HolonomyOf_3_r : vc2 C (n + 1) [] (.code c_spec_HolonomyOf_3 :: sk) e h R = (vc2 C n [] (.code c_spec_HolonomyOf_2 :: .code .ret :: sk) e h R) := nr rfl
@[simp, simp ↓] theorem c_spec_HolonomyOf_4_r : vc2 C (n + 1) [] (.code c_spec_HolonomyOf_4 :: sk) e h R = (condK (ev e (.t 10)) (vc2 C n [] (.code c_spec_HolonomyOf_3 :: sk) e h R) (vc2 C n [] (.code .skip :: sk) e h R)) := nr rfl
@[simp, simp ↓] theorem c_spec_HolonomyOf_5_r : vc2 C (n + 1) [] (.code c_spec_HolonomyOf_5 :: sk) e h R = (vc2 C n [] (.code c_spec_HolonomyOf_1 :: .code c_spec_HolonomyOf_4 :: sk) e h R) := nr rfl
@[simp, simp ↓] theorem c_spec_HolonomyOf_6_r : vc2 C (n + 1) [] (.code c_spec_HolonomyOf_6 :: sk) e h R = (vc2 C n c_spec_HolonomyOf_o3 sk e h R) := nr rfl
@[simp, simp ↓] theorem c_spec_HolonomyOf_7_r : vc2 C (n + 1) [] (.code c_spec_HolonomyOf_7 :: sk) e h R = (vc2 C n c_spec_HolonomyOf_o4 sk e h R) := nr rfl
@[simp, simp ↓] theorem c_spec_HolonomyOf_8_r : vc2 C (n + 1) [] (.code c_spec_HolonomyOf_8 :: sk) e h R = (vc2 C n [] (.code c_spec_HolonomyOf_7 :: .code .ret :: sk) e h R) := nr rfl
@[simp, simp ↓] theorem c_spec_HolonomyOf_9_r : vc2 C (n + 1) [] (.code c_spec_HolonomyOf_9 :: sk) e h R = (condK (ev e (.t 13)) (vc2 C n [] (.code c_spec_HolonomyOf_8 :: sk) e h R) (vc2 C n [] (.code .skip :: sk) e h R)) := nr rfl
@[simp, simp ↓] theorem c_spec_HolonomyOf_10_r : vc2 C (n + 1) [] (.code c_spec_HolonomyOf_10 :: sk) e h R = (vc2 C n [] (.code c_spec_HolonomyOf_6 :: .code c_spec_HolonomyOf_9 :: sk) e h R) := nr rfl
@[simp, simp ↓] theorem c_spec_HolonomyOf_11_r : vc2 C (n + 1) [] (.code c_spec_HolonomyOf_11 :: sk) e h R = (vc2 C n c_spec_HolonomyOf_o5 sk e h R) := nr rfl
@[simp, simp ↓] theorem c_spec_HolonomyOf_12_r : vc2 C (n + 1) [] (.code c_spec_HolonomyOf_12 :: sk) e h R = (vc2 C n c_spec_HolonomyOf_o6 sk e h R) := nr rfl
@[simp, simp ↓] theorem c_spec_HolonomyOf_13_r : vc2 C (n + 1) [] (.code c_spec_HolonomyOf_13 :: sk) e h R = (condK (ev e (.t 17)) (vc2 C n [] (.code .skip :: sk) e h R) (vc2 C n [] (.code (.exit 0) :: sk) e h R)) := nr rfl
@[simp, simp ↓] theorem c_spec_HolonomyOf_14_r : vc2 C (n + 1) [] (.code c_spec_HolonomyOf_14 :: sk) e h R = (vc2 C n [] (.code c_spec_HolonomyOf_12 :: .code c_spec_HolonomyOf_13 :: sk) e h R) := nr rfl
@[simp, simp ↓] theorem c_spec_HolonomyOf_15_r : vc2 C (n + 1) [] (.code c_spec_HolonomyOf_15 :: sk) e h R = (draw2 C h (vK C n [] sk R h) c_spec_HolonomyOf_o7 e) := nr rfl
@[simp, simp ↓] theorem c_spec_HolonomyOf_16_r : vc2 C (n + 1) [] (.code c_spec_HolonomyOf_16 :: sk) e h R = (vc2 C n c_spec_HolonomyOf_o8 sk e h R) := nr rfl
@[simp, simp ↓] theorem c_spec_HolonomyOf_17_r : vc2 C (n + 1) [] (.code c_spec_HolonomyOf_17 :: sk) e h R = (vc2 C n [] (.code c_spec_HolonomyOf_16 :: .code .ret :: sk) e h R) := nr rfl
@[simp, simp ↓] theorem c_spec_HolonomyOf_18_r : vc2 C (n + 1) [] (.code c_spec_HolonomyOf_18 :: sk) e h R = (condK (ev e (.t 28)) (vc2 C n [] (.code c_spec_HolonomyOf_17 :: sk) e h R) (vc2 C n [] (.code .skip :: sk) e h R)) := nr rfl
@[simp, simp ↓] theorem c_spec_HolonomyOf_19_r : vc2 C (n + 1) [] (.code c_spec_HolonomyOf_19 :: sk) e h R = (vc2 C n [] (.code c_spec_HolonomyOf_15 :: .code c_spec_HolonomyOf_18 :: sk) e h R) := nr rfl
@[simp, simp ↓] theorem c_spec_HolonomyOf_20_r : vc2 C (n + 1) [] (.code c_spec_HolonomyOf_20 :: sk) e h R = (vc2 C n [] (.code c_spec_HolonomyOf_19 :: .inBlock 1 :: sk) e h R) := nr rfl
@[simp, simp ↓] theorem c_spec_HolonomyOf_21_r : vc2 C (n + 1) [] (.code c_spec_HolonomyOf_21 :: sk) e h R = (vc2 C n c_spec_HolonomyOf_o9 sk e h R) := nr rfl
@[simp, simp ↓] theorem c_spec_HolonomyOf_22_r : vc2 C (n + 1) [] (.code c_spec_HolonomyOf_22 :: sk) e h R = (vc2 C n [] (.code c_spec_HolonomyOf_20 :: .code c_spec_HolonomyOf_21 :: sk) e h R) := nr rfl
@[simp, simp ↓] theorem c_spec_HolonomyOf_23_r : vc2 C (n + 1) [] (.code c_spec_HolonomyOf_23 :: sk) e h R = (vc2 C n [] (.code c_spec_HolonomyOf_14 :: .code c_spec_HolonomyOf_22 :: sk) e h R) := nr rfl
@[simp, simp ↓] theorem c_spec_HolonomyOf_24_r : vc2 C (n + 1) [] (.code c_spec_HolonomyOf_24 :: sk) e h R = (Run2 C (.code c_spec_HolonomyOf_23 :: .inLoop c_spec_HolonomyOf_23 :: sk) e h R) := nr rfl
@[simp, simp ↓] theorem c_spec_HolonomyOf_25_r : vc2 C (n + 1) [] (.code c_spec_HolonomyOf_25 :: sk) e h R = (vc2 C n [] (.code c_spec_HolonomyOf_24 :: .inBlock 0 :: sk) e h R) := nr rfl
@[simp, simp ↓] theorem c_spec_HolonomyOf_26_r : vc2 C (n + 1) [] (.code c_spec_HolonomyOf_26 :: sk) e h R = (vc2 C n [] (.code c_spec_HolonomyOf_11 :: .code c_spec_HolonomyOf_25 :: sk) e h R) := nr rfl
@[simp, simp ↓] theorem c_spec_HolonomyOf_27_r : vc2 C (n + 1) [] (.code c_spec_HolonomyOf_27 :: sk) e h R = (vc2 C n c_spec_HolonomyOf_o10 sk e h R) := nr rfl
@[simp, simp ↓] theorem c_spec_HolonomyOf_28_r : vc2 C (n + 1) [] (.code c_spec_HolonomyOf_28 :: sk) e h R = (vc2 C n c_spec_HolonomyOf_o11 sk e h R) := nr rfl
@[simp, simp ↓] theorem c_spec_HolonomyOf_29_r : vc2 C (n + 1) [] (.code c_spec_HolonomyOf_29 :: sk) e h R = (vc2 C n c_spec_HolonomyOf_o12 sk e h R) := nr rfl
@[simp, simp ↓] theorem c_spec_HolonomyOf_30_r : vc2 C (n + 1) [] (.code c_spec_HolonomyOf_30 :: sk) e h R = (vc2 C n [] (.code c_spec_HolonomyOf_29 :: .code .ret :: sk) e h R) := nr rfl
@[simp, simp ↓] theorem c_spec_HolonomyOf_31_r : vc2 C (n + 1) [] (.code c_spec_HolonomyOf_31 :: sk) e h R = (condK (ev e (.t 35)) (vc2 C n [] (.code c_spec_HolonomyOf_30 :: sk) e h R) (vc2 C n [] (.code .skip :: sk) e h R)) := nr rfl
@[simp, simp ↓] theorem c_spec_HolonomyOf_32_r : vc2 C (n + 1) [] (.code c_spec_HolonomyOf_32 :: sk) e h R = (vc2 C n [] (.code c_spec_HolonomyOf_28 :: .code c_spec_HolonomyOf_31 :: sk) e h R) := nr rfl
@[simp, simp ↓] theorem c_spec_HolonomyOf_33_r : vc2 C (n + 1) [] (.code c_spec_HolonomyOf_33 :: sk) e h R = (vc2 C n c_spec_HolonomyOf_o13 sk e h R) := nr rfl
@[simp, simp ↓] theorem c_spec_HolonomyOf_34_r : vc2 C (n + 1) [] (.code c_spec_HolonomyOf_34 :: sk) e h R = (vc2 C n [] (.code c_spec_HolonomyOf_33 :: .code .ret :: sk) e h R) := nr rfl
@[simp, simp ↓] theorem c_spec_HolonomyOf_35_r : vc2 C (n + 1) [] (.code c_spec_HolonomyOf_35 :: sk) e h R = (vc2 C n [] (.code c_spec_HolonomyOf_32 :: .code c_spec_HolonomyOf_34 :: sk) e h R) := nr rfl
@[simp, simp ↓] theorem c_spec_HolonomyOf_36_r : vc2 C (n + 1) [] (.code c_spec_HolonomyOf_36 :: sk) e h R = (vc2 C n [] (.code c_spec_HolonomyOf_27 :: .code c_spec_HolonomyOf_35 :: sk) e h R) := nr rfl
@[simp, simp ↓] theorem c_spec_HolonomyOf_37_r : vc2 C (n + 1) [] (.code c_spec_HolonomyOf_37 :: sk) e h R = (vc2 C n [] (.code c_spec_HolonomyOf_26 :: .code c_spec_HolonomyOf_36 :: sk) e h R) := nr rfl
@[simp, simp ↓] theorem c_spec_HolonomyOf_38_r : vc2 C (n + 1) [] (.code c_spec_HolonomyOf_38 :: sk) e h R = (vc2 C n [] (.code c_spec_HolonomyOf_10 :: .code c_spec_HolonomyOf_37 :: sk) e h R) := nr rfl
@[simp, simp ↓] theorem c_spec_HolonomyOf_39_r : vc2 C (n + 1) [] (.code c_spec_HolonomyOf_39 :: sk) e h R = (vc2 C n [] (.code c_spec_HolonomyOf_5 :: .code c_spec_HolonomyOf_38 :: sk) e h R) := nr rfl
@[simp, simp ↓] theorem c_spec_HolonomyOf_40_r : vc2 C (n + 1) [] (.code c_spec_HolonomyOf_40 :: sk) e h R = (vc2 C n [] (.code c_spec_HolonomyOf_0 :: .code c_spec_HolonomyOf_39 :: sk) e h R) := nr rfl
end
noncomputable def c_spec_HolonomyOf_C (orc : Orc) : Cx := ⟨Try.prog, [], 21, 37, [.tmp 4, .tmp 5], orc⟩
@[simp] theorem c_spec_HolonomyOf_C_P (orc : Orc) : (c_spec_HolonomyOf_C orc).P = Try.prog := nr rfl
@[simp] theorem c_spec_HolonomyOf_C_o (orc : Orc) : (c_spec_HolonomyOf_C orc).orc = orc := nr rfl
@[simp] theorem c_spec_HolonomyOf_C_r (orc : Orc) : (c_spec_HolonomyOf_C orc).res = [.tmp 4, .tmp 5] := nr rfl
theorem c_spec_HolonomyOf_of {args : List AV} {h : Heap} {R : AV → Heap → Prop} {k : Nat} (ha : args.length = k) {orc : Orc} (hp : Pure Try.prog orc) (hk : Is (c_spec_HolonomyOf_C orc) Try.f21 → Run2 (c_spec_HolonomyOf_C orc) [.code c_spec_HolonomyOf_40] (argEnv 0 args) h (Post R)) (hle : k ≤ 37 := by simp) : ACalls Try.prog 21 args h R :=
  contract2 [] c_spec_HolonomyOf_40 [.tmp 4, .tmp 5] Try.func21 (by decide +kernel) rfl (by kernel_rfl) (by rw [ha]; exact hle) (by kernel_rfl) hp hk
theorem c_spec_HolonomyOf_of0 {args : List AV} {h : Heap} {R : AV → Heap → Prop} {k : Nat} (ha : args.length = k) {orc : Orc} (hp : Pure Try.prog orc) (hk : Is (c_spec_HolonomyOf_C orc) Try.f21 → Run2 (c_spec_HolonomyOf_C orc) [.code c_spec_HolonomyOf_40] (argEnv 0 args) h R) (hle : k ≤ 37 := by simp) : ACalls Try.prog 21 args h R :=
  contract20 [] c_spec_HolonomyOf_40 [.tmp 4, .tmp 5] Try.func21 (by decide +kernel) rfl (by kernel_rfl) (by rw [ha]; exact hle) (by kernel_rfl) hp hk
theorem specHol_c (x : Ph) (p : List Int) (h : Heap) (ok : x.ok) (hl : x.ts.length ≤ 1048576) (hp : p.length ≤ 1048576) : ACalls Try.prog 21 [x.av, .snap 1 (p.map iv)] h (fun v h' => v = .tup [.int .i64 (x.hol2 p).1, .int .i64 (x.hol2 p).2] ∧ h' = h) := by
  refine c_spec_HolonomyOf_of0 rfl orcC3_p fun I => ?_
  refine Run2.of I 1000 ?_
  simp -implicitDefEqProofs [ok, hl, hp]
  refine ⟨fun hv => by simp [Ph.hol2, hv], fun hv => ⟨fun h1 => by simp [Ph.hol2, hv, show ¬ p.length ≤ 64 by omega], fun h1 => ?_⟩⟩
  have hn1 := hv.1
  have hn2 := hv.2.1
  have h64 : p.length ≤ 64 := by omega
  refine Run2.loopE (fun i => [(1, .snap 1 (p.map iv)), (2, .ip [.int .i64 x.n, .int .i64 x.m, .snap 3 (x.ts.map T.av)]), (6, .int .i64 (i : Nat))]) (fun i => h) (fun i => p.length - i) (fun i => i ≤ p.length ∧ ∀ a ∈ p.take i, 0 ≤ a ∧ a < x.n) 0 (by simp) rfl (by simp) fun i hi ih => ?_
  by_cases hlt : i < p.length
  · have hbad : ¬ (0 ≤ p[i] ∧ p[i] < x.n) → x.hol2 p = (0, 2) := fun h1 => by
      have : ¬ ∀ a ∈ p, 0 ≤ a ∧ a < x.n := fun h2 => h1 (h2 _ (List.getElem_mem hlt))
      unfold Ph.hol2
      rw [if_pos hv, if_pos h64, if_neg this]
    have go := fun (h1 : 0 ≤ p[i] ∧ p[i] < x.n) => ih (i + 1) ⟨by omega, (take_all _ hlt).2 ⟨hi.2, h1⟩⟩ (by omega)
    clear ih
    refine Run2.of I 1000 ?_
    simp -implicitDefEqProofs [hlt]
    repeat' (first | refine And.intro ?_ ?_ | intro _)
    all_goals first | omega | (rw [hbad (by omega)]; done) | exact go (by omega)
  · obtain rfl : i = p.length := by omega
    have h2 := hi.2
    rw [List.take_length] at h2
    have hh : x.hol2 p = (match x.hol p with | some s => (s, 0) | none => (0, 3)) := by
      unfold Ph.hol2
      rw [if_pos hv, if_pos h64, if_pos h2]
    refine Run2.of I 1000 ?_
    simp -implicitDefEqProofs
    refine (l23Sum_c x p h hv hp).mono ?_
    rintro v h' ⟨rfl, rfl⟩
    refine gK.go ?_
    cases hs : x.hol p <;> rw [hs] at hh <;> simp -implicitDefEqProofs [hh]
abbrev c_impl_HolonomyOf_o0 : List AJ := [.o ⟨(some 2), none, false, .box false 3 (.t 0), none⟩, .o ⟨(some 4), none, false, .mv (.c (.int .i64 0)), none⟩, .o ⟨(some 5), none, false, .mv (.c (.int .i64 0)), (some [1, 2])⟩]
def c_impl_HolonomyOf_0 : ACode := .region c_impl_HolonomyOf_o0
abbrev c_impl_HolonomyOf_o1 : List AJ := [.o ⟨(some 9), none, false, .load 3 true (.t 2), none⟩, .o ⟨(some 10), none, false, .call 20 [(.t 9)], none⟩, .o ⟨(some 11), none, false, .un .not (.t 10), none⟩, .o ⟨(some 8), none, false, .mv (.t 11), (some [1, 2, 8])⟩]
def c_impl_HolonomyOf_1 : ACode := .region c_impl_HolonomyOf_o1
abbrev c_impl_HolonomyOf_o2 : List AJ := [.o ⟨(some 4), none, false, .mv (.c (.int .i64 0)), none⟩, .o ⟨(some 5), none, false, .mv (.c (.int .i64 1)), (some [4, 5])⟩]
def c_impl_HolonomyOf_2 : ACode := .region c_impl_HolonomyOf_o2
def c_impl_HolonomyOf_3 : ACode := .seq c_impl_HolonomyOf_2 .ret
abbrev c_impl_HolonomyOf_o3 : List AJ := [.o ⟨(some 13), none, false, .mv (.t 1), none⟩, .o ⟨(some 14), none, false, .len (.t 13), none⟩, .o ⟨(some 15), none, false, .bin .gtr (.t 14) (.c (.int .i64 64)), none⟩, .o ⟨(some 12), none, false, .mv (.t 15), (some [1, 2, 12])⟩]
def c_impl_HolonomyOf_4 : ACode := .region c_impl_HolonomyOf_o3
abbrev c_impl_HolonomyOf_o4 : List AJ := [.o ⟨(some 4), none, false, .mv (.c (.int .i64 0)), none⟩, .o ⟨(some 5), none, false, .mv (.c (.int .i64 5)), (some [4, 5])⟩]
def c_impl_HolonomyOf_5 : ACode := .region c_impl_HolonomyOf_o4
def c_impl_HolonomyOf_6 : ACode := .seq c_impl_HolonomyOf_5 .ret
abbrev c_impl_HolonomyOf_o5 : List AJ := [.o ⟨(some 17), none, false, .mv (.t 1), none⟩, .o ⟨(some 18), none, false, .fieldA 0 (.t 2), none⟩, .o ⟨(some 19), none, false, .load 1 false (.t 18), none⟩, .o ⟨(some 20), none, false, .call 56 [(.t 17), (.t 19)], none⟩, .o ⟨(some 21), none, false, .un .not (.t 20), none⟩, .o ⟨(some 16), none, false, .mv (.t 21), (some [1, 2, 16])⟩]
def c_impl_HolonomyOf_7 : ACode := .region c_impl_HolonomyOf_o5
abbrev c_impl_HolonomyOf_o6 : List AJ := [.o ⟨(some 4), none, false, .mv (.c (.int .i64 0)), none⟩, .o ⟨(some 5), none, false, .mv (.c (.int .i64 2)), (some [4, 5])⟩]
def c_impl_HolonomyOf_8 : ACode := .region c_impl_HolonomyOf_o6
def c_impl_HolonomyOf_9 : ACode := .seq c_impl_HolonomyOf_8 .ret
def c_impl_HolonomyOf_10 : ACode := .cond (.t 16) c_impl_HolonomyOf_9 .skip
def c_impl_HolonomyOf_11 : ACode := .seq c_impl_HolonomyOf_7 c_impl_HolonomyOf_10
def c_impl_HolonomyOf_12 : ACode := .cond (.t 12) c_impl_HolonomyOf_6 c_impl_HolonomyOf_11
def c_impl_HolonomyOf_13 : ACode := .seq c_impl_HolonomyOf_4 c_impl_HolonomyOf_12
def c_impl_HolonomyOf_14 : ACode := .cond (.t 8) c_impl_HolonomyOf_3 c_impl_HolonomyOf_13
def c_impl_HolonomyOf_15 : ACode := .seq c_impl_HolonomyOf_1 c_impl_HolonomyOf_14
def c_impl_HolonomyOf_16 : ACode := .block 0 c_impl_HolonomyOf_15
abbrev c_impl_HolonomyOf_o7 : List AJ := [.o ⟨(some 23), none, false, .load 3 true (.t 2), none⟩, .o ⟨(some 24), none, false, .mv (.t 1), none⟩, .o ⟨(some 25), none, false, .call 57 [(.t 23), (.t 24)], none⟩, .o ⟨(some 22), none, false, .mv (.t 25), none⟩, .o ⟨(some 26), none, false, .extract (.t 22) 0, none⟩, .o ⟨(some 27), none, false, .extract (.t 22) 1, none⟩, .o ⟨(some 6), none, false, .mv (.t 26), none⟩, .o ⟨(some 7), none, false, .mv (.t 27), (some [6, 7])⟩]
def c_impl_HolonomyOf_17 : ACode := .region c_impl_HolonomyOf_o7
abbrev c_impl_HolonomyOf_o8 : List AJ := [.o ⟨(some 28), none, false, .mv (.t 7), none⟩, .o ⟨(some 29), none, false, .un .not (.t 28), (some [6, 29])⟩]
def c_impl_HolonomyOf_18 : ACode := .region c_impl_HolonomyOf_o8
abbrev c_impl_HolonomyOf_o9 : List AJ := [.o ⟨(some 4), none, false, .mv (.c (.int .i64 0)), none⟩, .o ⟨(some 5), none, false, .mv (.c (.int .i64 3)), (some [4, 5])⟩]
def c_impl_HolonomyOf_19 : ACode := .region c_impl_HolonomyOf_o9
def c_impl_HolonomyOf_20 : ACode := .seq c_impl_HolonomyOf_19 .ret
def c_impl_HolonomyOf_21 : ACode := .cond (.t 29) c_impl_HolonomyOf_20 .skip
def c_impl_HolonomyOf_22 : ACode := .seq c_impl_HolonomyOf_18 c_impl_HolonomyOf_21
abbrev c_impl_HolonomyOf_o10 : List AJ := [.o ⟨(some 30), none, false, .mv (.t 6), none⟩, .o ⟨(some 4), none, false, .mv (.t 30), none⟩, .o ⟨(some 5), none, false, .mv (.c (.int .i64 0)), (some [4, 5])⟩]
def c_impl_HolonomyOf_23 : ACode := .region c_impl_HolonomyOf_o10
def c_impl_HolonomyOf_24 : ACode := .seq c_impl_HolonomyOf_23 .ret
def c_impl_HolonomyOf_25 : ACode := .seq c_impl_HolonomyOf_22 c_impl_HolonomyOf_24
def c_impl_HolonomyOf_26 : ACode := .seq c_impl_HolonomyOf_17 c_impl_HolonomyOf_25
def c_impl_HolonomyOf_27 : ACode := .seq c_impl_HolonomyOf_16 c_impl_HolonomyOf_26
def c_impl_HolonomyOf_28 : ACode := .seq c_impl_HolonomyOf_0 c_impl_HolonomyOf_27
section
variable (C : Cx) (n : Nat) (sk : List AItem) (e : Env) (h : Heap) (R : AV → Heap → Prop)
@[simp, simp ↓] theorem c_impl_HolonomyOf_0_r : vc2 C (n + 1) [] (.code c_impl_HolonomyOf_0 :: sk) e h R = (vc2 C n c_impl_HolonomyOf_o0 sk e h R) := nr rfl
@[simp, simp ↓] theorem c_impl_HolonomyOf_1_r : vc2 C (n + 1) [] (.code c_impl_HolonomyOf_1 :: sk) e h R = (vc2 C n c_impl_HolonomyOf_o1 sk e h R) := nr rfl
@[simp, simp ↓] theorem c_impl_HolonomyOf_2_r : vc2 C (n + 1) [] (.code c_impl_HolonomyOf_2 :: sk) e h R = (vc2 C n c_impl_HolonomyOf_o2 sk e h R) := nr rfl
@[simp, simp ↓] theorem c_impl_HolonomyOf_3_r : vc2 C (n + 1) [] (.code c_impl_HolonomyOf_3 :: sk) e h R = (vc2 C n [] (.code c_impl_HolonomyOf_2 :: .code .ret :: sk) e h R) := nr rfl
@[simp, simp ↓] theorem c_impl_HolonomyOf_4_r : vc2 C (n + 1) [] (.code c_impl_HolonomyOf_4 :: sk) e h R = (vc2 C n c_impl_HolonomyOf_o3 sk e h R) := nr rfl
@[simp, simp ↓] theorem c_impl_HolonomyOf_5_r : vc2 C (n + 1) [] (.code c_impl_HolonomyOf_5 :: sk) e h R = (vc2 C n c_impl_HolonomyOf_o4 sk e h R) := nr rfl
@[simp, simp ↓] theorem c_impl_HolonomyOf_6_r : vc2 C (n + 1) [] (.code c_impl_HolonomyOf_6 :: sk) e h R = (vc2 C n [] (.code c_impl_HolonomyOf_5 :: .code .ret :: sk) e h R) := nr rfl
@[simp, simp ↓] theorem c_impl_HolonomyOf_7_r : vc2 C (n + 1) [] (.code c_impl_HolonomyOf_7 :: sk) e h R = (vc2 C n c_impl_HolonomyOf_o5 sk e h R) := nr rfl
@[simp, simp ↓] theorem c_impl_HolonomyOf_8_r : vc2 C (n + 1) [] (.code c_impl_HolonomyOf_8 :: sk) e h R = (vc2 C n c_impl_HolonomyOf_o6 sk e h R) := nr rfl
@[simp, simp ↓] theorem c_impl_HolonomyOf_9_r : vc2 C (n + 1) [] (.code c_impl_HolonomyOf_9 :: sk) e h R = (vc2 C n [] (.code c_impl_HolonomyOf_8 :: .code .ret :: sk) e h R) := nr rfl
@[simp, simp ↓] theorem c_impl_HolonomyOf_10_r : vc2 C (n + 1) [] (.code c_impl_HolonomyOf_10 :: sk) e h R = (condK (ev e (.t 16)) (vc2 C n [] (.code c_impl_HolonomyOf_9 :: sk) e h R) (vc2 C n [] (.code .skip :: sk) e h R)) := nr rfl
@[simp, simp ↓] theorem c_impl_HolonomyOf_11_r : vc2 C (n + 1) [] (.code c_impl_HolonomyOf_11 :: sk) e h R = (vc2 C n [] (.code c_impl_HolonomyOf_7 :: .code c_impl_HolonomyOf_10 :: sk) e h R) := nr rfl
@[simp, simp ↓] theorem c_impl_HolonomyOf_12_r : vc2 C (n + 1) [] (.code c_impl_HolonomyOf_12 :: sk) e h R = (condK (ev e (.t 12)) (vc2 C n [] (.code c_impl_HolonomyOf_6 :: sk) e h R) (vc2 C n [] (.code c_impl_HolonomyOf_11 :: sk) e h R)) := nr rfl
@[simp, simp ↓] theorem c_impl_HolonomyOf_13_r : vc2 C (n + 1) [] (.code c_impl_HolonomyOf_13 :: sk) e h R = (vc2 C n [] (.code c_impl_HolonomyOf_4 :: .code c_impl_HolonomyOf_12 :: sk) e h R) := nr rfl
@[simp, simp ↓] theorem c_impl_HolonomyOf_14_r : vc2 C (n + 1) [] (.code c_impl_HolonomyOf_14 :: sk) e h R = (condK (ev e (.t 8)) (vc2 C n [] (.code c_impl_HolonomyOf_3 :: sk) e h R) (vc2 C n [] (.code c_impl_HolonomyOf_13 :: sk) e h R)) := nr rfl
@[simp, simp ↓] theorem c_impl_HolonomyOf_15_r : vc2 C (n + 1) [] (.code c_impl_HolonomyOf_15 :: sk) e h R = (vc2 C n [] (.code c_impl_HolonomyOf_1 :: .code c_impl_HolonomyOf_14 :: sk) e h R) := nr rfl
@[simp, simp ↓] theorem c_impl_HolonomyOf_16_r : vc2 C (n + 1) [] (.code c_impl_HolonomyOf_16 :: sk) e h R = (vc2 C n [] (.code c_impl_HolonomyOf_15 :: .inBlock 0 :: sk) e h R) := nr rfl
@[simp, simp ↓] theorem c_impl_HolonomyOf_17_r : vc2 C (n + 1) [] (.code c_impl_HolonomyOf_17 :: sk) e h R = (vc2 C n c_impl_HolonomyOf_o7 sk e h R) := nr rfl
@[simp, simp ↓] theorem c_impl_HolonomyOf_18_r : vc2 C (n + 1) [] (.code c_impl_HolonomyOf_18 :: sk) e h R = (vc2 C n c_impl_HolonomyOf_o8 sk e h R) := nr rfl
@[simp, simp ↓] theorem c_impl_HolonomyOf_19_r : vc2 C (n + 1) [] (.code c_impl_HolonomyOf_19 :: sk) e h R = (vc2 C n c_impl_HolonomyOf_o9 sk e h R) := nr rfl
@[simp, simp ↓] theorem c_impl_HolonomyOf_20_r : vc2 C (n + 1) [] (.code c_impl_HolonomyOf_20 :: sk) e h R = (vc2 C n [] (.code c_impl_HolonomyOf_19 :: .code .ret :: sk) e h R) := nr rfl
@[simp, simp ↓] theorem c_impl_HolonomyOf_21_r : vc2 C (n + 1) [] (.code c_impl_HolonomyOf_21 :: sk) e h R = (condK (ev e (.t 29)) (vc2 C n [] (.code c_impl_HolonomyOf_20 :: sk) e h R) (vc2 C n [] (.code .skip :: sk) e h R)) := nr rfl
@[simp, simp ↓] theorem c_impl_HolonomyOf_22_r : vc2 C (n + 1) [] (.code c_impl_HolonomyOf_22 :: sk) e h R = (vc2 C n [] (.code c_impl_HolonomyOf_18 :: .code c_impl_HolonomyOf_21 :: sk) e h R) := nr rfl
@[simp, simp ↓] theorem c_impl_HolonomyOf_23_r : vc2 C (n + 1) [] (.code c_impl_HolonomyOf_23 :: sk) e h R = (vc2 C n c_impl_HolonomyOf_o10 sk e h R) := nr rfl
@[simp, simp ↓] theorem c_impl_HolonomyOf_24_r : vc2 C (n + 1) [] (.code c_impl_HolonomyOf_24 :: sk) e h R = (vc2 C n [] (.code c_impl_HolonomyOf_23 :: .code .ret :: sk) e h R) := nr rfl
@[simp, simp ↓] theorem c_impl_HolonomyOf_25_r : vc2 C (n + 1) [] (.code c_impl_HolonomyOf_25 :: sk) e h R = (vc2 C n [] (.code c_impl_HolonomyOf_22 :: .code c_impl_HolonomyOf_24 :: sk) e h R) := nr rfl
@[simp, simp ↓] theorem c_impl_HolonomyOf_26_r : vc2 C (n + 1) [] (.code c_impl_HolonomyOf_26 :: sk) e h R = (vc2 C n [] (.code c_impl_HolonomyOf_17 :: .code c_impl_HolonomyOf_25 :: sk) e h R) := nr rfl
@[simp, simp ↓] theorem c_impl_HolonomyOf_27_r : vc2 C (n + 1) [] (.code c_impl_HolonomyOf_27 :: sk) e h R = (vc2 C n [] (.code c_impl_HolonomyOf_16 :: .code c_impl_HolonomyOf_26 :: sk) e h R) := nr rfl
@[simp, simp ↓] theorem c_impl_HolonomyOf_28_r : vc2 C (n + 1) [] (.code c_impl_HolonomyOf_28 :: sk) e h R = (vc2 C n [] (.code c_impl_HolonomyOf_0 :: .code c_impl_HolonomyOf_27 :: sk) e h R) := nr rfl
end
noncomputable def c_impl_HolonomyOf_C (orc : Orc) : Cx := ⟨Try.prog, [], 23, 31, [.tmp 4, .tmp 5], orc⟩
@[simp] theorem c_impl_HolonomyOf_C_P (orc : Orc) : (c_impl_HolonomyOf_C orc).P = Try.prog := nr rfl
@[simp] theorem c_impl_HolonomyOf_C_o (orc : Orc) : (c_impl_HolonomyOf_C orc).orc = orc := nr rfl
@[simp] theorem c_impl_HolonomyOf_C_r (orc : Orc) : (c_impl_HolonomyOf_C orc).res = [.tmp 4, .tmp 5] := nr rfl
theorem c_impl_HolonomyOf_of {args : List AV} {h : Heap} {R : AV → Heap → Prop} {k : Nat} (ha : args.length = k) {orc : Orc} (hp : Pure Try.prog orc) (hk : Is (c_impl_HolonomyOf_C orc) Try.f23 → Run2 (c_impl_HolonomyOf_C orc) [.code c_impl_HolonomyOf_28] (argEnv 0 args) h (Post R)) (hle : k ≤ 31 := by simp) : ACalls Try.prog 23 args h R :=
  contract2 [] c_impl_HolonomyOf_28 [.tmp 4, .tmp 5] Try.func23 (by decide +kernel) rfl (by kernel_rfl) (by rw [ha]; exact hle) (by kernel_rfl) hp hk
theorem c_impl_HolonomyOf_of0 {args : List AV} {h : Heap} {R : AV → Heap → Prop} {k : Nat} (ha : args.length = k) {orc : Orc} (hp : Pure Try.prog orc) (hk : Is (c_impl_HolonomyOf_C orc) Try.f23 → Run2 (c_impl_HolonomyOf_C orc) [.code c_impl_HolonomyOf_28] (argEnv 0 args) h R) (hle : k ≤ 31 := by simp) : ACalls Try.prog 23 args h R :=
  contract20 [] c_impl_HolonomyOf_28 [.tmp 4, .tmp 5] Try.func23 (by decide +kernel) rfl (by kernel_rfl) (by rw [ha]; exact hle) (by kernel_rfl) hp hk
theorem implHol_c (x : Ph) (p : List Int) (h : Heap) (ok : x.ok) (hl : x.ts.length ≤ 1048576) (hp : p.length ≤ 1048576) : ACalls Try.prog 23 [x.av, .snap 1 (p.map iv)] h (fun v h' => v = .tup [.int .i64 (x.hol2 p).1, .int .i64 (x.hol2 p).2] ∧ h' = h) := by
  refine c_impl_HolonomyOf_of0 rfl orcF_p fun I => ?_
  refine Run2.of I 1000 ?_
  simp -implicitDefEqProofs [ok, hl, hp]
  refine ⟨fun hv => by simp [Ph.hol2, hv], fun hv => ⟨fun h1 => by simp [Ph.hol2, hv, show ¬ p.length ≤ 64 by omega], fun h1 => ?_⟩⟩
  have hn1 := hv.1
  have hn2 := hv.2.1
  have h64 : p.length ≤ 64 := by omega
  refine ⟨by omega, fun a ha hb => ?_, fun h2 => ?_⟩
  · have : ¬ ∀ a ∈ p, 0 ≤ a ∧ a < x.n := fun h2 => by have := h2 a ha; omega
    unfold Ph.hol2
    rw [if_pos hv, if_pos h64, if_neg this]
    exact ⟨rfl, rfl⟩
  · have hh : x.hol2 p = (match x.hol p with | some s => (s, 0) | none => (0, 3)) := by
      unfold Ph.hol2
      rw [if_pos hv, if_pos h64, if_pos h2]
    refine (holonomy_c x p h hv hp).mono ?_
    rintro v h' ⟨rfl, rfl⟩
    refine gK.go ?_
    cases hs : x.hol p <;> rw [hs] at hh <;> simp -implicitDefEqProofs [hh]
end Go.AG
