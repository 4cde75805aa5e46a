/- Phases as plain data, and what the set's own helpers of phases do: they copy, compare and count. No statement is made here. -/
import Derived.Test.YtknonamjhdlmlaaRows
import Derived.Test.YtknonamjhdlmlaaIntS
namespace Go.AG
open Go.Proofs Go.Proofs.Ytknonamjhdlmlaa
set_option linter.unusedSimpArgs false
set_option linter.unusedVariables false
set_option maxRecDepth 4000
structure T where
  f : Int
  t : Int
  s : Int
  deriving DecidableEq, Inhabited
@[simp] def T.av (x : T) : AV := .agg [.int .i64 x.f, .int .i64 x.t, .int .i64 x.s]
def T.ok (x : T) : Prop := in64 x.f ∧ in64 x.t ∧ in64 x.s
structure Ph where
  n : Int
  m : Int
  ts : List T
  deriving DecidableEq
@[simp] def Ph.av (x : Ph) : AV := .agg [.int .i64 x.n, .int .i64 x.m, .snap 3 (x.ts.map T.av)]
def Ph.ok (x : Ph) : Prop := in64 x.n ∧ in64 x.m ∧ ∀ t ∈ x.ts, t.ok
theorem T.ext' {x y : T} (h1 : x.f = y.f) (h2 : x.t = y.t) (h3 : x.s = y.s) : x = y := by
  cases x; cases y; simp at h1 h2 h3; simp [h1, h2, h3]
theorem T.av_inj {x y : T} (h : x.av = y.av) : x = y := by
  simp at h; exact T.ext' h.1 h.2.1 h.2.2
@[simp] theorem Ts_inj (l m : List T) : (l.map T.av = m.map T.av) ↔ l = m := ⟨fun h => List.map_inj_right (fun _ _ => T.av_inj) |>.1 h, fun h => by rw [h]⟩
@[simp] theorem T_eta (x : T) : (⟨x.f, x.t, x.s⟩ : T) = x := rfl
@[simp] theorem Ph_eta (x : Ph) : (⟨x.n, x.m, x.ts⟩ : Ph) = x := rfl
def tz : AV := .agg [.int .i64 0, .int .i64 0, .int .i64 0]
def tyT : Ty := .struct (.cons (.int .i64) (.cons (.int .i64) (.cons (.int .i64) .nil)))
def tyPh : Ty := .struct (.cons (.int .i64) (.cons (.int .i64) (.cons (.slice tyT) .nil)))
theorem T_of_shape {x : AV} (h : isAgg x = tyT.isS ∧ shC tyT (cellsOf x)) : ∃ t : T, x = t.av ∧ t.ok := by
  obtain ⟨h1, a1, b1, e1, ⟨n1, rfl, r1⟩, a2, b2, rfl, ⟨n2, rfl, r2⟩, a3, b3, rfl, ⟨n3, rfl, r3⟩, h3⟩ := h
  have h3' : b3 = [] := h3
  subst h3'
  cases x <;> simp [isAgg, tyT, Ty.isS] at h1
  rename_i l
  refine ⟨⟨n1, n2, n3⟩, ?_, r1, r2, r3⟩
  simp only [cellsOf] at e1
  rw [e1]; rfl
theorem Ts_of_shape : ∀ {xs : List AV}, (∀ x ∈ xs, isAgg x = tyT.isS ∧ shC tyT (cellsOf x)) → ∃ ts : List T, xs = ts.map T.av ∧ ∀ t ∈ ts, t.ok
  | [], _ => ⟨[], rfl, by simp⟩
  | x :: xs, h => by
    obtain ⟨t, rfl, ht⟩ := T_of_shape (h x (List.mem_cons_self ..))
    obtain ⟨ts, rfl, hts⟩ := Ts_of_shape (xs := xs) fun y hy => h y (List.mem_cons_of_mem _ hy)
    exact ⟨t :: ts, rfl, by simpa using ⟨ht, hts⟩⟩
def Ph.wf (p : Ph) : Prop := p.ok ∧ p.ts.length ≤ 9223372036854775807
theorem Ph_of_shape {x : AV} (h : shV tyPh x) : ∃ p : Ph, x = p.av ∧ p.wf := by
  obtain ⟨h1, a1, b1, e1, ⟨n1, rfl, r1⟩, a2, b2, rfl, ⟨n2, rfl, r2⟩, a3, b3, rfl, ⟨xs, rfl, hlen, r3⟩, h3⟩ := h
  have hm : maxLen ≤ 9223372036854775807 := by decide
  have h3' : b3 = [] := h3
  subst h3'
  obtain ⟨ts, rfl, hts⟩ := Ts_of_shape r3
  cases x <;> simp [isAgg, tyPh, Ty.isS] at h1
  rename_i l
  refine ⟨⟨n1, n2, ts⟩, ?_, ⟨r1, r2, hts⟩, by simp only [List.length_map] at hlen; exact Nat.le_trans hlen hm⟩
  simp only [cellsOf] at e1
  rw [e1]; rfl

abbrev c_laws_toTurn_o0 : List AJ := [.o ⟨(some 1), none, false, .box false 3 (.t 0), none⟩, .o ⟨(some 2), none, false, .alloc true 3 (.agg [(.int .i64 0), (.int .i64 0), (.int .i64 0)]), (some [1, 2])⟩]
def c_laws_toTurn_0 : ACode := .region c_laws_toTurn_o0
abbrev c_laws_toTurn_o1 : List AJ := [.o ⟨(some 3), none, false, .alloc true 3 (.agg [(.int .i64 0), (.int .i64 0), (.int .i64 0)]), (some [1, 2, 3])⟩]
def c_laws_toTurn_1 : ACode := .region c_laws_toTurn_o1
abbrev c_laws_toTurn_o2 : List AJ := [.o ⟨(some 4), none, false, .fieldA 0 (.t 1), none⟩, .o ⟨(some 5), none, false, .load 1 false (.t 4), none⟩, .o ⟨(some 6), none, false, .fieldA 0 (.t 3), none⟩, .o ⟨none, none, false, .store 1 (.t 6) (.t 5), (some [1, 2, 3])⟩]
def c_laws_toTurn_2 : ACode := .region c_laws_toTurn_o2
abbrev c_laws_toTurn_o3 : List AJ := [.o ⟨(some 7), none, false, .fieldA 1 (.t 1), none⟩, .o ⟨(some 8), none, false, .load 1 false (.t 7), none⟩, .o ⟨(some 9), none, false, .fieldA 1 (.t 3), none⟩, .o ⟨none, none, false, .store 1 (.t 9) (.t 8), (some [1, 2, 3])⟩]
def c_laws_toTurn_3 : ACode := .region c_laws_toTurn_o3
abbrev c_laws_toTurn_o4 : List AJ := [.o ⟨(some 10), none, false, .fieldA 2 (.t 1), none⟩, .o ⟨(some 11), none, false, .load 1 false (.t 10), none⟩, .o ⟨(some 12), none, false, .fieldA 2 (.t 3), none⟩, .o ⟨none, none, false, .store 1 (.t 12) (.t 11), (some [2, 3])⟩]
def c_laws_toTurn_4 : ACode := .region c_laws_toTurn_o4
abbrev c_laws_toTurn_o5 : List AJ := [.o ⟨(some 13), none, false, .load 3 true (.t 3), none⟩, .o ⟨none, none, false, .store 3 (.t 2) (.t 13), (some [2])⟩]
def c_laws_toTurn_5 : ACode := .region c_laws_toTurn_o5
def c_laws_toTurn_6 : ACode := .seq c_laws_toTurn_5 .ret
def c_laws_toTurn_7 : ACode := .seq c_laws_toTurn_4 c_laws_toTurn_6
def c_laws_toTurn_8 : ACode := .seq c_laws_toTurn_3 c_laws_toTurn_7
def c_laws_toTurn_9 : ACode := .seq c_laws_toTurn_2 c_laws_toTurn_8
def c_laws_toTurn_10 : ACode := .seq c_laws_toTurn_1 c_laws_toTurn_9
def c_laws_toTurn_11 : ACode := .seq c_laws_toTurn_0 c_laws_toTurn_10
section
variable (C : Cx) (n : Nat) (sk : List AItem) (e : Env) (h : Heap) (R : AV → Heap → Prop)
@[simp, simp ↓] theorem c_laws_toTurn_0_r : vc2 C (n + 1) [] (.code c_laws_toTurn_0 :: sk) e h R = (vc2 C n c_laws_toTurn_o0 sk e h R) := nr rfl
@[simp, simp ↓] theorem c_laws_toTurn_1_r : vc2 C (n + 1) [] (.code c_laws_toTurn_1 :: sk) e h R = (vc2 C n c_laws_toTurn_o1 sk e h R) := nr rfl
@[simp, simp ↓] theorem c_laws_toTurn_2_r : vc2 C (n + 1) [] (.code c_laws_toTurn_2 :: sk) e h R = (vc2 C n c_laws_toTurn_o2 sk e h R) := nr rfl
@[simp, simp ↓] theorem c_laws_toTurn_3_r : vc2 C (n + 1) [] (.code c_laws_toTurn_3 :: sk) e h R = (vc2 C n c_laws_toTurn_o3 sk e h R) := nr rfl
@[simp, simp ↓] theorem c_laws_toTurn_4_r : vc2 C (n + 1) [] (.code c_laws_toTurn_4 :: sk) e h R = (vc2 C n c_laws_toTurn_o4 sk e h R) := nr rfl
@[simp, simp ↓] theorem c_laws_toTurn_5_r : vc2 C (n + 1) [] (.code c_laws_toTurn_5 :: sk) e h R = (vc2 C n c_laws_toTurn_o5 sk e h R) := nr rfl
@[simp, simp ↓] theorem c_laws_toTurn_6_r : vc2 C (n + 1) [] (.code c_laws_toTurn_6 :: sk) e h R = (vc2 C n [] (.code c_laws_toTurn_5 :: .code .ret :: sk) e h R) := nr rfl
@[simp, simp ↓] theorem c_laws_toTurn_7_r : vc2 C (n + 1) [] (.code c_laws_toTurn_7 :: sk) e h R = (vc2 C n [] (.code c_laws_toTurn_4 :: .code c_laws_toTurn_6 :: sk) e h R) := nr rfl
@[simp, simp ↓] theorem c_laws_toTurn_8_r : vc2 C (n + 1) [] (.code c_laws_toTurn_8 :: sk) e h R = (vc2 C n [] (.code c_laws_toTurn_3 :: .code c_laws_toTurn_7 :: sk) e h R) := nr rfl
@[simp, simp ↓] theorem c_laws_toTurn_9_r : vc2 C (n + 1) [] (.code c_laws_toTurn_9 :: sk) e h R = (vc2 C n [] (.code c_laws_toTurn_2 :: .code c_laws_toTurn_8 :: sk) e h R) := nr rfl
@[simp, simp ↓] theorem c_laws_toTurn_10_r : vc2 C (n + 1) [] (.code c_laws_toTurn_10 :: sk) e h R = (vc2 C n [] (.code c_laws_toTurn_1 :: .code c_laws_toTurn_9 :: sk) e h R) := nr rfl
@[simp, simp ↓] theorem c_laws_toTurn_11_r : vc2 C (n + 1) [] (.code c_laws_toTurn_11 :: sk) e h R = (vc2 C n [] (.code c_laws_toTurn_0 :: .code c_laws_toTurn_10 :: sk) e h R) := nr rfl
end
noncomputable def c_laws_toTurn_C (orc : Orc) : Cx := ⟨Try.prog, [2, 3], 86, 14, [.cell 2 3 true], orc⟩
@[simp] theorem c_laws_toTurn_C_P (orc : Orc) : (c_laws_toTurn_C orc).P = Try.prog := nr rfl
@[simp] theorem c_laws_toTurn_C_o (orc : Orc) : (c_laws_toTurn_C orc).orc = orc := nr rfl
@[simp] theorem c_laws_toTurn_C_r (orc : Orc) : (c_laws_toTurn_C orc).res = [.cell 2 3 true] := nr rfl
theorem c_laws_toTurn_of {args : List AV} {h : Heap} {R : AV → Heap → Prop} {k : Nat} (ha : args.length = k) {orc : Orc} (hp : Pure Try.prog orc) (hk : Is (c_laws_toTurn_C orc) Try.f86 → Run2 (c_laws_toTurn_C orc) [.code c_laws_toTurn_11] (argEnv 0 args) h (Post R)) (hle : k ≤ 14 := by simp) : ACalls Try.prog 86 args h R :=
  contract2 [2, 3] c_laws_toTurn_11 [.cell 2 3 true] Try.func86 (by decide +kernel) rfl (by kernel_rfl) (by rw [ha]; exact hle) (by kernel_rfl) hp hk
theorem c_laws_toTurn_of0 {args : List AV} {h : Heap} {R : AV → Heap → Prop} {k : Nat} (ha : args.length = k) {orc : Orc} (hp : Pure Try.prog orc) (hk : Is (c_laws_toTurn_C orc) Try.f86 → Run2 (c_laws_toTurn_C orc) [.code c_laws_toTurn_11] (argEnv 0 args) h R) (hle : k ≤ 14 := by simp) : ACalls Try.prog 86 args h R :=
  contract20 [2, 3] c_laws_toTurn_11 [.cell 2 3 true] Try.func86 (by decide +kernel) rfl (by kernel_rfl) (by rw [ha]; exact hle) (by kernel_rfl) hp hk
theorem toTurn_c (x : T) (h : Heap) : ACalls Try.prog 86 [x.av] h (fun v h' => v = x.av ∧ h' = h) := by
  refine c_laws_toTurn_of rfl noPure fun I => ?_
  refine Run2.of I 1000 ?_
  simp -implicitDefEqProofs
  intro a ha b hb1 hb2
  refine gK.go ?_
  simp -implicitDefEqProofs [hb1]
  refine .drop b (.drop a (.base ?_))
  simp -implicitDefEqProofs [hb1]
noncomputable def o_toTurn : List AV → Option (Prop × AV) := tab (fun (x : Int × Int × Int) => match x with | (f, t, s) => [.agg [.int .i64 f, .int .i64 t, .int .i64 s]]) (fun x => match x with | (f, t, s) => True) (fun x => match x with | (f, t, s) => .agg [.int .i64 f, .int .i64 t, .int .i64 s])
@[simp] theorem o_toTurn_e (f : Int) (t : Int) (s : Int) : o_toTurn [.agg [.int .i64 f, .int .i64 t, .int .i64 s]] = some (True, .agg [.int .i64 f, .int .i64 t, .int .i64 s]) := tab_at (enc := fun (x : Int × Int × Int) => match x with | (f, t, s) => [.agg [.int .i64 f, .int .i64 t, .int .i64 s]]) (fun x y h => by
  obtain ⟨f1, t1, s1⟩ := x; obtain ⟨f2, t2, s2⟩ := y; simp at h; simp [h]) _ _ (f, t, s)
theorem o_toTurn_k : Knows Try.prog 86 o_toTurn := tab_knows fun x hx h => by
  obtain ⟨f, t, s⟩ := x; exact toTurn_c ⟨f, t, s⟩ h
abbrev c_laws_toTurnS_o0 : List AJ := [.o ⟨(some 2), none, false, .mv (.c .nilsl), (some [0])⟩]
def c_laws_toTurnS_0 : ACode := .region c_laws_toTurnS_o0
abbrev c_laws_toTurnS_o1 : List AJ := [.o ⟨(some 5), none, false, .mv (.t 0), none⟩, .o ⟨(some 6), none, false, .len (.t 5), none⟩, .o ⟨(some 7), none, false, .mksl 3 24 (.agg [(.int .i64 0), (.int .i64 0), (.int .i64 0)]) (.t 6) (.t 6), none⟩, .o ⟨(some 3), none, false, .mv (.t 7), (some [0, 3])⟩]
def c_laws_toTurnS_1 : ACode := .region c_laws_toTurnS_o1
abbrev c_laws_toTurnS_o2 : List AJ := [.o ⟨(some 4), none, false, .mv (.c (.int .i64 0)), (some [0, 3, 4])⟩]
def c_laws_toTurnS_2 : ACode := .region c_laws_toTurnS_o2
abbrev c_laws_toTurnS_o3 : List AJ := [.o ⟨(some 8), none, false, .mv (.t 4), none⟩, .o ⟨(some 9), none, false, .mv (.t 0), none⟩, .o ⟨(some 10), none, false, .len (.t 9), none⟩, .o ⟨(some 11), none, false, .bin .lss (.t 8) (.t 10), (some [0, 3, 4, 11])⟩]
def c_laws_toTurnS_3 : ACode := .region c_laws_toTurnS_o3
def c_laws_toTurnS_4 : ACode := .cond (.t 11) .skip (.exit 0)
def c_laws_toTurnS_5 : ACode := .seq c_laws_toTurnS_3 c_laws_toTurnS_4
abbrev c_laws_toTurnS_o4 : List AJ := [.o ⟨(some 14), none, false, .mv (.t 3), none⟩, .o ⟨(some 15), none, false, .mv (.t 4), none⟩, .o ⟨(some 16), none, false, .mv (.t 0), none⟩, .o ⟨(some 17), none, false, .mv (.t 4), none⟩, .o ⟨(some 18), none, false, .idxA 3 (.t 16) (.t 17), none⟩, .o ⟨(some 19), none, false, .load 3 true (.t 18), none⟩, .o ⟨(some 20), none, false, .call 86 [(.t 19)], none⟩, .o ⟨(some 21), none, false, .idxA 3 (.t 14) (.t 15), none⟩, .o ⟨none, none, false, .store 3 (.t 21) (.t 20), (some [0, 3, 4])⟩]
def c_laws_toTurnS_6 : ACode := .region c_laws_toTurnS_o4
def c_laws_toTurnS_7 : ACode := .block 1 c_laws_toTurnS_6
abbrev c_laws_toTurnS_o5 : List AJ := [.o ⟨(some 12), none, false, .mv (.t 4), none⟩, .o ⟨(some 13), none, true, .bin .add (.t 12) (.c (.int .i64 1)), none⟩, .o ⟨(some 4), none, false, .mv (.t 13), (some [0, 3, 4])⟩]
def c_laws_toTurnS_8 : ACode := .region c_laws_toTurnS_o5
def c_laws_toTurnS_9 : ACode := .seq c_laws_toTurnS_7 c_laws_toTurnS_8
def c_laws_toTurnS_10 : ACode := .seq c_laws_toTurnS_5 c_laws_toTurnS_9
def c_laws_toTurnS_11 : ACode := .loop c_laws_toTurnS_10
def c_laws_toTurnS_12 : ACode := .block 0 c_laws_toTurnS_11
def c_laws_toTurnS_13 : ACode := .seq c_laws_toTurnS_2 c_laws_toTurnS_12
abbrev c_laws_toTurnS_o6 : List AJ := [.o ⟨(some 22), none, false, .mv (.t 3), none⟩, .o ⟨(some 2), none, false, .mv (.t 22), (some [2])⟩]
def c_laws_toTurnS_14 : ACode := .region c_laws_toTurnS_o6
def c_laws_toTurnS_15 : ACode := .seq c_laws_toTurnS_14 .ret
def c_laws_toTurnS_16 : ACode := .seq c_laws_toTurnS_13 c_laws_toTurnS_15
def c_laws_toTurnS_17 : ACode := .seq c_laws_toTurnS_1 c_laws_toTurnS_16
def c_laws_toTurnS_18 : ACode := .seq c_laws_toTurnS_0 c_laws_toTurnS_17
section
variable (C : Cx) (n : Nat) (sk : List AItem) (e : Env) (h : Heap) (R : AV → Heap → Prop)
@[simp, simp ↓] theorem c_laws_toTurnS_0_r : vc2 C (n + 1) [] (.code c_laws_toTurnS_0 :: sk) e h R = (vc2 C n c_laws_toTurnS_o0 sk e h R) := nr rfl
@[simp, simp ↓] theorem c_laws_toTurnS_1_r : vc2 C (n + 1) [] (.code c_laws_toTurnS_1 :: sk) e h R = (vc2 C n c_laws_toTurnS_o1 sk e h R) := nr rfl
@[simp, simp ↓] theorem c_laws_toTurnS_2_r : vc2 C (n + 1) [] (.code c_laws_toTurnS_2 :: sk) e h R = (vc2 C n c_laws_toTurnS_o2 sk e h R) := nr rfl
@[simp, simp ↓] theorem c_laws_toTurnS_3_r : vc2 C (n + 1) [] (.code c_laws_toTurnS_3 :: sk) e h R = (vc2 C n c_laws_toTurnS_o3 sk e h R) := nr rfl
@[simp, simp ↓] theorem c_laws_toTurnS_4_r : vc2 C (n + 1) [] (.code c_laws_toTurnS_4 :: sk) e h R = (condK (ev e (.t 11)) (vc2 C n [] (.code .skip :: sk) e h R) (vc2 C n [] (.code (.exit 0) :: sk) e h R)) := nr rfl
@[simp, simp ↓] theorem c_laws_toTurnS_5_r : vc2 C (n + 1) [] (.code c_laws_toTurnS_5 :: sk) e h R = (vc2 C n [] (.code c_laws_toTurnS_3 :: .code c_laws_toTurnS_4 :: sk) e h R) := nr rfl
@[simp, simp ↓] theorem c_laws_toTurnS_6_r : vc2 C (n + 1) [] (.code c_laws_toTurnS_6 :: sk) e h R = (vc2 C n c_laws_toTurnS_o4 sk e h R) := nr rfl
@[simp, simp ↓] theorem c_laws_toTurnS_7_r : vc2 C (n + 1) [] (.code c_laws_toTurnS_7 :: sk) e h R = (vc2 C n [] (.code c_laws_toTurnS_6 :: .inBlock 1 :: sk) e h R) := nr rfl
@[simp, simp ↓] theorem c_laws_toTurnS_8_r : vc2 C (n + 1) [] (.code c_laws_toTurnS_8 :: sk) e h R = (vc2 C n c_laws_toTurnS_o5 sk e h R) := nr rfl
@[simp, simp ↓] theorem c_laws_toTurnS_9_r : vc2 C (n + 1) [] (.code c_laws_toTurnS_9 :: sk) e h R = (vc2 C n [] (.code c_laws_toTurnS_7 :: .code c_laws_toTurnS_8 :: sk) e h R) := nr rfl
@[simp, simp ↓] theorem c_laws_toTurnS_10_r : vc2 C (n + 1) [] (.code c_laws_toTurnS_10 :: sk) e h R = (vc2 C n [] (.code c_laws_toTurnS_5 :: .code c_laws_toTurnS_9 :: sk) e h R) := nr rfl
@[simp, simp ↓] theorem c_laws_toTurnS_11_r : vc2 C (n + 1) [] (.code c_laws_toTurnS_11 :: sk) e h R = (Run2 C (.code c_laws_toTurnS_10 :: .inLoop c_laws_toTurnS_10 :: sk) e h R) := nr rfl
@[simp, simp ↓] theorem c_laws_toTurnS_12_r : vc2 C (n + 1) [] (.code c_laws_toTurnS_12 :: sk) e h R = (vc2 C n [] (.code c_laws_toTurnS_11 :: .inBlock 0 :: sk) e h R) := nr rfl
@[simp, simp ↓] theorem c_laws_toTurnS_13_r : vc2 C (n + 1) [] (.code c_laws_toTurnS_13 :: sk) e h R = (vc2 C n [] (.code c_laws_toTurnS_2 :: .code c_laws_toTurnS_12 :: sk) e h R) := nr rfl
@[simp, simp ↓] theorem c_laws_toTurnS_14_r : vc2 C (n + 1) [] (.code c_laws_toTurnS_14 :: sk) e h R = (vc2 C n c_laws_toTurnS_o6 sk e h R) := nr rfl
@[simp, simp ↓] theorem c_laws_toTurnS_15_r : vc2 C (n + 1) [] (.code c_laws_toTurnS_15 :: sk) e h R = (vc2 C n [] (.code c_laws_toTurnS_14 :: .code .ret :: sk) e h R) := nr rfl
@[simp, simp ↓] theorem c_laws_toTurnS_16_r : vc2 C (n + 1) [] (.code c_laws_toTurnS_16 :: sk) e h R = (vc2 C n [] (.code c_laws_toTurnS_13 :: .code c_laws_toTurnS_15 :: sk) e h R) := nr rfl
@[simp, simp ↓] theorem c_laws_toTurnS_17_r : vc2 C (n + 1) [] (.code c_laws_toTurnS_17 :: sk) e h R = (vc2 C n [] (.code c_laws_toTurnS_1 :: .code c_laws_toTurnS_16 :: sk) e h R) := nr rfl
@[simp, simp ↓] theorem c_laws_toTurnS_18_r : vc2 C (n + 1) [] (.code c_laws_toTurnS_18 :: sk) e h R = (vc2 C n [] (.code c_laws_toTurnS_0 :: .code c_laws_toTurnS_17 :: sk) e h R) := nr rfl
end
noncomputable def c_laws_toTurnS_C (orc : Orc) : Cx := ⟨Try.prog, [], 46, 23, [.tmp 2], orc⟩
@[simp] theorem c_laws_toTurnS_C_P (orc : Orc) : (c_laws_toTurnS_C orc).P = Try.prog := nr rfl
@[simp] theorem c_laws_toTurnS_C_o (orc : Orc) : (c_laws_toTurnS_C orc).orc = orc := nr rfl
@[simp] theorem c_laws_toTurnS_C_r (orc : Orc) : (c_laws_toTurnS_C orc).res = [.tmp 2] := nr rfl
theorem c_laws_toTurnS_of {args : List AV} {h : Heap} {R : AV → Heap → Prop} {k : Nat} (ha : args.length = k) {orc : Orc} (hp : Pure Try.prog orc) (hk : Is (c_laws_toTurnS_C orc) Try.f46 → Run2 (c_laws_toTurnS_C orc) [.code c_laws_toTurnS_18] (argEnv 0 args) h (Post R)) (hle : k ≤ 23 := by simp) : ACalls Try.prog 46 args h R :=
  contract2 [] c_laws_toTurnS_18 [.tmp 2] Try.func46 (by decide +kernel) rfl (by kernel_rfl) (by rw [ha]; exact hle) (by kernel_rfl) hp hk
theorem c_laws_toTurnS_of0 {args : List AV} {h : Heap} {R : AV → Heap → Prop} {k : Nat} (ha : args.length = k) {orc : Orc} (hp : Pure Try.prog orc) (hk : Is (c_laws_toTurnS_C orc) Try.f46 → Run2 (c_laws_toTurnS_C orc) [.code c_laws_toTurnS_18] (argEnv 0 args) h R) (hle : k ≤ 23 := by simp) : ACalls Try.prog 46 args h R :=
  contract20 [] c_laws_toTurnS_18 [.tmp 2] Try.func46 (by decide +kernel) rfl (by kernel_rfl) (by rw [ha]; exact hle) (by kernel_rfl) hp hk
theorem toTurnS_w (l : List T) (h : Heap) (hl : l.length ≤ 1048576) : ACalls Try.prog 46 [.snap 3 (l.map T.av)] h (fun v h' => ∃ id, id ∉ dom h ∧ v = .sl id 3 0 l.length (some l.length) ∧ h' = (id, ⟨3, l.map T.av⟩) :: h) := by
  refine c_laws_toTurnS_of0 rfl (lk_pure o_toTurn_k lk_pure0) fun I => ?_
  refine Run2.of I 1000 ?_
  simp -implicitDefEqProofs
  refine ⟨by omega, fun id hid => ?_⟩
  refine Run2.loop (fun i => [(0, .snap 3 (l.map T.av)), (3, .sl id 3 0 l.length (some l.length)), (4, .int .i64 (i : Nat))]) (fun i => (id, ⟨3, (l.map T.av).take i ++ List.replicate (l.length - i) tz⟩) :: h) (fun i => l.length - i) (fun i => i ≤ l.length) 0 (Nat.zero_le _) fun i hi ih => ?_
  by_cases hlt : i < l.length
  · refine Run2.of I 1000 ?_
    simp -implicitDefEqProofs [hlt]
    refine ⟨by omega, by omega, ?_⟩
    have := ih (i + 1) (by omega) (by omega)
    simpa [set_fill (l.map T.av) tz (i := i) (n := l.length) (by simp) (by simpa using hlt)] using this
  · obtain rfl : i = l.length := by omega
    refine Run2.of I 1000 ?_
    simp -implicitDefEqProofs
    refine ⟨id, hid, rfl, ?_⟩
    rw [List.take_of_length_le (by simp)]
theorem toTurnS_c (l : List T) (h : Heap) (hl : l.length ≤ 1048576) : ACalls Try.prog 46 [.snap 3 (l.map T.av)] h (fun v h' => v = .snap 3 (l.map T.av) ∧ h' = h) := by
  refine ACalls.post ((toTurnS_w l h hl).mono ?_)
  rintro v h' ⟨id, hid, rfl, rfl⟩
  refine .freeze id (by simp; rfl) (.base ?_)
  simp [List.take_of_length_le]
abbrev c_laws_toPhases_o0 : List AJ := [.o ⟨(some 1), none, false, .box false 3 (.t 0), none⟩, .o ⟨(some 2), none, false, .alloc true 3 (.agg [(.int .i64 0), (.int .i64 0), .nilsl]), (some [1, 2])⟩]
def c_laws_toPhases_0 : ACode := .region c_laws_toPhases_o0
abbrev c_laws_toPhases_o1 : List AJ := [.o ⟨(some 3), none, false, .alloc true 3 (.agg [(.int .i64 0), (.int .i64 0), .nilsl]), (some [1, 2, 3])⟩]
def c_laws_toPhases_1 : ACode := .region c_laws_toPhases_o1
abbrev c_laws_toPhases_o2 : List AJ := [.o ⟨(some 4), none, false, .fieldA 0 (.t 1), none⟩, .o ⟨(some 5), none, false, .load 1 false (.t 4), none⟩, .o ⟨(some 6), none, false, .fieldA 0 (.t 3), none⟩, .o ⟨none, none, false, .store 1 (.t 6) (.t 5), (some [1, 2, 3])⟩]
def c_laws_toPhases_2 : ACode := .region c_laws_toPhases_o2
abbrev c_laws_toPhases_o3 : List AJ := [.o ⟨(some 7), none, false, .fieldA 1 (.t 1), none⟩, .o ⟨(some 8), none, false, .load 1 false (.t 7), none⟩, .o ⟨(some 9), none, false, .fieldA 1 (.t 3), none⟩, .o ⟨none, none, false, .store 1 (.t 9) (.t 8), (some [1, 2, 3])⟩]
def c_laws_toPhases_3 : ACode := .region c_laws_toPhases_o3
abbrev c_laws_toPhases_o4 : List AJ := [.o ⟨(some 10), none, false, .fieldA 2 (.t 1), none⟩, .o ⟨(some 11), none, false, .load 1 false (.t 10), none⟩, .o ⟨(some 12), none, false, .call 46 [(.t 11)], none⟩, .o ⟨(some 13), none, false, .fieldA 2 (.t 3), none⟩, .o ⟨none, none, false, .store 1 (.t 13) (.t 12), (some [2, 3])⟩]
def c_laws_toPhases_4 : ACode := .region c_laws_toPhases_o4
abbrev c_laws_toPhases_o5 : List AJ := [.o ⟨(some 14), none, false, .load 3 true (.t 3), none⟩, .o ⟨none, none, false, .store 3 (.t 2) (.t 14), (some [2])⟩]
def c_laws_toPhases_5 : ACode := .region c_laws_toPhases_o5
def c_laws_toPhases_6 : ACode := .seq c_laws_toPhases_5 .ret
def c_laws_toPhases_7 : ACode := .seq c_laws_toPhases_4 c_laws_toPhases_6
def c_laws_toPhases_8 : ACode := .seq c_laws_toPhases_3 c_laws_toPhases_7
def c_laws_toPhases_9 : ACode := .seq c_laws_toPhases_2 c_laws_toPhases_8
def c_laws_toPhases_10 : ACode := .seq c_laws_toPhases_1 c_laws_toPhases_9
def c_laws_toPhases_11 : ACode := .seq c_laws_toPhases_0 c_laws_toPhases_10
section
variable (C : Cx) (n : Nat) (sk : List AItem) (e : Env) (h : Heap) (R : AV → Heap → Prop)
@[simp, simp ↓] theorem c_laws_toPhases_0_r : vc2 C (n + 1) [] (.code c_laws_toPhases_0 :: sk) e h R = (vc2 C n c_laws_toPhases_o0 sk e h R) := nr rfl
@[simp, simp ↓] theorem c_laws_toPhases_1_r : vc2 C (n + 1) [] (.code c_laws_toPhases_1 :: sk) e h R = (vc2 C n c_laws_toPhases_o1 sk e h R) := nr rfl
@[simp, simp ↓] theorem c_laws_toPhases_2_r : vc2 C (n + 1) [] (.code c_laws_toPhases_2 :: sk) e h R = (vc2 C n c_laws_toPhases_o2 sk e h R) := nr rfl
@[simp, simp ↓] theorem c_laws_toPhases_3_r : vc2 C (n + 1) [] (.code c_laws_toPhases_3 :: sk) e h R = (vc2 C n c_laws_toPhases_o3 sk e h R) := nr rfl
@[simp, simp ↓] theorem c_laws_toPhases_4_r : vc2 C (n + 1) [] (.code c_laws_toPhases_4 :: sk) e h R = (vc2 C n c_laws_toPhases_o4 sk e h R) := nr rfl
@[simp, simp ↓] theorem c_laws_toPhases_5_r : vc2 C (n + 1) [] (.code c_laws_toPhases_5 :: sk) e h R = (vc2 C n c_laws_toPhases_o5 sk e h R) := nr rfl
@[simp, simp ↓] theorem c_laws_toPhases_6_r : vc2 C (n + 1) [] (.code c_laws_toPhases_6 :: sk) e h R = (vc2 C n [] (.code c_laws_toPhases_5 :: .code .ret :: sk) e h R) := nr rfl
@[simp, simp ↓] theorem c_laws_toPhases_7_r : vc2 C (n + 1) [] (.code c_laws_toPhases_7 :: sk) e h R = (vc2 C n [] (.code c_laws_toPhases_4 :: .code c_laws_toPhases_6 :: sk) e h R) := nr rfl
@[simp, simp ↓] theorem c_laws_toPhases_8_r : vc2 C (n + 1) [] (.code c_laws_toPhases_8 :: sk) e h R = (vc2 C n [] (.code c_laws_toPhases_3 :: .code c_laws_toPhases_7 :: sk) e h R) := nr rfl
@[simp, simp ↓] theorem c_laws_toPhases_9_r : vc2 C (n + 1) [] (.code c_laws_toPhases_9 :: sk) e h R = (vc2 C n [] (.code c_laws_toPhases_2 :: .code c_laws_toPhases_8 :: sk) e h R) := nr rfl
@[simp, simp ↓] theorem c_laws_toPhases_10_r : vc2 C (n + 1) [] (.code c_laws_toPhases_10 :: sk) e h R = (vc2 C n [] (.code c_laws_toPhases_1 :: .code c_laws_toPhases_9 :: sk) e h R) := nr rfl
@[simp, simp ↓] theorem c_laws_toPhases_11_r : vc2 C (n + 1) [] (.code c_laws_toPhases_11 :: sk) e h R = (vc2 C n [] (.code c_laws_toPhases_0 :: .code c_laws_toPhases_10 :: sk) e h R) := nr rfl
end
noncomputable def c_laws_toPhases_C (orc : Orc) : Cx := ⟨Try.prog, [2, 3], 16, 15, [.cell 2 3 true], orc⟩
@[simp] theorem c_laws_toPhases_C_P (orc : Orc) : (c_laws_toPhases_C orc).P = Try.prog := nr rfl
@[simp] theorem c_laws_toPhases_C_o (orc : Orc) : (c_laws_toPhases_C orc).orc = orc := nr rfl
@[simp] theorem c_laws_toPhases_C_r (orc : Orc) : (c_laws_toPhases_C orc).res = [.cell 2 3 true] := nr rfl
theorem c_laws_toPhases_of {args : List AV} {h : Heap} {R : AV → Heap → Prop} {k : Nat} (ha : args.length = k) {orc : Orc} (hp : Pure Try.prog orc) (hk : Is (c_laws_toPhases_C orc) Try.f16 → Run2 (c_laws_toPhases_C orc) [.code c_laws_toPhases_11] (argEnv 0 args) h (Post R)) (hle : k ≤ 15 := by simp) : ACalls Try.prog 16 args h R :=
  contract2 [2, 3] c_laws_toPhases_11 [.cell 2 3 true] Try.func16 (by decide +kernel) rfl (by kernel_rfl) (by rw [ha]; exact hle) (by kernel_rfl) hp hk
theorem c_laws_toPhases_of0 {args : List AV} {h : Heap} {R : AV → Heap → Prop} {k : Nat} (ha : args.length = k) {orc : Orc} (hp : Pure Try.prog orc) (hk : Is (c_laws_toPhases_C orc) Try.f16 → Run2 (c_laws_toPhases_C orc) [.code c_laws_toPhases_11] (argEnv 0 args) h R) (hle : k ≤ 15 := by simp) : ACalls Try.prog 16 args h R :=
  contract20 [2, 3] c_laws_toPhases_11 [.cell 2 3 true] Try.func16 (by decide +kernel) rfl (by kernel_rfl) (by rw [ha]; exact hle) (by kernel_rfl) hp hk
theorem toPhases_c (x : Ph) (h : Heap) (hl : x.ts.length ≤ 1048576) : ACalls Try.prog 16 [x.av] h (fun v h' => v = x.av ∧ h' = h) := by
  refine c_laws_toPhases_of rfl noPure fun I => ?_
  refine Run2.of I 1000 ?_
  simp -implicitDefEqProofs
  intro a ha b hb1 hb2
  refine gK.go ?_
  simp -implicitDefEqProofs [hb1]
  refine (toTurnS_c x.ts _ hl).mono ?_
  rintro v h' ⟨rfl, rfl⟩
  refine gK.go ?_
  simp -implicitDefEqProofs [hb1]
  refine .drop b (.drop a (.base ?_))
  simp -implicitDefEqProofs [hb1]
@[simp] theorem T.cold (x : T) : Go.AG.cold x.av = true := rfl
@[simp] theorem T.own (x : T) : Go.AG.own x.av = true := rfl
/-- v is phases whose edges stand in a block of its own. -/
def OwnPh (v : AV) (x : Ph) (hp : Heap) : Prop := ∃ u, v = .agg [.int .i64 x.n, .int .i64 x.m, u] ∧ OwnL T.av 3 u x.ts hp
/-- v is phases that nobody writes. -/
def IsPh (v : AV) (x : Ph) : Prop := ∃ u, v = .agg [.int .i64 x.n, .int .i64 x.m, u] ∧ IsL T.av 3 u x.ts
theorem IsPh.wk {v : AV} {x : Ph} (h : IsPh v x) : Wk v x.av := by
  obtain ⟨u, rfl, hu⟩ := h
  exact Wk.agg (.cons (.refl _) (.cons (.refl _) (.cons hu.wk .nil)))
theorem IsPh.cold {v : AV} {x : Ph} (h : IsPh v x) : Go.AG.cold v = true := by
  obtain ⟨u, rfl, hu⟩ := h
  simp [Go.AG.cold, colds, hu.cold T.cold]
theorem lend1_agg3 (L : Heap) (a b : Int) (u : AV) : lend1 L (.agg [.int .i64 a, .int .i64 b, u]) = .agg [.int .i64 a, .int .i64 b, lend1 L u] := by
  induction L generalizing u with
  | nil => rfl
  | cons p L ih => simp only [lend1, fz, fzs]; exact ih _
theorem OwnPh.lent {v : AV} {x : Ph} {hp : Heap} (h : OwnPh v x hp) : IsPh (lend1 hp v) x := by
  obtain ⟨u, rfl, hu⟩ := h
  exact ⟨_, lend1_agg3 hp _ _ u, hu.lent⟩
theorem OwnPh.lentIn {v : AV} {x : Ph} {hp : Heap} (h : OwnPh v x hp) {L : Heap} (hs : ∀ p ∈ hp, p ∈ L) (nd : (dom L).Nodup) : IsPh (lend1 L v) x := by
  obtain ⟨u, rfl, hu⟩ := h
  exact ⟨_, lend1_agg3 L _ _ u, hu.lentIn T.cold hs nd⟩
theorem OwnPh.own {v : AV} {x : Ph} {hp : Heap} (h : OwnPh v x hp) : Go.AG.own v = true ∧ (hp.all fun p => p.2.l.all Go.AG.own) = true := by
  obtain ⟨u, rfl, hu⟩ := h
  exact ⟨by simp [Go.AG.own, owns, (hu.own T.own).1], (hu.own T.own).2⟩
theorem OwnPh.nodup {v : AV} {x : Ph} {hp : Heap} (h : OwnPh v x hp) : (dom hp).Nodup := by
  obtain ⟨u, rfl, hu⟩ := h
  exact hu.nodup
theorem toPhases_o (x : Ph) (h : Heap) (hl : x.ts.length ≤ 1048576) : ACalls Try.prog 16 [x.av] h (fun v h' => ∃ h1, OwnPh v x h1 ∧ (∀ i ∈ dom h1, i ∉ dom h) ∧ h' = h1 ++ h) := by
  refine c_laws_toPhases_of rfl noPure fun I => ?_
  refine Run2.of I 1000 ?_
  simp -implicitDefEqProofs
  intro a ha b hb1 hb2
  refine gK.go ?_
  simp -implicitDefEqProofs [hb1]
  refine (toTurnS_w x.ts _ hl).mono ?_
  rintro v h' ⟨id, hid, rfl, rfl⟩
  simp [dom] at hid
  refine gK.go ?_
  simp -implicitDefEqProofs [hb1, hid, Ne.symm hid.1, Ne.symm hid.2.1]
  refine .drop b (.drop a (.base ?_))
  refine ⟨[(id, ⟨3, x.ts.map T.av ++ []⟩)], ⟨_, rfl, .sl id _ [] rfl⟩, ?_, ?_⟩
  · simpa [dom] using hid.2.2
  · simp [hid, Ne.symm hid.1, hb1]
def marksT (k : Int) (n : Nat) : List T := (List.range n).map fun i => ⟨k + 3 * (i : Nat), k + 3 * (i : Nat) + 1, k + 3 * (i : Nat) + 1 + 1⟩
@[simp] theorem marksT_length (k : Int) (n : Nat) : (marksT k n).length = n := by simp [marksT]
theorem marksT_succ (k : Int) (n : Nat) : marksT k (n + 1) = marksT k n ++ [⟨k + 3 * n, k + 3 * n + 1, k + 3 * n + 1 + 1⟩] := by simp [marksT, List.range_succ]
theorem marksT_get (k : Int) (n i : Nat) (h : i < (marksT k n).length) : (marksT k n)[i] = ⟨k + 3 * i, k + 3 * i + 1, k + 3 * i + 1 + 1⟩ := by simp [marksT]
theorem markT_step (l : List T) (ex : List AV) (k : Int) (i : Nat) (hi : i < l.length) : ((marksT k i).map T.av ++ (l.drop i).map T.av ++ ex).set i (T.av ⟨k + 3 * i, k + 3 * i + 1, k + 3 * i + 1 + 1⟩) = (marksT k (i + 1)).map T.av ++ (l.drop (i + 1)).map T.av ++ ex := by
  rw [List.drop_eq_getElem_cons hi, marksT_succ]
  simp only [List.map_cons, List.map_append, List.map_nil, List.append_assoc, List.cons_append, List.nil_append]
  rw [List.set_append_right _ _ (by simp)]
  simp
abbrev c_laws_markTurnS_o0 : List AJ := [.o ⟨(some 4), none, false, .mv (.c (.int .i64 0)), (some [0, 1])⟩]
def c_laws_markTurnS_0 : ACode := .region c_laws_markTurnS_o0
abbrev c_laws_markTurnS_o1 : List AJ := [.o ⟨(some 5), none, false, .mv (.c (.int .i64 0)), (some [0, 1, 5])⟩]
def c_laws_markTurnS_1 : ACode := .region c_laws_markTurnS_o1
abbrev c_laws_markTurnS_o2 : List AJ := [.o ⟨(some 6), none, false, .mv (.t 5), none⟩, .o ⟨(some 7), none, false, .mv (.t 0), none⟩, .o ⟨(some 8), none, false, .len (.t 7), none⟩, .o ⟨(some 9), none, false, .bin .lss (.t 6) (.t 8), (some [0, 1, 5, 9])⟩]
def c_laws_markTurnS_2 : ACode := .region c_laws_markTurnS_o2
def c_laws_markTurnS_3 : ACode := .cond (.t 9) .skip (.exit 0)
def c_laws_markTurnS_4 : ACode := .seq c_laws_markTurnS_2 c_laws_markTurnS_3
abbrev c_laws_markTurnS_o3 : List AJ := [.o ⟨(some 12), none, false, .mv (.t 0), none⟩, .o ⟨(some 13), none, false, .mv (.t 5), none⟩, .o ⟨(some 14), none, false, .mv (.t 1), none⟩, .o ⟨(some 15), none, false, .idxA 3 (.t 12) (.t 13), none⟩, .o ⟨(some 16), none, false, .fieldA 0 (.t 15), none⟩, .o ⟨none, none, false, .store 1 (.t 16) (.t 14), (some [0, 1, 5])⟩]
def c_laws_markTurnS_5 : ACode := .region c_laws_markTurnS_o3
abbrev c_laws_markTurnS_o4 : List AJ := [.o ⟨(some 17), none, false, .mv (.t 1), none⟩, .o ⟨(some 18), none, true, .bin .add (.t 17) (.c (.int .i64 1)), none⟩, .o ⟨(some 1), none, false, .mv (.t 18), (some [0, 1, 5])⟩]
def c_laws_markTurnS_6 : ACode := .region c_laws_markTurnS_o4
abbrev c_laws_markTurnS_o5 : List AJ := [.o ⟨(some 19), none, false, .mv (.t 0), none⟩, .o ⟨(some 20), none, false, .mv (.t 5), none⟩, .o ⟨(some 21), none, false, .mv (.t 1), none⟩, .o ⟨(some 22), none, false, .idxA 3 (.t 19) (.t 20), none⟩, .o ⟨(some 23), none, false, .fieldA 1 (.t 22), none⟩, .o ⟨none, none, false, .store 1 (.t 23) (.t 21), (some [0, 1, 5])⟩]
def c_laws_markTurnS_7 : ACode := .region c_laws_markTurnS_o5
abbrev c_laws_markTurnS_o6 : List AJ := [.o ⟨(some 24), none, false, .mv (.t 1), none⟩, .o ⟨(some 25), none, true, .bin .add (.t 24) (.c (.int .i64 1)), none⟩, .o ⟨(some 1), none, false, .mv (.t 25), (some [0, 1, 5])⟩]
def c_laws_markTurnS_8 : ACode := .region c_laws_markTurnS_o6
abbrev c_laws_markTurnS_o7 : List AJ := [.o ⟨(some 26), none, false, .mv (.t 0), none⟩, .o ⟨(some 27), none, false, .mv (.t 5), none⟩, .o ⟨(some 28), none, false, .mv (.t 1), none⟩, .o ⟨(some 29), none, false, .idxA 3 (.t 26) (.t 27), none⟩, .o ⟨(some 30), none, false, .fieldA 2 (.t 29), none⟩, .o ⟨none, none, false, .store 1 (.t 30) (.t 28), (some [0, 1, 5])⟩]
def c_laws_markTurnS_9 : ACode := .region c_laws_markTurnS_o7
abbrev c_laws_markTurnS_o8 : List AJ := [.o ⟨(some 31), none, false, .mv (.t 1), none⟩, .o ⟨(some 32), none, true, .bin .add (.t 31) (.c (.int .i64 1)), none⟩, .o ⟨(some 1), none, false, .mv (.t 32), (some [0, 1, 5])⟩]
def c_laws_markTurnS_10 : ACode := .region c_laws_markTurnS_o8
def c_laws_markTurnS_11 : ACode := .seq c_laws_markTurnS_9 c_laws_markTurnS_10
def c_laws_markTurnS_12 : ACode := .seq c_laws_markTurnS_8 c_laws_markTurnS_11
def c_laws_markTurnS_13 : ACode := .seq c_laws_markTurnS_7 c_laws_markTurnS_12
def c_laws_markTurnS_14 : ACode := .seq c_laws_markTurnS_6 c_laws_markTurnS_13
def c_laws_markTurnS_15 : ACode := .seq c_laws_markTurnS_5 c_laws_markTurnS_14
def c_laws_markTurnS_16 : ACode := .block 1 c_laws_markTurnS_15
abbrev c_laws_markTurnS_o9 : List AJ := [.o ⟨(some 10), none, false, .mv (.t 5), none⟩, .o ⟨(some 11), none, true, .bin .add (.t 10) (.c (.int .i64 1)), none⟩, .o ⟨(some 5), none, false, .mv (.t 11), (some [0, 1, 5])⟩]
def c_laws_markTurnS_17 : ACode := .region c_laws_markTurnS_o9
def c_laws_markTurnS_18 : ACode := .seq c_laws_markTurnS_16 c_laws_markTurnS_17
def c_laws_markTurnS_19 : ACode := .seq c_laws_markTurnS_4 c_laws_markTurnS_18
def c_laws_markTurnS_20 : ACode := .loop c_laws_markTurnS_19
def c_laws_markTurnS_21 : ACode := .block 0 c_laws_markTurnS_20
def c_laws_markTurnS_22 : ACode := .seq c_laws_markTurnS_1 c_laws_markTurnS_21
abbrev c_laws_markTurnS_o10 : List AJ := [.o ⟨(some 33), none, false, .mv (.t 1), none⟩, .o ⟨(some 4), none, false, .mv (.t 33), (some [4])⟩]
def c_laws_markTurnS_23 : ACode := .region c_laws_markTurnS_o10
def c_laws_markTurnS_24 : ACode := .seq c_laws_markTurnS_23 .ret
def c_laws_markTurnS_25 : ACode := .seq c_laws_markTurnS_22 c_laws_markTurnS_24
def c_laws_markTurnS_26 : ACode := .seq c_laws_markTurnS_0 c_laws_markTurnS_25
section
variable (C : Cx) (n : Nat) (sk : List AItem) (e : Env) (h : Heap) (R : AV → Heap → Prop)
@[simp, simp ↓] theorem c_laws_markTurnS_0_r : vc2 C (n + 1) [] (.code c_laws_markTurnS_0 :: sk) e h R = (vc2 C n c_laws_markTurnS_o0 sk e h R) := nr rfl
@[simp, simp ↓] theorem c_laws_markTurnS_1_r : vc2 C (n + 1) [] (.code c_laws_markTurnS_1 :: sk) e h R = (vc2 C n c_laws_markTurnS_o1 sk e h R) := nr rfl
@[simp, simp ↓] theorem c_laws_markTurnS_2_r : vc2 C (n + 1) [] (.code c_laws_markTurnS_2 :: sk) e h R = (vc2 C n c_laws_markTurnS_o2 sk e h R) := nr rfl
@[simp, simp ↓] theorem c_laws_markTurnS_3_r : vc2 C (n + 1) [] (.code c_laws_markTurnS_3 :: sk) e h R = (condK (ev e (.t 9)) (vc2 C n [] (.code .skip :: sk) e h R) (vc2 C n [] (.code (.exit 0) :: sk) e h R)) := nr rfl
@[simp, simp ↓] theorem c_laws_markTurnS_4_r : vc2 C (n + 1) [] (.code c_laws_markTurnS_4 :: sk) e h R = (vc2 C n [] (.code c_laws_markTurnS_2 :: .code c_laws_markTurnS_3 :: sk) e h R) := nr rfl
@[simp, simp ↓] theorem c_laws_markTurnS_5_r : vc2 C (n + 1) [] (.code c_laws_markTurnS_5 :: sk) e h R = (vc2 C n c_laws_markTurnS_o3 sk e h R) := nr rfl
@[simp, simp ↓] theorem c_laws_markTurnS_6_r : vc2 C (n + 1) [] (.code c_laws_markTurnS_6 :: sk) e h R = (vc2 C n c_laws_markTurnS_o4 sk e h R) := nr rfl
@[simp, simp ↓] theorem c_laws_markTurnS_7_r : vc2 C (n + 1) [] (.code c_laws_markTurnS_7 :: sk) e h R = (vc2 C n c_laws_markTurnS_o5 sk e h R) := nr rfl
@[simp, simp ↓] theorem c_laws_markTurnS_8_r : vc2 C (n + 1) [] (.code c_laws_markTurnS_8 :: sk) e h R = (vc2 C n c_laws_markTurnS_o6 sk e h R) := nr rfl
@[simp, simp ↓] theorem c_laws_markTurnS_9_r : vc2 C (n + 1) [] (.code c_laws_markTurnS_9 :: sk) e h R = (vc2 C n c_laws_markTurnS_o7 sk e h R) := nr rfl
@[simp, simp ↓] theorem c_laws_markTurnS_10_r : vc2 C (n + 1) [] (.code c_laws_markTurnS_10 :: sk) e h R = (vc2 C n c_laws_markTurnS_o8 sk e h R) := nr rfl
@[simp, simp ↓] theorem c_laws_markTurnS_11_r : vc2 C (n + 1) [] (.code c_laws_markTurnS_11 :: sk) e h R = (vc2 C n [] (.code c_laws_markTurnS_9 :: .code c_laws_markTurnS_10 :: sk) e h R) := nr rfl
@[simp, simp ↓] theorem c_laws_markTurnS_12_r : vc2 C (n + 1) [] (.code c_laws_markTurnS_12 :: sk) e h R = (vc2 C n [] (.code c_laws_markTurnS_8 :: .code c_laws_markTurnS_11 :: sk) e h R) := nr rfl
@[simp, simp ↓] theorem c_laws_markTurnS_13_r : vc2 C (n + 1) [] (.code c_laws_markTurnS_13 :: sk) e h R = (vc2 C n [] (.code c_laws_markTurnS_7 :: .code c_laws_markTurnS_12 :: sk) e h R) := nr rfl
@[simp, simp ↓] theorem c_laws_markTurnS_14_r : vc2 C (n + 1) [] (.code c_laws_markTurnS_14 :: sk) e h R = (vc2 C n [] (.code c_laws_markTurnS_6 :: .code c_laws_markTurnS_13 :: sk) e h R) := nr rfl
@[simp, simp ↓] theorem c_laws_markTurnS_15_r : vc2 C (n + 1) [] (.code c_laws_markTurnS_15 :: sk) e h R = (vc2 C n [] (.code c_laws_markTurnS_5 :: .code c_laws_markTurnS_14 :: sk) e h R) := nr rfl
@[simp, simp ↓] theorem c_laws_markTurnS_16_r : vc2 C (n + 1) [] (.code c_laws_markTurnS_16 :: sk) e h R = (vc2 C n [] (.code c_laws_markTurnS_15 :: .inBlock 1 :: sk) e h R) := nr rfl
@[simp, simp ↓] theorem c_laws_markTurnS_17_r : vc2 C (n + 1) [] (.code c_laws_markTurnS_17 :: sk) e h R = (vc2 C n c_laws_markTurnS_o9 sk e h R) := nr rfl
@[simp, simp ↓] theorem c_laws_markTurnS_18_r : vc2 C (n + 1) [] (.code c_laws_markTurnS_18 :: sk) e h R = (vc2 C n [] (.code c_laws_markTurnS_16 :: .code c_laws_markTurnS_17 :: sk) e h R) := nr rfl
@[simp, simp ↓] theorem c_laws_markTurnS_19_r : vc2 C (n + 1) [] (.code c_laws_markTurnS_19 :: sk) e h R = (vc2 C n [] (.code c_laws_markTurnS_4 :: .code c_laws_markTurnS_18 :: sk) e h R) := nr rfl
@[simp, simp ↓] theorem c_laws_markTurnS_20_r : vc2 C (n + 1) [] (.code c_laws_markTurnS_20 :: sk) e h R = (Run2 C (.code c_laws_markTurnS_19 :: .inLoop c_laws_markTurnS_19 :: sk) e h R) := nr rfl
@[simp, simp ↓] theorem c_laws_markTurnS_21_r : vc2 C (n + 1) [] (.code c_laws_markTurnS_21 :: sk) e h R = (vc2 C n [] (.code c_laws_markTurnS_20 :: .inBlock 0 :: sk) e h R) := nr rfl
@[simp, simp ↓] theorem c_laws_markTurnS_22_r : vc2 C (n + 1) [] (.code c_laws_markTurnS_22 :: sk) e h R = (vc2 C n [] (.code c_laws_markTurnS_1 :: .code c_laws_markTurnS_21 :: sk) e h R) := nr rfl
@[simp, simp ↓] theorem c_laws_markTurnS_23_r : vc2 C (n + 1) [] (.code c_laws_markTurnS_23 :: sk) e h R = (vc2 C n c_laws_markTurnS_o10 sk e h R) := nr rfl
@[simp, simp ↓] theorem c_laws_markTurnS_24_r : vc2 C (n + 1) [] (.code c_laws_markTurnS_24 :: sk) e h R = (vc2 C n [] (.code c_laws_markTurnS_23 :: .code .ret :: sk) e h R) := nr rfl
@[simp, simp ↓] theorem c_laws_markTurnS_25_r : vc2 C (n + 1) [] (.code c_laws_markTurnS_25 :: sk) e h R = (vc2 C n [] (.code c_laws_markTurnS_22 :: .code c_laws_markTurnS_24 :: sk) e h R) := nr rfl
@[simp, simp ↓] theorem c_laws_markTurnS_26_r : vc2 C (n + 1) [] (.code c_laws_markTurnS_26 :: sk) e h R = (vc2 C n [] (.code c_laws_markTurnS_0 :: .code c_laws_markTurnS_25 :: sk) e h R) := nr rfl
end
noncomputable def c_laws_markTurnS_C (orc : Orc) : Cx := ⟨Try.prog, [], 62, 34, [.tmp 4], orc⟩
@[simp] theorem c_laws_markTurnS_C_P (orc : Orc) : (c_laws_markTurnS_C orc).P = Try.prog := nr rfl
@[simp] theorem c_laws_markTurnS_C_o (orc : Orc) : (c_laws_markTurnS_C orc).orc = orc := nr rfl
@[simp] theorem c_laws_markTurnS_C_r (orc : Orc) : (c_laws_markTurnS_C orc).res = [.tmp 4] := nr rfl
theorem c_laws_markTurnS_of {args : List AV} {h : Heap} {R : AV → Heap → Prop} {k : Nat} (ha : args.length = k) {orc : Orc} (hp : Pure Try.prog orc) (hk : Is (c_laws_markTurnS_C orc) Try.f62 → Run2 (c_laws_markTurnS_C orc) [.code c_laws_markTurnS_26] (argEnv 0 args) h (Post R)) (hle : k ≤ 34 := by simp) : ACalls Try.prog 62 args h R :=
  contract2 [] c_laws_markTurnS_26 [.tmp 4] Try.func62 (by decide +kernel) rfl (by kernel_rfl) (by rw [ha]; exact hle) (by kernel_rfl) hp hk
theorem c_laws_markTurnS_of0 {args : List AV} {h : Heap} {R : AV → Heap → Prop} {k : Nat} (ha : args.length = k) {orc : Orc} (hp : Pure Try.prog orc) (hk : Is (c_laws_markTurnS_C orc) Try.f62 → Run2 (c_laws_markTurnS_C orc) [.code c_laws_markTurnS_26] (argEnv 0 args) h R) (hle : k ≤ 34 := by simp) : ACalls Try.prog 62 args h R :=
  contract20 [] c_laws_markTurnS_26 [.tmp 4] Try.func62 (by decide +kernel) rfl (by kernel_rfl) (by rw [ha]; exact hle) (by kernel_rfl) hp hk
theorem markTurnS_s (id : Nat) (l : List T) (ex : List AV) (cap : Option Nat) (k : Int) (hk : 0 ≤ k ∧ k ≤ 1099511627776) (hl : l.length ≤ 1073741824) : ACalls Try.prog 62 [.sl id 3 0 l.length cap, .int .i64 k] [(id, ⟨3, l.map T.av ++ ex⟩)] (fun v h' => v = .int .i64 (k + 3 * l.length) ∧ h' = [(id, ⟨3, (marksT k l.length).map T.av ++ ex⟩)]) := by
  refine c_laws_markTurnS_of0 rfl noPure fun I => ?_
  refine Run2.of I 1000 ?_
  simp -implicitDefEqProofs
  obtain ⟨f, hf0, hfn, hlen, hset, hget⟩ : ∃ f : Nat → List AV, l.map T.av ++ ex = f 0 ∧ (marksT k l.length).map T.av ++ ex = f l.length ∧ (∀ i, i ≤ l.length → (f i).length = l.length + ex.length) ∧ (∀ i, i < l.length → (f i).set i (T.av ⟨k + 3 * i, k + 3 * i + 1, k + 3 * i + 1 + 1⟩) = f (i + 1)) ∧ ∀ i, (hi : i < l.length) → (f i)[i]? = some l[i].av :=
    ⟨fun i => (marksT k i).map T.av ++ (l.drop i).map T.av ++ ex, by simp [marksT], by simp, fun i hi => by simp; omega, fun i hi => markT_step l ex k i hi, fun i hi => by
      show ((marksT k i).map T.av ++ (l.drop i).map T.av ++ ex)[i]? = _
      rw [List.append_assoc, List.getElem?_append_right (by simp)]
      rw [show i - ((marksT k i).map T.av).length = 0 by simp, List.drop_eq_getElem_cons hi]; rfl⟩
  have hz : l.map (fun x : T => AV.agg [.int .i64 x.f, .int .i64 x.t, .int .i64 x.s]) = l.map T.av := rfl
  rw [hf0, hfn]
  refine Run2.loopE (fun i => [(0, .sl id 3 0 l.length cap), (1, .int .i64 (k + 3 * (i : Nat))), (5, .int .i64 (i : Nat))]) (fun i => [(id, ⟨3, f i⟩)]) (fun i => l.length - i) (fun i => i ≤ l.length) 0 (by simp) rfl (Nat.zero_le _) fun i hi ih => ?_
  by_cases hlt : i < l.length
  · have go := ih (i + 1) (by omega) (by omega)
    have hl2 := hlen i hi
    have hg := hget i hlt
    have hlf : i < (f i).length := by omega
    have hs := hset i hlt
    clear ih
    refine Run2.of I 1000 ?_
    have hsg : ∀ A, ((f i).set i A)[i]? = some A := fun A => List.getElem?_set_self hlf
    simp -implicitDefEqProofs [hlt, hl2, hg, hsg]
    simp at hs
    rw [hs]
    refine ⟨by omega, by omega, by omega, by omega, ?_⟩
    have e : k + 3 * ((i + 1 : Nat) : Int) = k + 3 * i + 1 + 1 + 1 := by omega
    rw [e] at go
    simpa using go
  · obtain rfl : i = l.length := by omega
    refine Run2.of I 1000 ?_
    simp -implicitDefEqProofs
theorem markTurnS_o {v : AV} {l : List T} {hs : Heap} (ho : OwnL T.av 3 v l hs) (k : Int) (hk : 0 ≤ k ∧ k ≤ 1099511627776) (hl : l.length ≤ 1073741824) : ACalls Try.prog 62 [v, .int .i64 k] hs (fun r h' => r = .int .i64 (k + 3 * l.length) ∧ OwnL T.av 3 v (marksT k l.length) h') := by
  have nil : ∀ u, (u = AV.nilsl ∨ u = .emp) → ACalls Try.prog 62 [u, .int .i64 k] [] (fun r h' => r = .int .i64 (k + 3 * ([] : List T).length) ∧ OwnL T.av 3 u (marksT k 0) h') := by
    rintro u (rfl | rfl)
    all_goals
      refine c_laws_markTurnS_of0 rfl noPure fun I => ?_
      refine Run2.of I 1000 ?_
      simp -implicitDefEqProofs
      refine Run2.loopE (fun (_ : Unit) => [(0, _), (1, .int .i64 k), (5, .int .i64 0)]) (fun _ => []) (fun _ => 0) (fun _ => True) () (by rfl) rfl trivial fun _ _ _ => ?_
      refine Run2.of I 1000 ?_
      simp -implicitDefEqProofs
      constructor
  cases ho with
  | nil => exact nil _ (.inl rfl)
  | emp => exact nil _ (.inr rfl)
  | sl id cap ex hex =>
    refine (markTurnS_s id l ex cap k hk hl).mono ?_
    rintro r h' ⟨rfl, rfl⟩
    refine ⟨rfl, ?_⟩
    have := OwnL.sl (enc := T.av) (sz := 3) (l := marksT k l.length) id cap ex hex
    rwa [marksT_length] at this
abbrev c_laws_markPhases_o0 : List AJ := [.o ⟨(some 2), none, false, .box false 3 (.t 0), none⟩, .o ⟨(some 4), none, false, .mv (.c (.int .i64 0)), (some [1, 2])⟩]
def c_laws_markPhases_0 : ACode := .region c_laws_markPhases_o0
abbrev c_laws_markPhases_o1 : List AJ := [.o ⟨(some 5), none, false, .fieldA 2 (.t 2), none⟩, .o ⟨(some 6), none, false, .load 1 false (.t 5), none⟩, .o ⟨(some 7), none, false, .mv (.t 1), none⟩, .o ⟨(some 8), none, false, .call 62 [(.t 6), (.t 7)], none⟩, .o ⟨(some 1), none, false, .mv (.t 8), (some [1])⟩]
def c_laws_markPhases_1 : ACode := .region c_laws_markPhases_o1
abbrev c_laws_markPhases_o2 : List AJ := [.o ⟨(some 9), none, false, .mv (.t 1), none⟩, .o ⟨(some 4), none, false, .mv (.t 9), (some [4])⟩]
def c_laws_markPhases_2 : ACode := .region c_laws_markPhases_o2
def c_laws_markPhases_3 : ACode := .seq c_laws_markPhases_2 .ret
def c_laws_markPhases_4 : ACode := .seq c_laws_markPhases_1 c_laws_markPhases_3
def c_laws_markPhases_5 : ACode := .seq c_laws_markPhases_0 c_laws_markPhases_4
section
variable (C : Cx) (n : Nat) (sk : List AItem) (e : Env) (h : Heap) (R : AV → Heap → Prop)
@[simp, simp ↓] theorem c_laws_markPhases_0_r : vc2 C (n + 1) [] (.code c_laws_markPhases_0 :: sk) e h R = (vc2 C n c_laws_markPhases_o0 sk e h R) := nr rfl
@[simp, simp ↓] theorem c_laws_markPhases_1_r : vc2 C (n + 1) [] (.code c_laws_markPhases_1 :: sk) e h R = (vc2 C n c_laws_markPhases_o1 sk e h R) := nr rfl
@[simp, simp ↓] theorem c_laws_markPhases_2_r : vc2 C (n + 1) [] (.code c_laws_markPhases_2 :: sk) e h R = (vc2 C n c_laws_markPhases_o2 sk e h R) := nr rfl
@[simp, simp ↓] theorem c_laws_markPhases_3_r : vc2 C (n + 1) [] (.code c_laws_markPhases_3 :: sk) e h R = (vc2 C n [] (.code c_laws_markPhases_2 :: .code .ret :: sk) e h R) := nr rfl
@[simp, simp ↓] theorem c_laws_markPhases_4_r : vc2 C (n + 1) [] (.code c_laws_markPhases_4 :: sk) e h R = (vc2 C n [] (.code c_laws_markPhases_1 :: .code c_laws_markPhases_3 :: sk) e h R) := nr rfl
@[simp, simp ↓] theorem c_laws_markPhases_5_r : vc2 C (n + 1) [] (.code c_laws_markPhases_5 :: sk) e h R = (vc2 C n [] (.code c_laws_markPhases_0 :: .code c_laws_markPhases_4 :: sk) e h R) := nr rfl
end
noncomputable def c_laws_markPhases_C (orc : Orc) : Cx := ⟨Try.prog, [], 29, 10, [.tmp 4], orc⟩
@[simp] theorem c_laws_markPhases_C_P (orc : Orc) : (c_laws_markPhases_C orc).P = Try.prog := nr rfl
@[simp] theorem c_laws_markPhases_C_o (orc : Orc) : (c_laws_markPhases_C orc).orc = orc := nr rfl
@[simp] theorem c_laws_markPhases_C_r (orc : Orc) : (c_laws_markPhases_C orc).res = [.tmp 4] := nr rfl
theorem c_laws_markPhases_of {args : List AV} {h : Heap} {R : AV → Heap → Prop} {k : Nat} (ha : args.length = k) {orc : Orc} (hp : Pure Try.prog orc) (hk : Is (c_laws_markPhases_C orc) Try.f29 → Run2 (c_laws_markPhases_C orc) [.code c_laws_markPhases_5] (argEnv 0 args) h (Post R)) (hle : k ≤ 10 := by simp) : ACalls Try.prog 29 args h R :=
  contract2 [] c_laws_markPhases_5 [.tmp 4] Try.func29 (by decide +kernel) rfl (by kernel_rfl) (by rw [ha]; exact hle) (by kernel_rfl) hp hk
theorem c_laws_markPhases_of0 {args : List AV} {h : Heap} {R : AV → Heap → Prop} {k : Nat} (ha : args.length = k) {orc : Orc} (hp : Pure Try.prog orc) (hk : Is (c_laws_markPhases_C orc) Try.f29 → Run2 (c_laws_markPhases_C orc) [.code c_laws_markPhases_5] (argEnv 0 args) h R) (hle : k ≤ 10 := by simp) : ACalls Try.prog 29 args h R :=
  contract20 [] c_laws_markPhases_5 [.tmp 4] Try.func29 (by decide +kernel) rfl (by kernel_rfl) (by rw [ha]; exact hle) (by kernel_rfl) hp hk
theorem markPhases_o {v : AV} {x : Ph} {hs : Heap} (ho : OwnPh v x hs) (k : Int) (hk : 0 ≤ k ∧ k ≤ 1099511627776) (hl : x.ts.length ≤ 1073741824) : ACalls Try.prog 29 [v, .int .i64 k] hs (fun r h' => r = .int .i64 (k + 3 * x.ts.length) ∧ OwnPh v ⟨x.n, x.m, marksT k x.ts.length⟩ h') := by
  obtain ⟨u, rfl, hu⟩ := ho
  have hc := hu.cell
  refine c_laws_markPhases_of0 rfl noPure fun I => ?_
  refine Run2.of I 1000 ?_
  simp -implicitDefEqProofs [hc]
  refine (markTurnS_o hu k hk hl).mono ?_
  rintro r h' ⟨rfl, hu'⟩
  refine gK.go ?_
  simp -implicitDefEqProofs
  exact ⟨_, rfl, hu'⟩
abbrev c_laws_heldTurnS_o0 : List AJ := [.o ⟨(some 4), none, false, .mv (.c (.int .i64 0)), (some [0, 1])⟩]
def c_laws_heldTurnS_0 : ACode := .region c_laws_heldTurnS_o0
abbrev c_laws_heldTurnS_o1 : List AJ := [.o ⟨(some 5), none, false, .mv (.c (.int .i64 0)), (some [0, 1, 5])⟩]
def c_laws_heldTurnS_1 : ACode := .region c_laws_heldTurnS_o1
abbrev c_laws_heldTurnS_o2 : List AJ := [.o ⟨(some 6), none, false, .mv (.t 5), none⟩, .o ⟨(some 7), none, false, .mv (.t 0), none⟩, .o ⟨(some 8), none, false, .len (.t 7), none⟩, .o ⟨(some 9), none, false, .bin .lss (.t 6) (.t 8), (some [0, 1, 5, 9])⟩]
def c_laws_heldTurnS_2 : ACode := .region c_laws_heldTurnS_o2
def c_laws_heldTurnS_3 : ACode := .cond (.t 9) .skip (.exit 0)
def c_laws_heldTurnS_4 : ACode := .seq c_laws_heldTurnS_2 c_laws_heldTurnS_3
abbrev c_laws_heldTurnS_o3 : List AJ := [.o ⟨(some 12), none, false, .mv (.t 0), none⟩, .o ⟨(some 13), none, false, .mv (.t 5), none⟩, .o ⟨(some 14), none, false, .idxA 3 (.t 12) (.t 13), none⟩, .o ⟨(some 15), none, false, .fieldA 0 (.t 14), none⟩, .o ⟨(some 16), none, false, .load 1 false (.t 15), none⟩, .o ⟨(some 17), none, false, .mv (.t 1), none⟩, .o ⟨(some 18), none, false, .bin .neq (.t 16) (.t 17), (some [0, 1, 5, 18])⟩]
def c_laws_heldTurnS_5 : ACode := .region c_laws_heldTurnS_o3
abbrev c_laws_heldTurnS_o4 : List AJ := [.o ⟨(some 4), none, false, .mv (.c (.int .i64 (-1))), (some [4])⟩]
def c_laws_heldTurnS_6 : ACode := .region c_laws_heldTurnS_o4
def c_laws_heldTurnS_7 : ACode := .seq c_laws_heldTurnS_6 .ret
def c_laws_heldTurnS_8 : ACode := .cond (.t 18) c_laws_heldTurnS_7 .skip
def c_laws_heldTurnS_9 : ACode := .seq c_laws_heldTurnS_5 c_laws_heldTurnS_8
abbrev c_laws_heldTurnS_o5 : List AJ := [.o ⟨(some 19), none, false, .mv (.t 1), none⟩, .o ⟨(some 20), none, true, .bin .add (.t 19) (.c (.int .i64 1)), none⟩, .o ⟨(some 1), none, false, .mv (.t 20), (some [0, 1, 5])⟩]
def c_laws_heldTurnS_10 : ACode := .region c_laws_heldTurnS_o5
abbrev c_laws_heldTurnS_o6 : List AJ := [.o ⟨(some 21), none, false, .mv (.t 0), none⟩, .o ⟨(some 22), none, false, .mv (.t 5), none⟩, .o ⟨(some 23), none, false, .idxA 3 (.t 21) (.t 22), none⟩, .o ⟨(some 24), none, false, .fieldA 1 (.t 23), none⟩, .o ⟨(some 25), none, false, .load 1 false (.t 24), none⟩, .o ⟨(some 26), none, false, .mv (.t 1), none⟩, .o ⟨(some 27), none, false, .bin .neq (.t 25) (.t 26), (some [0, 1, 5, 27])⟩]
def c_laws_heldTurnS_11 : ACode := .region c_laws_heldTurnS_o6
abbrev c_laws_heldTurnS_o7 : List AJ := [.o ⟨(some 4), none, false, .mv (.c (.int .i64 (-1))), (some [4])⟩]
def c_laws_heldTurnS_12 : ACode := .region c_laws_heldTurnS_o7
def c_laws_heldTurnS_13 : ACode := .seq c_laws_heldTurnS_12 .ret
def c_laws_heldTurnS_14 : ACode := .cond (.t 27) c_laws_heldTurnS_13 .skip
def c_laws_heldTurnS_15 : ACode := .seq c_laws_heldTurnS_11 c_laws_heldTurnS_14
abbrev c_laws_heldTurnS_o8 : List AJ := [.o ⟨(some 28), none, false, .mv (.t 1), none⟩, .o ⟨(some 29), none, true, .bin .add (.t 28) (.c (.int .i64 1)), none⟩, .o ⟨(some 1), none, false, .mv (.t 29), (some [0, 1, 5])⟩]
def c_laws_heldTurnS_16 : ACode := .region c_laws_heldTurnS_o8
abbrev c_laws_heldTurnS_o9 : List AJ := [.o ⟨(some 30), none, false, .mv (.t 0), none⟩, .o ⟨(some 31), none, false, .mv (.t 5), none⟩, .o ⟨(some 32), none, false, .idxA 3 (.t 30) (.t 31), none⟩, .o ⟨(some 33), none, false, .fieldA 2 (.t 32), none⟩, .o ⟨(some 34), none, false, .load 1 false (.t 33), none⟩, .o ⟨(some 35), none, false, .mv (.t 1), none⟩, .o ⟨(some 36), none, false, .bin .neq (.t 34) (.t 35), (some [0, 1, 5, 36])⟩]
def c_laws_heldTurnS_17 : ACode := .region c_laws_heldTurnS_o9
abbrev c_laws_heldTurnS_o10 : List AJ := [.o ⟨(some 4), none, false, .mv (.c (.int .i64 (-1))), (some [4])⟩]
def c_laws_heldTurnS_18 : ACode := .region c_laws_heldTurnS_o10
def c_laws_heldTurnS_19 : ACode := .seq c_laws_heldTurnS_18 .ret
def c_laws_heldTurnS_20 : ACode := .cond (.t 36) c_laws_heldTurnS_19 .skip
def c_laws_heldTurnS_21 : ACode := .seq c_laws_heldTurnS_17 c_laws_heldTurnS_20
abbrev c_laws_heldTurnS_o11 : List AJ := [.o ⟨(some 37), none, false, .mv (.t 1), none⟩, .o ⟨(some 38), none, true, .bin .add (.t 37) (.c (.int .i64 1)), none⟩, .o ⟨(some 1), none, false, .mv (.t 38), (some [0, 1, 5])⟩]
def c_laws_heldTurnS_22 : ACode := .region c_laws_heldTurnS_o11
def c_laws_heldTurnS_23 : ACode := .seq c_laws_heldTurnS_21 c_laws_heldTurnS_22
def c_laws_heldTurnS_24 : ACode := .seq c_laws_heldTurnS_16 c_laws_heldTurnS_23
def c_laws_heldTurnS_25 : ACode := .seq c_laws_heldTurnS_15 c_laws_heldTurnS_24
def c_laws_heldTurnS_26 : ACode := .seq c_laws_heldTurnS_10 c_laws_heldTurnS_25
def c_laws_heldTurnS_27 : ACode := .seq c_laws_heldTurnS_9 c_laws_heldTurnS_26
def c_laws_heldTurnS_28 : ACode := .block 1 c_laws_heldTurnS_27
abbrev c_laws_heldTurnS_o12 : List AJ := [.o ⟨(some 10), none, false, .mv (.t 5), none⟩, .o ⟨(some 11), none, true, .bin .add (.t 10) (.c (.int .i64 1)), none⟩, .o ⟨(some 5), none, false, .mv (.t 11), (some [0, 1, 5])⟩]
def c_laws_heldTurnS_29 : ACode := .region c_laws_heldTurnS_o12
def c_laws_heldTurnS_30 : ACode := .seq c_laws_heldTurnS_28 c_laws_heldTurnS_29
def c_laws_heldTurnS_31 : ACode := .seq c_laws_heldTurnS_4 c_laws_heldTurnS_30
def c_laws_heldTurnS_32 : ACode := .loop c_laws_heldTurnS_31
def c_laws_heldTurnS_33 : ACode := .block 0 c_laws_heldTurnS_32
def c_laws_heldTurnS_34 : ACode := .seq c_laws_heldTurnS_1 c_laws_heldTurnS_33
abbrev c_laws_heldTurnS_o13 : List AJ := [.o ⟨(some 39), none, false, .mv (.t 1), none⟩, .o ⟨(some 4), none, false, .mv (.t 39), (some [4])⟩]
def c_laws_heldTurnS_35 : ACode := .region c_laws_heldTurnS_o13
def c_laws_heldTurnS_36 : ACode := .seq c_laws_heldTurnS_35 .ret
def c_laws_heldTurnS_37 : ACode := .seq c_laws_heldTurnS_34 c_laws_heldTurnS_36
def c_laws_heldTurnS_38 : ACode := .seq c_laws_heldTurnS_0 c_laws_heldTurnS_37
section
variable (C : Cx) (n : Nat) (sk : List AItem) (e : Env) (h : Heap) (R : AV → Heap → Prop)
@[simp, simp ↓] theorem c_laws_heldTurnS_0_r : vc2 C (n + 1) [] (.code c_laws_heldTurnS_0 :: sk) e h R = (vc2 C n c_laws_heldTurnS_o0 sk e h R) := nr rfl
@[simp, simp ↓] theorem c_laws_heldTurnS_1_r : vc2 C (n + 1) [] (.code c_laws_heldTurnS_1 :: sk) e h R = (vc2 C n c_laws_heldTurnS_o1 sk e h R) := nr rfl
@[simp, simp ↓] theorem c_laws_heldTurnS_2_r : vc2 C (n + 1) [] (.code c_laws_heldTurnS_2 :: sk) e h R = (vc2 C n c_laws_heldTurnS_o2 sk e h R) := nr rfl
@[simp, simp ↓] theorem c_laws_heldTurnS_3_r : vc2 C (n + 1) [] (.code c_laws_heldTurnS_3 :: sk) e h R = (condK (ev e (.t 9)) (vc2 C n [] (.code .skip :: sk) e h R) (vc2 C n [] (.code (.exit 0) :: sk) e h R)) := nr rfl
@[simp, simp ↓] theorem c_laws_heldTurnS_4_r : vc2 C (n + 1) [] (.code c_laws_heldTurnS_4 :: sk) e h R = (vc2 C n [] (.code c_laws_heldTurnS_2 :: .code c_laws_heldTurnS_3 :: sk) e h R) := nr rfl
@[simp, simp ↓] theorem c_laws_heldTurnS_5_r : vc2 C (n + 1) [] (.code c_laws_heldTurnS_5 :: sk) e h R = (vc2 C n c_laws_heldTurnS_o3 sk e h R) := nr rfl
@[simp, simp ↓] theorem c_laws_heldTurnS_6_r : vc2 C (n + 1) [] (.code c_laws_heldTurnS_6 :: sk) e h R = (vc2 C n c_laws_heldTurnS_o4 sk e h R) := nr rfl
@[simp, simp ↓] theorem c_laws_heldTurnS_7_r : vc2 C (n + 1) [] (.code c_laws_heldTurnS_7 :: sk) e h R = (vc2 C n [] (.code c_laws_heldTurnS_6 :: .code .ret :: sk) e h R) := nr rfl
@[simp, simp ↓] theorem c_laws_heldTurnS_8_r : vc2 C (n + 1) [] (.code c_laws_heldTurnS_8 :: sk) e h R = (condK (ev e (.t 18)) (vc2 C n [] (.code c_laws_heldTurnS_7 :: sk) e h R) (vc2 C n [] (.code .skip :: sk) e h R)) := nr rfl
@[simp, simp ↓] theorem c_laws_heldTurnS_9_r : vc2 C (n + 1) [] (.code c_laws_heldTurnS_9 :: sk) e h R = (vc2 C n [] (.code c_laws_heldTurnS_5 :: .code c_laws_heldTurnS_8 :: sk) e h R) := nr rfl
@[simp, simp ↓] theorem c_laws_heldTurnS_10_r : vc2 C (n + 1) [] (.code c_laws_heldTurnS_10 :: sk) e h R = (vc2 C n c_laws_heldTurnS_o5 sk e h R) := nr rfl
@[simp, simp ↓] theorem c_laws_heldTurnS_11_r : vc2 C (n + 1) [] (.code c_laws_heldTurnS_11 :: sk) e h R = (vc2 C n c_laws_heldTurnS_o6 sk e h R) := nr rfl
@[simp, simp ↓] theorem c_laws_heldTurnS_12_r : vc2 C (n + 1) [] (.code c_laws_heldTurnS_12 :: sk) e h R = (vc2 C n c_laws_heldTurnS_o7 sk e h R) := nr rfl
@[simp, simp ↓] theorem c_laws_heldTurnS_13_r : vc2 C (n + 1) [] (.code c_laws_heldTurnS_13 :: sk) e h R = (vc2 C n [] (.code c_laws_heldTurnS_12 :: .code .ret :: sk) e h R) := nr rfl
@[simp, simp ↓] theorem c_laws_heldTurnS_14_r : vc2 C (n + 1) [] (.code c_laws_heldTurnS_14 :: sk) e h R = (condK (ev e (.t 27)) (vc2 C n [] (.code c_laws_heldTurnS_13 :: sk) e h R) (vc2 C n [] (.code .skip :: sk) e h R)) := nr rfl
@[simp, simp ↓] theorem c_laws_heldTurnS_15_r : vc2 C (n + 1) [] (.code c_laws_heldTurnS_15 :: sk) e h R = (vc2 C n [] (.code c_laws_heldTurnS_11 :: .code c_laws_heldTurnS_14 :: sk) e h R) := nr rfl
@[simp, simp ↓] theorem c_laws_heldTurnS_16_r : vc2 C (n + 1) [] (.code c_laws_heldTurnS_16 :: sk) e h R = (vc2 C n c_laws_heldTurnS_o8 sk e h R) := nr rfl
@[simp, simp ↓] theorem c_laws_heldTurnS_17_r : vc2 C (n + 1) [] (.code c_laws_heldTurnS_17 :: sk) e h R = (vc2 C n c_laws_heldTurnS_o9 sk e h R) := nr rfl
@[simp, simp ↓] theorem c_laws_heldTurnS_18_r : vc2 C (n + 1) [] (.code c_laws_heldTurnS_18 :: sk) e h R = (vc2 C n c_laws_heldTurnS_o10 sk e h R) := nr rfl
@[simp, simp ↓] theorem c_laws_heldTurnS_19_r : vc2 C (n + 1) [] (.code c_laws_heldTurnS_19 :: sk) e h R = (vc2 C n [] (.code c_laws_heldTurnS_18 :: .code .ret :: sk) e h R) := nr rfl
@[simp, simp ↓] theorem c_laws_heldTurnS_20_r : vc2 C (n + 1) [] (.code c_laws_heldTurnS_20 :: sk) e h R = (condK (ev e (.t 36)) (vc2 C n [] (.code c_laws_heldTurnS_19 :: sk) e h R) (vc2 C n [] (.code .skip :: sk) e h R)) := nr rfl
@[simp, simp ↓] theorem c_laws_heldTurnS_21_r : vc2 C (n + 1) [] (.code c_laws_heldTurnS_21 :: sk) e h R = (vc2 C n [] (.code c_laws_heldTurnS_17 :: .code c_laws_heldTurnS_20 :: sk) e h R) := nr rfl
@[simp, simp ↓] theorem c_laws_heldTurnS_22_r : vc2 C (n + 1) [] (.code c_laws_heldTurnS_22 :: sk) e h R = (vc2 C n c_laws_heldTurnS_o11 sk e h R) := nr rfl
@[simp, simp ↓] theorem c_laws_heldTurnS_23_r : vc2 C (n + 1) [] (.code c_laws_heldTurnS_23 :: sk) e h R = (vc2 C n [] (.code c_laws_heldTurnS_21 :: .code c_laws_heldTurnS_22 :: sk) e h R) := nr rfl
@[simp, simp ↓] theorem c_laws_heldTurnS_24_r : vc2 C (n + 1) [] (.code c_laws_heldTurnS_24 :: sk) e h R = (vc2 C n [] (.code c_laws_heldTurnS_16 :: .code c_laws_heldTurnS_23 :: sk) e h R) := nr rfl
@[simp, simp ↓] theorem c_laws_heldTurnS_25_r : vc2 C (n + 1) [] (.code c_laws_heldTurnS_25 :: sk) e h R = (vc2 C n [] (.code c_laws_heldTurnS_15 :: .code c_laws_heldTurnS_24 :: sk) e h R) := nr rfl
@[simp, simp ↓] theorem c_laws_heldTurnS_26_r : vc2 C (n + 1) [] (.code c_laws_heldTurnS_26 :: sk) e h R = (vc2 C n [] (.code c_laws_heldTurnS_10 :: .code c_laws_heldTurnS_25 :: sk) e h R) := nr rfl
@[simp, simp ↓] theorem c_laws_heldTurnS_27_r : vc2 C (n + 1) [] (.code c_laws_heldTurnS_27 :: sk) e h R = (vc2 C n [] (.code c_laws_heldTurnS_9 :: .code c_laws_heldTurnS_26 :: sk) e h R) := nr rfl
@[simp, simp ↓] theorem c_laws_heldTurnS_28_r : vc2 C (n + 1) [] (.code c_laws_heldTurnS_28 :: sk) e h R = (vc2 C n [] (.code c_laws_heldTurnS_27 :: .inBlock 1 :: sk) e h R) := nr rfl
@[simp, simp ↓] theorem c_laws_heldTurnS_29_r : vc2 C (n + 1) [] (.code c_laws_heldTurnS_29 :: sk) e h R = (vc2 C n c_laws_heldTurnS_o12 sk e h R) := nr rfl
@[simp, simp ↓] theorem c_laws_heldTurnS_30_r : vc2 C (n + 1) [] (.code c_laws_heldTurnS_30 :: sk) e h R = (vc2 C n [] (.code c_laws_heldTurnS_28 :: .code c_laws_heldTurnS_29 :: sk) e h R) := nr rfl
@[simp, simp ↓] theorem c_laws_heldTurnS_31_r : vc2 C (n + 1) [] (.code c_laws_heldTurnS_31 :: sk) e h R = (vc2 C n [] (.code c_laws_heldTurnS_4 :: .code c_laws_heldTurnS_30 :: sk) e h R) := nr rfl
@[simp, simp ↓] theorem c_laws_heldTurnS_32_r : vc2 C (n + 1) [] (.code c_laws_heldTurnS_32 :: sk) e h R = (Run2 C (.code c_laws_heldTurnS_31 :: .inLoop c_laws_heldTurnS_31 :: sk) e h R) := nr rfl
@[simp, simp ↓] theorem c_laws_heldTurnS_33_r : vc2 C (n + 1) [] (.code c_laws_heldTurnS_33 :: sk) e h R = (vc2 C n [] (.code c_laws_heldTurnS_32 :: .inBlock 0 :: sk) e h R) := nr rfl
@[simp, simp ↓] theorem c_laws_heldTurnS_34_r : vc2 C (n + 1) [] (.code c_laws_heldTurnS_34 :: sk) e h R = (vc2 C n [] (.code c_laws_heldTurnS_1 :: .code c_laws_heldTurnS_33 :: sk) e h R) := nr rfl
@[simp, simp ↓] theorem c_laws_heldTurnS_35_r : vc2 C (n + 1) [] (.code c_laws_heldTurnS_35 :: sk) e h R = (vc2 C n c_laws_heldTurnS_o13 sk e h R) := nr rfl
@[simp, simp ↓] theorem c_laws_heldTurnS_36_r : vc2 C (n + 1) [] (.code c_laws_heldTurnS_36 :: sk) e h R = (vc2 C n [] (.code c_laws_heldTurnS_35 :: .code .ret :: sk) e h R) := nr rfl
@[simp, simp ↓] theorem c_laws_heldTurnS_37_r : vc2 C (n + 1) [] (.code c_laws_heldTurnS_37 :: sk) e h R = (vc2 C n [] (.code c_laws_heldTurnS_34 :: .code c_laws_heldTurnS_36 :: sk) e h R) := nr rfl
@[simp, simp ↓] theorem c_laws_heldTurnS_38_r : vc2 C (n + 1) [] (.code c_laws_heldTurnS_38 :: sk) e h R = (vc2 C n [] (.code c_laws_heldTurnS_0 :: .code c_laws_heldTurnS_37 :: sk) e h R) := nr rfl
end
noncomputable def c_laws_heldTurnS_C (orc : Orc) : Cx := ⟨Try.prog, [], 66, 40, [.tmp 4], orc⟩
@[simp] theorem c_laws_heldTurnS_C_P (orc : Orc) : (c_laws_heldTurnS_C orc).P = Try.prog := nr rfl
@[simp] theorem c_laws_heldTurnS_C_o (orc : Orc) : (c_laws_heldTurnS_C orc).orc = orc := nr rfl
@[simp] theorem c_laws_heldTurnS_C_r (orc : Orc) : (c_laws_heldTurnS_C orc).res = [.tmp 4] := nr rfl
theorem c_laws_heldTurnS_of {args : List AV} {h : Heap} {R : AV → Heap → Prop} {k : Nat} (ha : args.length = k) {orc : Orc} (hp : Pure Try.prog orc) (hk : Is (c_laws_heldTurnS_C orc) Try.f66 → Run2 (c_laws_heldTurnS_C orc) [.code c_laws_heldTurnS_38] (argEnv 0 args) h (Post R)) (hle : k ≤ 40 := by simp) : ACalls Try.prog 66 args h R :=
  contract2 [] c_laws_heldTurnS_38 [.tmp 4] Try.func66 (by decide +kernel) rfl (by kernel_rfl) (by rw [ha]; exact hle) (by kernel_rfl) hp hk
theorem c_laws_heldTurnS_of0 {args : List AV} {h : Heap} {R : AV → Heap → Prop} {k : Nat} (ha : args.length = k) {orc : Orc} (hp : Pure Try.prog orc) (hk : Is (c_laws_heldTurnS_C orc) Try.f66 → Run2 (c_laws_heldTurnS_C orc) [.code c_laws_heldTurnS_38] (argEnv 0 args) h R) (hle : k ≤ 40 := by simp) : ACalls Try.prog 66 args h R :=
  contract20 [] c_laws_heldTurnS_38 [.tmp 4] Try.func66 (by decide +kernel) rfl (by kernel_rfl) (by rw [ha]; exact hle) (by kernel_rfl) hp hk
theorem heldTurnS_s (l : List T) (k : Int) (h : Heap) (hk : 0 ≤ k ∧ k ≤ 1099511627776) (hl : l.length ≤ 1073741824) : ACalls Try.prog 66 [.snap 3 (l.map T.av), .int .i64 k] h (fun v h' => v = .int .i64 (if l = marksT k l.length then k + 3 * l.length else -1) ∧ h' = h) := by
  refine c_laws_heldTurnS_of0 rfl noPure fun I => ?_
  refine Run2.of I 1000 ?_
  simp -implicitDefEqProofs
  refine Run2.loopE (fun i => [(0, .snap 3 (l.map T.av)), (1, .int .i64 (k + 3 * (i : Nat))), (5, .int .i64 (i : Nat))]) (fun i => h) (fun i => l.length - i) (fun i => i ≤ l.length ∧ l.take i = marksT k i) 0 (by simp) rfl (by simp [marksT]) fun i hi ih => ?_
  by_cases hlt : i < l.length
  · have hbad : ¬ l[i] = ⟨k + 3 * i, k + 3 * i + 1, k + 3 * i + 1 + 1⟩ → ¬ l = marksT k l.length := fun h1 h2 => h1 (by
      have : l[i] = (marksT k l.length)[i]'(by simpa using hlt) := by congr 1
      rw [this, marksT_get])
    have go := fun (h1 : l[i] = ⟨k + 3 * i, k + 3 * i + 1, k + 3 * i + 1 + 1⟩) => ih (i + 1) ⟨by omega, by rw [List.take_succ_eq_append_getElem hlt, marksT_succ, hi.2, h1]⟩ (by omega)
    have e : k + 3 * ((i + 1 : Nat) : Int) = k + 3 * i + 1 + 1 + 1 := by omega
    rw [e] at go
    clear ih
    refine Run2.of I 1000 ?_
    simp -implicitDefEqProofs [hlt]
    repeat' (first | refine And.intro ?_ ?_ | intro _)
    all_goals first | omega | skip
    · exact absurd ‹l = _› (hbad fun h => by have h1 := congrArg T.f h; have h2 := congrArg T.t h; have h3 := congrArg T.s h; simp only at h1 h2 h3; omega)
    · exact absurd ‹l = _› (hbad fun h => by have h1 := congrArg T.f h; have h2 := congrArg T.t h; have h3 := congrArg T.s h; simp only at h1 h2 h3; omega)
    · exact absurd ‹l = _› (hbad fun h => by have h1 := congrArg T.f h; have h2 := congrArg T.t h; have h3 := congrArg T.s h; simp only at h1 h2 h3; omega)
    · simpa using go (T.ext' ‹_› ‹_› ‹_›)
  · obtain rfl : i = l.length := by omega
    have h2 := hi.2
    rw [List.take_length] at h2
    refine Run2.of I 1000 ?_
    simp -implicitDefEqProofs
    exact fun h => absurd h2 h
theorem heldTurnS_c {u : AV} {l : List T} (hu : IsL T.av 3 u l) (k : Int) (h : Heap) (hk : 0 ≤ k ∧ k ≤ 1099511627776) (hl : l.length ≤ 1073741824) : ACalls Try.prog 66 [u, .int .i64 k] h (fun v h' => v = .int .i64 (if l = marksT k l.length then k + 3 * l.length else -1) ∧ h' = h) :=
  (heldTurnS_s _ k h hk hl).wk (.cons hu.wk (.refl _))
abbrev c_laws_heldPhases_o0 : List AJ := [.o ⟨(some 2), none, false, .box false 3 (.t 0), none⟩, .o ⟨(some 4), none, false, .mv (.c (.int .i64 0)), (some [1, 2])⟩]
def c_laws_heldPhases_0 : ACode := .region c_laws_heldPhases_o0
abbrev c_laws_heldPhases_o1 : List AJ := [.o ⟨(some 5), none, false, .fieldA 2 (.t 2), none⟩, .o ⟨(some 6), none, false, .load 1 false (.t 5), none⟩, .o ⟨(some 7), none, false, .mv (.t 1), none⟩, .o ⟨(some 8), none, false, .call 66 [(.t 6), (.t 7)], none⟩, .o ⟨(some 1), none, false, .mv (.t 8), (some [1])⟩]
def c_laws_heldPhases_1 : ACode := .region c_laws_heldPhases_o1
abbrev c_laws_heldPhases_o2 : List AJ := [.o ⟨(some 9), none, false, .mv (.t 1), none⟩, .o ⟨(some 10), none, false, .bin .lss (.t 9) (.c (.int .i64 0)), (some [1, 10])⟩]
def c_laws_heldPhases_2 : ACode := .region c_laws_heldPhases_o2
abbrev c_laws_heldPhases_o3 : List AJ := [.o ⟨(some 4), none, false, .mv (.c (.int .i64 (-1))), (some [4])⟩]
def c_laws_heldPhases_3 : ACode := .region c_laws_heldPhases_o3
def c_laws_heldPhases_4 : ACode := .seq c_laws_heldPhases_3 .ret
def c_laws_heldPhases_5 : ACode := .cond (.t 10) c_laws_heldPhases_4 .skip
def c_laws_heldPhases_6 : ACode := .seq c_laws_heldPhases_2 c_laws_heldPhases_5
abbrev c_laws_heldPhases_o4 : List AJ := [.o ⟨(some 11), none, false, .mv (.t 1), none⟩, .o ⟨(some 4), none, false, .mv (.t 11), (some [4])⟩]
def c_laws_heldPhases_7 : ACode := .region c_laws_heldPhases_o4
def c_laws_heldPhases_8 : ACode := .seq c_laws_heldPhases_7 .ret
def c_laws_heldPhases_9 : ACode := .seq c_laws_heldPhases_6 c_laws_heldPhases_8
def c_laws_heldPhases_10 : ACode := .seq c_laws_heldPhases_1 c_laws_heldPhases_9
def c_laws_heldPhases_11 : ACode := .seq c_laws_heldPhases_0 c_laws_heldPhases_10
section
variable (C : Cx) (n : Nat) (sk : List AItem) (e : Env) (h : Heap) (R : AV → Heap → Prop)
@[simp, simp ↓] theorem c_laws_heldPhases_0_r : vc2 C (n + 1) [] (.code c_laws_heldPhases_0 :: sk) e h R = (vc2 C n c_laws_heldPhases_o0 sk e h R) := nr rfl
@[simp, simp ↓] theorem c_laws_heldPhases_1_r : vc2 C (n + 1) [] (.code c_laws_heldPhases_1 :: sk) e h R = (vc2 C n c_laws_heldPhases_o1 sk e h R) := nr rfl
@[simp, simp ↓] theorem c_laws_heldPhases_2_r : vc2 C (n + 1) [] (.code c_laws_heldPhases_2 :: sk) e h R = (vc2 C n c_laws_heldPhases_o2 sk e h R) := nr rfl
@[simp, simp ↓] theorem c_laws_heldPhases_3_r : vc2 C (n + 1) [] (.code c_laws_heldPhases_3 :: sk) e h R = (vc2 C n c_laws_heldPhases_o3 sk e h R) := nr rfl
@[simp, simp ↓] theorem c_laws_heldPhases_4_r : vc2 C (n + 1) [] (.code c_laws_heldPhases_4 :: sk) e h R = (vc2 C n [] (.code c_laws_heldPhases_3 :: .code .ret :: sk) e h R) := nr rfl
@[simp, simp ↓] theorem c_laws_heldPhases_5_r : vc2 C (n + 1) [] (.code c_laws_heldPhases_5 :: sk) e h R = (condK (ev e (.t 10)) (vc2 C n [] (.code c_laws_heldPhases_4 :: sk) e h R) (vc2 C n [] (.code .skip :: sk) e h R)) := nr rfl
@[simp, simp ↓] theorem c_laws_heldPhases_6_r : vc2 C (n + 1) [] (.code c_laws_heldPhases_6 :: sk) e h R = (vc2 C n [] (.code c_laws_heldPhases_2 :: .code c_laws_heldPhases_5 :: sk) e h R) := nr rfl
@[simp, simp ↓] theorem c_laws_heldPhases_7_r : vc2 C (n + 1) [] (.code c_laws_heldPhases_7 :: sk) e h R = (vc2 C n c_laws_heldPhases_o4 sk e h R) := nr rfl
@[simp, simp ↓] theorem c_laws_heldPhases_8_r : vc2 C (n + 1) [] (.code c_laws_heldPhases_8 :: sk) e h R = (vc2 C n [] (.code c_laws_heldPhases_7 :: .code .ret :: sk) e h R) := nr rfl
@[simp, simp ↓] theorem c_laws_heldPhases_9_r : vc2 C (n + 1) [] (.code c_laws_heldPhases_9 :: sk) e h R = (vc2 C n [] (.code c_laws_heldPhases_6 :: .code c_laws_heldPhases_8 :: sk) e h R) := nr rfl
@[simp, simp ↓] theorem c_laws_heldPhases_10_r : vc2 C (n + 1) [] (.code c_laws_heldPhases_10 :: sk) e h R = (vc2 C n [] (.code c_laws_heldPhases_1 :: .code c_laws_heldPhases_9 :: sk) e h R) := nr rfl
@[simp, simp ↓] theorem c_laws_heldPhases_11_r : vc2 C (n + 1) [] (.code c_laws_heldPhases_11 :: sk) e h R = (vc2 C n [] (.code c_laws_heldPhases_0 :: .code c_laws_heldPhases_10 :: sk) e h R) := nr rfl
end
noncomputable def c_laws_heldPhases_C (orc : Orc) : Cx := ⟨Try.prog, [], 34, 12, [.tmp 4], orc⟩
@[simp] theorem c_laws_heldPhases_C_P (orc : Orc) : (c_laws_heldPhases_C orc).P = Try.prog := nr rfl
@[simp] theorem c_laws_heldPhases_C_o (orc : Orc) : (c_laws_heldPhases_C orc).orc = orc := nr rfl
@[simp] theorem c_laws_heldPhases_C_r (orc : Orc) : (c_laws_heldPhases_C orc).res = [.tmp 4] := nr rfl
theorem c_laws_heldPhases_of {args : List AV} {h : Heap} {R : AV → Heap → Prop} {k : Nat} (ha : args.length = k) {orc : Orc} (hp : Pure Try.prog orc) (hk : Is (c_laws_heldPhases_C orc) Try.f34 → Run2 (c_laws_heldPhases_C orc) [.code c_laws_heldPhases_11] (argEnv 0 args) h (Post R)) (hle : k ≤ 12 := by simp) : ACalls Try.prog 34 args h R :=
  contract2 [] c_laws_heldPhases_11 [.tmp 4] Try.func34 (by decide +kernel) rfl (by kernel_rfl) (by rw [ha]; exact hle) (by kernel_rfl) hp hk
theorem c_laws_heldPhases_of0 {args : List AV} {h : Heap} {R : AV → Heap → Prop} {k : Nat} (ha : args.length = k) {orc : Orc} (hp : Pure Try.prog orc) (hk : Is (c_laws_heldPhases_C orc) Try.f34 → Run2 (c_laws_heldPhases_C orc) [.code c_laws_heldPhases_11] (argEnv 0 args) h R) (hle : k ≤ 12 := by simp) : ACalls Try.prog 34 args h R :=
  contract20 [] c_laws_heldPhases_11 [.tmp 4] Try.func34 (by decide +kernel) rfl (by kernel_rfl) (by rw [ha]; exact hle) (by kernel_rfl) hp hk
theorem heldPhases_c {u : AV} {x : Ph} (hu : IsPh u x) (k : Int) (h : Heap) (hk : 0 ≤ k ∧ k ≤ 1099511627776) (hl : x.ts.length ≤ 1073741824) : ACalls Try.prog 34 [u, .int .i64 k] h (fun v h' => v = .int .i64 (if x.ts = marksT k x.ts.length then k + 3 * x.ts.length else -1) ∧ h' = h) := by
  refine ACalls.wk (.cons hu.wk (.refl _)) ?_
  refine c_laws_heldPhases_of0 rfl noPure fun I => ?_
  refine Run2.of I 1000 ?_
  simp -implicitDefEqProofs
  refine (heldTurnS_s x.ts k h hk hl).mono ?_
  rintro r h' ⟨rfl, rfl⟩
  refine gK.go ?_
  simp -implicitDefEqProofs
  grind
abbrev c_laws_szTurnS_o0 : List AJ := [.o ⟨(some 4), none, false, .mv (.c (.int .i64 0)), (some [0, 1])⟩]
def c_laws_szTurnS_0 : ACode := .region c_laws_szTurnS_o0
abbrev c_laws_szTurnS_o1 : List AJ := [.o ⟨(some 5), none, false, .mv (.t 1), none⟩, .o ⟨(some 6), none, false, .mv (.t 0), none⟩, .o ⟨(some 7), none, false, .len (.t 6), none⟩, .o ⟨(some 8), none, true, .bin .sub (.t 5) (.t 7), none⟩, .o ⟨(some 1), none, false, .mv (.t 8), (some [1])⟩]
def c_laws_szTurnS_1 : ACode := .region c_laws_szTurnS_o1
abbrev c_laws_szTurnS_o2 : List AJ := [.o ⟨(some 9), none, false, .mv (.t 1), none⟩, .o ⟨(some 10), none, false, .bin .lss (.t 9) (.c (.int .i64 0)), (some [1, 10])⟩]
def c_laws_szTurnS_2 : ACode := .region c_laws_szTurnS_o2
abbrev c_laws_szTurnS_o3 : List AJ := [.o ⟨(some 4), none, false, .mv (.c (.int .i64 (-1))), (some [4])⟩]
def c_laws_szTurnS_3 : ACode := .region c_laws_szTurnS_o3
def c_laws_szTurnS_4 : ACode := .seq c_laws_szTurnS_3 .ret
def c_laws_szTurnS_5 : ACode := .cond (.t 10) c_laws_szTurnS_4 .skip
def c_laws_szTurnS_6 : ACode := .seq c_laws_szTurnS_2 c_laws_szTurnS_5
abbrev c_laws_szTurnS_o4 : List AJ := [.o ⟨(some 11), none, false, .mv (.t 1), none⟩, .o ⟨(some 4), none, false, .mv (.t 11), (some [4])⟩]
def c_laws_szTurnS_7 : ACode := .region c_laws_szTurnS_o4
def c_laws_szTurnS_8 : ACode := .seq c_laws_szTurnS_7 .ret
def c_laws_szTurnS_9 : ACode := .seq c_laws_szTurnS_6 c_laws_szTurnS_8
def c_laws_szTurnS_10 : ACode := .seq c_laws_szTurnS_1 c_laws_szTurnS_9
def c_laws_szTurnS_11 : ACode := .seq c_laws_szTurnS_0 c_laws_szTurnS_10
section
variable (C : Cx) (n : Nat) (sk : List AItem) (e : Env) (h : Heap) (R : AV → Heap → Prop)
@[simp, simp ↓] theorem c_laws_szTurnS_0_r : vc2 C (n + 1) [] (.code c_laws_szTurnS_0 :: sk) e h R = (vc2 C n c_laws_szTurnS_o0 sk e h R) := nr rfl
@[simp, simp ↓] theorem c_laws_szTurnS_1_r : vc2 C (n + 1) [] (.code c_laws_szTurnS_1 :: sk) e h R = (vc2 C n c_laws_szTurnS_o1 sk e h R) := nr rfl
@[simp, simp ↓] theorem c_laws_szTurnS_2_r : vc2 C (n + 1) [] (.code c_laws_szTurnS_2 :: sk) e h R = (vc2 C n c_laws_szTurnS_o2 sk e h R) := nr rfl
@[simp, simp ↓] theorem c_laws_szTurnS_3_r : vc2 C (n + 1) [] (.code c_laws_szTurnS_3 :: sk) e h R = (vc2 C n c_laws_szTurnS_o3 sk e h R) := nr rfl
@[simp, simp ↓] theorem c_laws_szTurnS_4_r : vc2 C (n + 1) [] (.code c_laws_szTurnS_4 :: sk) e h R = (vc2 C n [] (.code c_laws_szTurnS_3 :: .code .ret :: sk) e h R) := nr rfl
@[simp, simp ↓] theorem c_laws_szTurnS_5_r : vc2 C (n + 1) [] (.code c_laws_szTurnS_5 :: sk) e h R = (condK (ev e (.t 10)) (vc2 C n [] (.code c_laws_szTurnS_4 :: sk) e h R) (vc2 C n [] (.code .skip :: sk) e h R)) := nr rfl
@[simp, simp ↓] theorem c_laws_szTurnS_6_r : vc2 C (n + 1) [] (.code c_laws_szTurnS_6 :: sk) e h R = (vc2 C n [] (.code c_laws_szTurnS_2 :: .code c_laws_szTurnS_5 :: sk) e h R) := nr rfl
@[simp, simp ↓] theorem c_laws_szTurnS_7_r : vc2 C (n + 1) [] (.code c_laws_szTurnS_7 :: sk) e h R = (vc2 C n c_laws_szTurnS_o4 sk e h R) := nr rfl
@[simp, simp ↓] theorem c_laws_szTurnS_8_r : vc2 C (n + 1) [] (.code c_laws_szTurnS_8 :: sk) e h R = (vc2 C n [] (.code c_laws_szTurnS_7 :: .code .ret :: sk) e h R) := nr rfl
@[simp, simp ↓] theorem c_laws_szTurnS_9_r : vc2 C (n + 1) [] (.code c_laws_szTurnS_9 :: sk) e h R = (vc2 C n [] (.code c_laws_szTurnS_6 :: .code c_laws_szTurnS_8 :: sk) e h R) := nr rfl
@[simp, simp ↓] theorem c_laws_szTurnS_10_r : vc2 C (n + 1) [] (.code c_laws_szTurnS_10 :: sk) e h R = (vc2 C n [] (.code c_laws_szTurnS_1 :: .code c_laws_szTurnS_9 :: sk) e h R) := nr rfl
@[simp, simp ↓] theorem c_laws_szTurnS_11_r : vc2 C (n + 1) [] (.code c_laws_szTurnS_11 :: sk) e h R = (vc2 C n [] (.code c_laws_szTurnS_0 :: .code c_laws_szTurnS_10 :: sk) e h R) := nr rfl
end
noncomputable def c_laws_szTurnS_C (orc : Orc) : Cx := ⟨Try.prog, [], 45, 12, [.tmp 4], orc⟩
@[simp] theorem c_laws_szTurnS_C_P (orc : Orc) : (c_laws_szTurnS_C orc).P = Try.prog := nr rfl
@[simp] theorem c_laws_szTurnS_C_o (orc : Orc) : (c_laws_szTurnS_C orc).orc = orc := nr rfl
@[simp] theorem c_laws_szTurnS_C_r (orc : Orc) : (c_laws_szTurnS_C orc).res = [.tmp 4] := nr rfl
theorem c_laws_szTurnS_of {args : List AV} {h : Heap} {R : AV → Heap → Prop} {k : Nat} (ha : args.length = k) {orc : Orc} (hp : Pure Try.prog orc) (hk : Is (c_laws_szTurnS_C orc) Try.f45 → Run2 (c_laws_szTurnS_C orc) [.code c_laws_szTurnS_11] (argEnv 0 args) h (Post R)) (hle : k ≤ 12 := by simp) : ACalls Try.prog 45 args h R :=
  contract2 [] c_laws_szTurnS_11 [.tmp 4] Try.func45 (by decide +kernel) rfl (by kernel_rfl) (by rw [ha]; exact hle) (by kernel_rfl) hp hk
theorem c_laws_szTurnS_of0 {args : List AV} {h : Heap} {R : AV → Heap → Prop} {k : Nat} (ha : args.length = k) {orc : Orc} (hp : Pure Try.prog orc) (hk : Is (c_laws_szTurnS_C orc) Try.f45 → Run2 (c_laws_szTurnS_C orc) [.code c_laws_szTurnS_11] (argEnv 0 args) h R) (hle : k ≤ 12 := by simp) : ACalls Try.prog 45 args h R :=
  contract20 [] c_laws_szTurnS_11 [.tmp 4] Try.func45 (by decide +kernel) rfl (by kernel_rfl) (by rw [ha]; exact hle) (by kernel_rfl) hp hk
theorem szTurnS_c (l : List T) (n : Int) (h : Heap) (hn : 0 ≤ n ∧ n ≤ 1048576) (hl : l.length ≤ 9223372036854775807) : ACalls Try.prog 45 [.snap 3 (l.map T.av), .int .i64 n] h (fun v h' => v = .int .i64 (if n < l.length then -1 else n - l.length) ∧ h' = h) := by
  refine c_laws_szTurnS_of0 rfl noPure fun I => ?_
  refine Run2.of I 1000 ?_
  simp -implicitDefEqProofs
  grind
abbrev c_laws_szPhases_o0 : List AJ := [.o ⟨(some 2), none, false, .box false 3 (.t 0), none⟩, .o ⟨(some 4), none, false, .mv (.c (.int .i64 0)), (some [1, 2])⟩]
def c_laws_szPhases_0 : ACode := .region c_laws_szPhases_o0
abbrev c_laws_szPhases_o1 : List AJ := [.o ⟨(some 5), none, false, .fieldA 2 (.t 2), none⟩, .o ⟨(some 6), none, false, .load 1 false (.t 5), none⟩, .o ⟨(some 7), none, false, .mv (.t 1), none⟩, .o ⟨(some 8), none, false, .call 45 [(.t 6), (.t 7)], none⟩, .o ⟨(some 1), none, false, .mv (.t 8), (some [1])⟩]
def c_laws_szPhases_1 : ACode := .region c_laws_szPhases_o1
abbrev c_laws_szPhases_o2 : List AJ := [.o ⟨(some 9), none, false, .mv (.t 1), none⟩, .o ⟨(some 10), none, false, .bin .lss (.t 9) (.c (.int .i64 0)), (some [1, 10])⟩]
def c_laws_szPhases_2 : ACode := .region c_laws_szPhases_o2
abbrev c_laws_szPhases_o3 : List AJ := [.o ⟨(some 4), none, false, .mv (.c (.int .i64 (-1))), (some [4])⟩]
def c_laws_szPhases_3 : ACode := .region c_laws_szPhases_o3
def c_laws_szPhases_4 : ACode := .seq c_laws_szPhases_3 .ret
def c_laws_szPhases_5 : ACode := .cond (.t 10) c_laws_szPhases_4 .skip
def c_laws_szPhases_6 : ACode := .seq c_laws_szPhases_2 c_laws_szPhases_5
abbrev c_laws_szPhases_o4 : List AJ := [.o ⟨(some 11), none, false, .mv (.t 1), none⟩, .o ⟨(some 4), none, false, .mv (.t 11), (some [4])⟩]
def c_laws_szPhases_7 : ACode := .region c_laws_szPhases_o4
def c_laws_szPhases_8 : ACode := .seq c_laws_szPhases_7 .ret
def c_laws_szPhases_9 : ACode := .seq c_laws_szPhases_6 c_laws_szPhases_8
def c_laws_szPhases_10 : ACode := .seq c_laws_szPhases_1 c_laws_szPhases_9
def c_laws_szPhases_11 : ACode := .seq c_laws_szPhases_0 c_laws_szPhases_10
section
variable (C : Cx) (n : Nat) (sk : List AItem) (e : Env) (h : Heap) (R : AV → Heap → Prop)
@[simp, simp ↓] theorem c_laws_szPhases_0_r : vc2 C (n + 1) [] (.code c_laws_szPhases_0 :: sk) e h R = (vc2 C n c_laws_szPhases_o0 sk e h R) := nr rfl
@[simp, simp ↓] theorem c_laws_szPhases_1_r : vc2 C (n + 1) [] (.code c_laws_szPhases_1 :: sk) e h R = (vc2 C n c_laws_szPhases_o1 sk e h R) := nr rfl
@[simp, simp ↓] theorem c_laws_szPhases_2_r : vc2 C (n + 1) [] (.code c_laws_szPhases_2 :: sk) e h R = (vc2 C n c_laws_szPhases_o2 sk e h R) := nr rfl
@[simp, simp ↓] theorem c_laws_szPhases_3_r : vc2 C (n + 1) [] (.code c_laws_szPhases_3 :: sk) e h R = (vc2 C n c_laws_szPhases_o3 sk e h R) := nr rfl
@[simp, simp ↓] theorem c_laws_szPhases_4_r : vc2 C (n + 1) [] (.code c_laws_szPhases_4 :: sk) e h R = (vc2 C n [] (.code c_laws_szPhases_3 :: .code .ret :: sk) e h R) := nr rfl
@[simp, simp ↓] theorem c_laws_szPhases_5_r : vc2 C (n + 1) [] (.code c_laws_szPhases_5 :: sk) e h R = (condK (ev e (.t 10)) (vc2 C n [] (.code c_laws_szPhases_4 :: sk) e h R) (vc2 C n [] (.code .skip :: sk) e h R)) := nr rfl
@[simp, simp ↓] theorem c_laws_szPhases_6_r : vc2 C (n + 1) [] (.code c_laws_szPhases_6 :: sk) e h R = (vc2 C n [] (.code c_laws_szPhases_2 :: .code c_laws_szPhases_5 :: sk) e h R) := nr rfl
@[simp, simp ↓] theorem c_laws_szPhases_7_r : vc2 C (n + 1) [] (.code c_laws_szPhases_7 :: sk) e h R = (vc2 C n c_laws_szPhases_o4 sk e h R) := nr rfl
@[simp, simp ↓] theorem c_laws_szPhases_8_r : vc2 C (n + 1) [] (.code c_laws_szPhases_8 :: sk) e h R = (vc2 C n [] (.code c_laws_szPhases_7 :: .code .ret :: sk) e h R) := nr rfl
@[simp, simp ↓] theorem c_laws_szPhases_9_r : vc2 C (n + 1) [] (.code c_laws_szPhases_9 :: sk) e h R = (vc2 C n [] (.code c_laws_szPhases_6 :: .code c_laws_szPhases_8 :: sk) e h R) := nr rfl
@[simp, simp ↓] theorem c_laws_szPhases_10_r : vc2 C (n + 1) [] (.code c_laws_szPhases_10 :: sk) e h R = (vc2 C n [] (.code c_laws_szPhases_1 :: .code c_laws_szPhases_9 :: sk) e h R) := nr rfl
@[simp, simp ↓] theorem c_laws_szPhases_11_r : vc2 C (n + 1) [] (.code c_laws_szPhases_11 :: sk) e h R = (vc2 C n [] (.code c_laws_szPhases_0 :: .code c_laws_szPhases_10 :: sk) e h R) := nr rfl
end
noncomputable def c_laws_szPhases_C (orc : Orc) : Cx := ⟨Try.prog, [], 14, 12, [.tmp 4], orc⟩
@[simp] theorem c_laws_szPhases_C_P (orc : Orc) : (c_laws_szPhases_C orc).P = Try.prog := nr rfl
@[simp] theorem c_laws_szPhases_C_o (orc : Orc) : (c_laws_szPhases_C orc).orc = orc := nr rfl
@[simp] theorem c_laws_szPhases_C_r (orc : Orc) : (c_laws_szPhases_C orc).res = [.tmp 4] := nr rfl
theorem c_laws_szPhases_of {args : List AV} {h : Heap} {R : AV → Heap → Prop} {k : Nat} (ha : args.length = k) {orc : Orc} (hp : Pure Try.prog orc) (hk : Is (c_laws_szPhases_C orc) Try.f14 → Run2 (c_laws_szPhases_C orc) [.code c_laws_szPhases_11] (argEnv 0 args) h (Post R)) (hle : k ≤ 12 := by simp) : ACalls Try.prog 14 args h R :=
  contract2 [] c_laws_szPhases_11 [.tmp 4] Try.func14 (by decide +kernel) rfl (by kernel_rfl) (by rw [ha]; exact hle) (by kernel_rfl) hp hk
theorem c_laws_szPhases_of0 {args : List AV} {h : Heap} {R : AV → Heap → Prop} {k : Nat} (ha : args.length = k) {orc : Orc} (hp : Pure Try.prog orc) (hk : Is (c_laws_szPhases_C orc) Try.f14 → Run2 (c_laws_szPhases_C orc) [.code c_laws_szPhases_11] (argEnv 0 args) h R) (hle : k ≤ 12 := by simp) : ACalls Try.prog 14 args h R :=
  contract20 [] c_laws_szPhases_11 [.tmp 4] Try.func14 (by decide +kernel) rfl (by kernel_rfl) (by rw [ha]; exact hle) (by kernel_rfl) hp hk
theorem szPhases_c (x : Ph) (n : Int) (h : Heap) (hn : 0 ≤ n ∧ n ≤ 1048576) (hl : x.ts.length ≤ 9223372036854775807) : ACalls Try.prog 14 [x.av, .int .i64 n] h (fun v h' => v = .int .i64 (if n < x.ts.length then -1 else n - x.ts.length) ∧ h' = h) := by
  refine c_laws_szPhases_of0 rfl noPure fun I => ?_
  refine Run2.of I 1000 ?_
  simp -implicitDefEqProofs
  refine (szTurnS_c x.ts n _ hn hl).mono ?_
  rintro v h' ⟨rfl, rfl⟩
  refine gK.go ?_
  simp -implicitDefEqProofs
  grind
abbrev c_laws_eqTurn_o0 : List AJ := [.o ⟨(some 2), none, false, .box false 3 (.t 0), none⟩, .o ⟨(some 3), none, false, .box false 3 (.t 1), none⟩, .o ⟨(some 4), none, false, .mv (.c (.bool false)), (some [2, 3])⟩]
def c_laws_eqTurn_0 : ACode := .region c_laws_eqTurn_o0
abbrev c_laws_eqTurn_o1 : List AJ := [.o ⟨(some 5), none, false, .fieldA 0 (.t 2), none⟩, .o ⟨(some 6), none, false, .load 1 false (.t 5), none⟩, .o ⟨(some 7), none, false, .fieldA 0 (.t 3), none⟩, .o ⟨(some 8), none, false, .load 1 false (.t 7), none⟩, .o ⟨(some 9), none, false, .bin .neq (.t 6) (.t 8), (some [2, 3, 9])⟩]
def c_laws_eqTurn_1 : ACode := .region c_laws_eqTurn_o1
abbrev c_laws_eqTurn_o2 : List AJ := [.o ⟨(some 4), none, false, .mv (.c (.bool false)), (some [4])⟩]
def c_laws_eqTurn_2 : ACode := .region c_laws_eqTurn_o2
def c_laws_eqTurn_3 : ACode := .seq c_laws_eqTurn_2 .ret
def c_laws_eqTurn_4 : ACode := .cond (.t 9) c_laws_eqTurn_3 .skip
def c_laws_eqTurn_5 : ACode := .seq c_laws_eqTurn_1 c_laws_eqTurn_4
abbrev c_laws_eqTurn_o3 : List AJ := [.o ⟨(some 10), none, false, .fieldA 1 (.t 2), none⟩, .o ⟨(some 11), none, false, .load 1 false (.t 10), none⟩, .o ⟨(some 12), none, false, .fieldA 1 (.t 3), none⟩, .o ⟨(some 13), none, false, .load 1 false (.t 12), none⟩, .o ⟨(some 14), none, false, .bin .neq (.t 11) (.t 13), (some [2, 3, 14])⟩]
def c_laws_eqTurn_6 : ACode := .region c_laws_eqTurn_o3
abbrev c_laws_eqTurn_o4 : List AJ := [.o ⟨(some 4), none, false, .mv (.c (.bool false)), (some [4])⟩]
def c_laws_eqTurn_7 : ACode := .region c_laws_eqTurn_o4
def c_laws_eqTurn_8 : ACode := .seq c_laws_eqTurn_7 .ret
def c_laws_eqTurn_9 : ACode := .cond (.t 14) c_laws_eqTurn_8 .skip
def c_laws_eqTurn_10 : ACode := .seq c_laws_eqTurn_6 c_laws_eqTurn_9
abbrev c_laws_eqTurn_o5 : List AJ := [.o ⟨(some 15), none, false, .fieldA 2 (.t 2), none⟩, .o ⟨(some 16), none, false, .load 1 false (.t 15), none⟩, .o ⟨(some 17), none, false, .fieldA 2 (.t 3), none⟩, .o ⟨(some 18), none, false, .load 1 false (.t 17), none⟩, .o ⟨(some 19), none, false, .bin .neq (.t 16) (.t 18), (some [19])⟩]
def c_laws_eqTurn_11 : ACode := .region c_laws_eqTurn_o5
abbrev c_laws_eqTurn_o6 : List AJ := [.o ⟨(some 4), none, false, .mv (.c (.bool false)), (some [4])⟩]
def c_laws_eqTurn_12 : ACode := .region c_laws_eqTurn_o6
def c_laws_eqTurn_13 : ACode := .seq c_laws_eqTurn_12 .ret
def c_laws_eqTurn_14 : ACode := .cond (.t 19) c_laws_eqTurn_13 .skip
def c_laws_eqTurn_15 : ACode := .seq c_laws_eqTurn_11 c_laws_eqTurn_14
abbrev c_laws_eqTurn_o7 : List AJ := [.o ⟨(some 4), none, false, .mv (.c (.bool true)), (some [4])⟩]
def c_laws_eqTurn_16 : ACode := .region c_laws_eqTurn_o7
def c_laws_eqTurn_17 : ACode := .seq c_laws_eqTurn_16 .ret
def c_laws_eqTurn_18 : ACode := .seq c_laws_eqTurn_15 c_laws_eqTurn_17
def c_laws_eqTurn_19 : ACode := .seq c_laws_eqTurn_10 c_laws_eqTurn_18
def c_laws_eqTurn_20 : ACode := .seq c_laws_eqTurn_5 c_laws_eqTurn_19
def c_laws_eqTurn_21 : ACode := .seq c_laws_eqTurn_0 c_laws_eqTurn_20
section
variable (C : Cx) (n : Nat) (sk : List AItem) (e : Env) (h : Heap) (R : AV → Heap → Prop)
@[simp, simp ↓] theorem c_laws_eqTurn_0_r : vc2 C (n + 1) [] (.code c_laws_eqTurn_0 :: sk) e h R = (vc2 C n c_laws_eqTurn_o0 sk e h R) := nr rfl
@[simp, simp ↓] theorem c_laws_eqTurn_1_r : vc2 C (n + 1) [] (.code c_laws_eqTurn_1 :: sk) e h R = (vc2 C n c_laws_eqTurn_o1 sk e h R) := nr rfl
@[simp, simp ↓] theorem c_laws_eqTurn_2_r : vc2 C (n + 1) [] (.code c_laws_eqTurn_2 :: sk) e h R = (vc2 C n c_laws_eqTurn_o2 sk e h R) := nr rfl
@[simp, simp ↓] theorem c_laws_eqTurn_3_r : vc2 C (n + 1) [] (.code c_laws_eqTurn_3 :: sk) e h R = (vc2 C n [] (.code c_laws_eqTurn_2 :: .code .ret :: sk) e h R) := nr rfl
@[simp, simp ↓] theorem c_laws_eqTurn_4_r : vc2 C (n + 1) [] (.code c_laws_eqTurn_4 :: sk) e h R = (condK (ev e (.t 9)) (vc2 C n [] (.code c_laws_eqTurn_3 :: sk) e h R) (vc2 C n [] (.code .skip :: sk) e h R)) := nr rfl
@[simp, simp ↓] theorem c_laws_eqTurn_5_r : vc2 C (n + 1) [] (.code c_laws_eqTurn_5 :: sk) e h R = (vc2 C n [] (.code c_laws_eqTurn_1 :: .code c_laws_eqTurn_4 :: sk) e h R) := nr rfl
@[simp, simp ↓] theorem c_laws_eqTurn_6_r : vc2 C (n + 1) [] (.code c_laws_eqTurn_6 :: sk) e h R = (vc2 C n c_laws_eqTurn_o3 sk e h R) := nr rfl
@[simp, simp ↓] theorem c_laws_eqTurn_7_r : vc2 C (n + 1) [] (.code c_laws_eqTurn_7 :: sk) e h R = (vc2 C n c_laws_eqTurn_o4 sk e h R) := nr rfl
@[simp, simp ↓] theorem c_laws_eqTurn_8_r : vc2 C (n + 1) [] (.code c_laws_eqTurn_8 :: sk) e h R = (vc2 C n [] (.code c_laws_eqTurn_7 :: .code .ret :: sk) e h R) := nr rfl
@[simp, simp ↓] theorem c_laws_eqTurn_9_r : vc2 C (n + 1) [] (.code c_laws_eqTurn_9 :: sk) e h R = (condK (ev e (.t 14)) (vc2 C n [] (.code c_laws_eqTurn_8 :: sk) e h R) (vc2 C n [] (.code .skip :: sk) e h R)) := nr rfl
@[simp, simp ↓] theorem c_laws_eqTurn_10_r : vc2 C (n + 1) [] (.code c_laws_eqTurn_10 :: sk) e h R = (vc2 C n [] (.code c_laws_eqTurn_6 :: .code c_laws_eqTurn_9 :: sk) e h R) := nr rfl
@[simp, simp ↓] theorem c_laws_eqTurn_11_r : vc2 C (n + 1) [] (.code c_laws_eqTurn_11 :: sk) e h R = (vc2 C n c_laws_eqTurn_o5 sk e h R) := nr rfl
@[simp, simp ↓] theorem c_laws_eqTurn_12_r : vc2 C (n + 1) [] (.code c_laws_eqTurn_12 :: sk) e h R = (vc2 C n c_laws_eqTurn_o6 sk e h R) := nr rfl
@[simp, simp ↓] theorem c_laws_eqTurn_13_r : vc2 C (n + 1) [] (.code c_laws_eqTurn_13 :: sk) e h R = (vc2 C n [] (.code c_laws_eqTurn_12 :: .code .ret :: sk) e h R) := nr rfl
@[simp, simp ↓] theorem c_laws_eqTurn_14_r : vc2 C (n + 1) [] (.code c_laws_eqTurn_14 :: sk) e h R = (condK (ev e (.t 19)) (vc2 C n [] (.code c_laws_eqTurn_13 :: sk) e h R) (vc2 C n [] (.code .skip :: sk) e h R)) := nr rfl
@[simp, simp ↓] theorem c_laws_eqTurn_15_r : vc2 C (n + 1) [] (.code c_laws_eqTurn_15 :: sk) e h R = (vc2 C n [] (.code c_laws_eqTurn_11 :: .code c_laws_eqTurn_14 :: sk) e h R) := nr rfl
@[simp, simp ↓] theorem c_laws_eqTurn_16_r : vc2 C (n + 1) [] (.code c_laws_eqTurn_16 :: sk) e h R = (vc2 C n c_laws_eqTurn_o7 sk e h R) := nr rfl
@[simp, simp ↓] theorem c_laws_eqTurn_17_r : vc2 C (n + 1) [] (.code c_laws_eqTurn_17 :: sk) e h R = (vc2 C n [] (.code c_laws_eqTurn_16 :: .code .ret :: sk) e h R) := nr rfl
@[simp, simp ↓] theorem c_laws_eqTurn_18_r : vc2 C (n + 1) [] (.code c_laws_eqTurn_18 :: sk) e h R = (vc2 C n [] (.code c_laws_eqTurn_15 :: .code c_laws_eqTurn_17 :: sk) e h R) := nr rfl
@[simp, simp ↓] theorem c_laws_eqTurn_19_r : vc2 C (n + 1) [] (.code c_laws_eqTurn_19 :: sk) e h R = (vc2 C n [] (.code c_laws_eqTurn_10 :: .code c_laws_eqTurn_18 :: sk) e h R) := nr rfl
@[simp, simp ↓] theorem c_laws_eqTurn_20_r : vc2 C (n + 1) [] (.code c_laws_eqTurn_20 :: sk) e h R = (vc2 C n [] (.code c_laws_eqTurn_5 :: .code c_laws_eqTurn_19 :: sk) e h R) := nr rfl
@[simp, simp ↓] theorem c_laws_eqTurn_21_r : vc2 C (n + 1) [] (.code c_laws_eqTurn_21 :: sk) e h R = (vc2 C n [] (.code c_laws_eqTurn_0 :: .code c_laws_eqTurn_20 :: sk) e h R) := nr rfl
end
noncomputable def c_laws_eqTurn_C (orc : Orc) : Cx := ⟨Try.prog, [], 87, 20, [.tmp 4], orc⟩
@[simp] theorem c_laws_eqTurn_C_P (orc : Orc) : (c_laws_eqTurn_C orc).P = Try.prog := nr rfl
@[simp] theorem c_laws_eqTurn_C_o (orc : Orc) : (c_laws_eqTurn_C orc).orc = orc := nr rfl
@[simp] theorem c_laws_eqTurn_C_r (orc : Orc) : (c_laws_eqTurn_C orc).res = [.tmp 4] := nr rfl
theorem c_laws_eqTurn_of {args : List AV} {h : Heap} {R : AV → Heap → Prop} {k : Nat} (ha : args.length = k) {orc : Orc} (hp : Pure Try.prog orc) (hk : Is (c_laws_eqTurn_C orc) Try.f87 → Run2 (c_laws_eqTurn_C orc) [.code c_laws_eqTurn_21] (argEnv 0 args) h (Post R)) (hle : k ≤ 20 := by simp) : ACalls Try.prog 87 args h R :=
  contract2 [] c_laws_eqTurn_21 [.tmp 4] Try.func87 (by decide +kernel) rfl (by kernel_rfl) (by rw [ha]; exact hle) (by kernel_rfl) hp hk
theorem c_laws_eqTurn_of0 {args : List AV} {h : Heap} {R : AV → Heap → Prop} {k : Nat} (ha : args.length = k) {orc : Orc} (hp : Pure Try.prog orc) (hk : Is (c_laws_eqTurn_C orc) Try.f87 → Run2 (c_laws_eqTurn_C orc) [.code c_laws_eqTurn_21] (argEnv 0 args) h R) (hle : k ≤ 20 := by simp) : ACalls Try.prog 87 args h R :=
  contract20 [] c_laws_eqTurn_21 [.tmp 4] Try.func87 (by decide +kernel) rfl (by kernel_rfl) (by rw [ha]; exact hle) (by kernel_rfl) hp hk
theorem eqTurn_c (x y : T) (h : Heap) : ACalls Try.prog 87 [x.av, y.av] h (fun v h' => v = .bool (decide (x = y)) ∧ h' = h) := by
  refine c_laws_eqTurn_of0 rfl noPure fun I => ?_
  cases x; cases y
  refine Run2.of I 1000 ?_
  simp -implicitDefEqProofs
  grind
noncomputable def o_eqTurn : List AV → Option (Prop × AV) := tab (fun (x : Int × Int × Int × Int × Int × Int) => match x with | (f, t, s, f', t', s') => [.agg [.int .i64 f, .int .i64 t, .int .i64 s], .agg [.int .i64 f', .int .i64 t', .int .i64 s']]) (fun x => match x with | (f, t, s, f', t', s') => True) (fun x => match x with | (f, t, s, f', t', s') => .bool (decide ((⟨f, t, s⟩ : T) = ⟨f', t', s'⟩)))
@[simp] theorem o_eqTurn_e (f : Int) (t : Int) (s : Int) (f' : Int) (t' : Int) (s' : Int) : o_eqTurn [.agg [.int .i64 f, .int .i64 t, .int .i64 s], .agg [.int .i64 f', .int .i64 t', .int .i64 s']] = some (True, .bool (decide ((⟨f, t, s⟩ : T) = ⟨f', t', s'⟩))) := tab_at (enc := fun (x : Int × Int × Int × Int × Int × Int) => match x with | (f, t, s, f', t', s') => [.agg [.int .i64 f, .int .i64 t, .int .i64 s], .agg [.int .i64 f', .int .i64 t', .int .i64 s']]) (fun x y h => by
  obtain ⟨f1, t1, s1, f'1, t'1, s'1⟩ := x; obtain ⟨f2, t2, s2, f'2, t'2, s'2⟩ := y; simp at h; simp [h]) _ _ (f, t, s, f', t', s')
theorem o_eqTurn_k : Knows Try.prog 87 o_eqTurn := tab_knows fun x hx h => by
  obtain ⟨f, t, s, f', t', s'⟩ := x; exact eqTurn_c ⟨f, t, s⟩ ⟨f', t', s'⟩ h
abbrev c_laws_eqTurnS_o0 : List AJ := [.o ⟨(some 4), none, false, .mv (.c (.bool false)), (some [0, 1])⟩]
def c_laws_eqTurnS_0 : ACode := .region c_laws_eqTurnS_o0
abbrev c_laws_eqTurnS_o1 : List AJ := [.o ⟨(some 6), none, false, .mv (.t 0), none⟩, .o ⟨(some 7), none, false, .len (.t 6), none⟩, .o ⟨(some 8), none, false, .mv (.t 1), none⟩, .o ⟨(some 9), none, false, .len (.t 8), none⟩, .o ⟨(some 10), none, false, .bin .neq (.t 7) (.t 9), (some [0, 1, 10])⟩]
def c_laws_eqTurnS_1 : ACode := .region c_laws_eqTurnS_o1
abbrev c_laws_eqTurnS_o2 : List AJ := [.o ⟨(some 4), none, false, .mv (.c (.bool false)), (some [4])⟩]
def c_laws_eqTurnS_2 : ACode := .region c_laws_eqTurnS_o2
def c_laws_eqTurnS_3 : ACode := .seq c_laws_eqTurnS_2 .ret
def c_laws_eqTurnS_4 : ACode := .cond (.t 10) c_laws_eqTurnS_3 .skip
def c_laws_eqTurnS_5 : ACode := .seq c_laws_eqTurnS_1 c_laws_eqTurnS_4
abbrev c_laws_eqTurnS_o3 : List AJ := [.o ⟨(some 5), none, false, .mv (.c (.int .i64 0)), (some [0, 1, 5])⟩]
def c_laws_eqTurnS_6 : ACode := .region c_laws_eqTurnS_o3
abbrev c_laws_eqTurnS_o4 : List AJ := [.o ⟨(some 11), none, false, .mv (.t 5), none⟩, .o ⟨(some 12), none, false, .mv (.t 0), none⟩, .o ⟨(some 13), none, false, .len (.t 12), none⟩, .o ⟨(some 14), none, false, .bin .lss (.t 11) (.t 13), (some [0, 1, 5, 14])⟩]
def c_laws_eqTurnS_7 : ACode := .region c_laws_eqTurnS_o4
def c_laws_eqTurnS_8 : ACode := .cond (.t 14) .skip (.exit 0)
def c_laws_eqTurnS_9 : ACode := .seq c_laws_eqTurnS_7 c_laws_eqTurnS_8
abbrev c_laws_eqTurnS_o5 : List AI := [⟨(some 17), none, false, .mv (.t 0), none⟩, ⟨(some 18), none, false, .mv (.t 5), none⟩, ⟨(some 19), none, false, .idxA 3 (.t 17) (.t 18), none⟩, ⟨(some 20), none, false, .load 3 true (.t 19), none⟩, ⟨(some 21), none, false, .mv (.t 1), none⟩, ⟨(some 22), none, false, .mv (.t 5), none⟩, ⟨(some 23), none, false, .idxA 3 (.t 21) (.t 22), none⟩, ⟨(some 24), none, false, .load 3 true (.t 23), none⟩, ⟨(some 25), none, false, .call 87 [(.t 20), (.t 24)], none⟩, ⟨(some 26), none, false, .un .not (.t 25), (some [0, 1, 5, 26])⟩]
def c_laws_eqTurnS_10 : ACode := .draw c_laws_eqTurnS_o5 [] rfl
abbrev c_laws_eqTurnS_o6 : List AJ := [.o ⟨(some 4), none, false, .mv (.c (.bool false)), (some [4])⟩]
def c_laws_eqTurnS_11 : ACode := .region c_laws_eqTurnS_o6
def c_laws_eqTurnS_12 : ACode := .seq c_laws_eqTurnS_11 .ret
def c_laws_eqTurnS_13 : ACode := .cond (.t 26) c_laws_eqTurnS_12 .skip
def c_laws_eqTurnS_14 : ACode := .seq c_laws_eqTurnS_10 c_laws_eqTurnS_13
def c_laws_eqTurnS_15 : ACode := .block 1 c_laws_eqTurnS_14
abbrev c_laws_eqTurnS_o7 : List AJ := [.o ⟨(some 15), none, false, .mv (.t 5), none⟩, .o ⟨(some 16), none, true, .bin .add (.t 15) (.c (.int .i64 1)), none⟩, .o ⟨(some 5), none, false, .mv (.t 16), (some [0, 1, 5])⟩]
def c_laws_eqTurnS_16 : ACode := .region c_laws_eqTurnS_o7
def c_laws_eqTurnS_17 : ACode := .seq c_laws_eqTurnS_15 c_laws_eqTurnS_16
def c_laws_eqTurnS_18 : ACode := .seq c_laws_eqTurnS_9 c_laws_eqTurnS_17
def c_laws_eqTurnS_19 : ACode := .loop c_laws_eqTurnS_18
def c_laws_eqTurnS_20 : ACode := .block 0 c_laws_eqTurnS_19
def c_laws_eqTurnS_21 : ACode := .seq c_laws_eqTurnS_6 c_laws_eqTurnS_20
abbrev c_laws_eqTurnS_o8 : List AJ := [.o ⟨(some 4), none, false, .mv (.c (.bool true)), (some [4])⟩]
def c_laws_eqTurnS_22 : ACode := .region c_laws_eqTurnS_o8
def c_laws_eqTurnS_23 : ACode := .seq c_laws_eqTurnS_22 .ret
def c_laws_eqTurnS_24 : ACode := .seq c_laws_eqTurnS_21 c_laws_eqTurnS_23
def c_laws_eqTurnS_25 : ACode := .seq c_laws_eqTurnS_5 c_laws_eqTurnS_24
def c_laws_eqTurnS_26 : ACode := .seq c_laws_eqTurnS_0 c_laws_eqTurnS_25
section
variable (C : Cx) (n : Nat) (sk : List AItem) (e : Env) (h : Heap) (R : AV → Heap → Prop)
@[simp, simp ↓] theorem c_laws_eqTurnS_0_r : vc2 C (n + 1) [] (.code c_laws_eqTurnS_0 :: sk) e h R = (vc2 C n c_laws_eqTurnS_o0 sk e h R) := nr rfl
@[simp, simp ↓] theorem c_laws_eqTurnS_1_r : vc2 C (n + 1) [] (.code c_laws_eqTurnS_1 :: sk) e h R = (vc2 C n c_laws_eqTurnS_o1 sk e h R) := nr rfl
@[simp, simp ↓] theorem c_laws_eqTurnS_2_r : vc2 C (n + 1) [] (.code c_laws_eqTurnS_2 :: sk) e h R = (vc2 C n c_laws_eqTurnS_o2 sk e h R) := nr rfl
@[simp, simp ↓] theorem c_laws_eqTurnS_3_r : vc2 C (n + 1) [] (.code c_laws_eqTurnS_3 :: sk) e h R = (vc2 C n [] (.code c_laws_eqTurnS_2 :: .code .ret :: sk) e h R) := nr rfl
@[simp, simp ↓] theorem c_laws_eqTurnS_4_r : vc2 C (n + 1) [] (.code c_laws_eqTurnS_4 :: sk) e h R = (condK (ev e (.t 10)) (vc2 C n [] (.code c_laws_eqTurnS_3 :: sk) e h R) (vc2 C n [] (.code .skip :: sk) e h R)) := nr rfl
@[simp, simp ↓] theorem c_laws_eqTurnS_5_r : vc2 C (n + 1) [] (.code c_laws_eqTurnS_5 :: sk) e h R = (vc2 C n [] (.code c_laws_eqTurnS_1 :: .code c_laws_eqTurnS_4 :: sk) e h R) := nr rfl
@[simp, simp ↓] theorem c_laws_eqTurnS_6_r : vc2 C (n + 1) [] (.code c_laws_eqTurnS_6 :: sk) e h R = (vc2 C n c_laws_eqTurnS_o3 sk e h R) := nr rfl
@[simp, simp ↓] theorem c_laws_eqTurnS_7_r : vc2 C (n + 1) [] (.code c_laws_eqTurnS_7 :: sk) e h R = (vc2 C n c_laws_eqTurnS_o4 sk e h R) := nr rfl
@[simp, simp ↓] theorem c_laws_eqTurnS_8_r : vc2 C (n + 1) [] (.code c_laws_eqTurnS_8 :: sk) e h R = (condK (ev e (.t 14)) (vc2 C n [] (.code .skip :: sk) e h R) (vc2 C n [] (.code (.exit 0) :: sk) e h R)) := nr rfl
@[simp, simp ↓] theorem c_laws_eqTurnS_9_r : vc2 C (n + 1) [] (.code c_laws_eqTurnS_9 :: sk) e h R = (vc2 C n [] (.code c_laws_eqTurnS_7 :: .code c_laws_eqTurnS_8 :: sk) e h R) := nr rfl
@[simp, simp ↓] theorem c_laws_eqTurnS_10_r : vc2 C (n + 1) [] (.code c_laws_eqTurnS_10 :: sk) e h R = (draw2 C h (vK C n [] sk R h) c_laws_eqTurnS_o5 e) := nr rfl
@[simp, simp ↓] theorem c_laws_eqTurnS_11_r : vc2 C (n + 1) [] (.code c_laws_eqTurnS_11 :: sk) e h R = (vc2 C n c_laws_eqTurnS_o6 sk e h R) := nr rfl
@[simp, simp ↓] theorem c_laws_eqTurnS_12_r : vc2 C (n + 1) [] (.code c_laws_eqTurnS_12 :: sk) e h R = (vc2 C n [] (.code c_laws_eqTurnS_11 :: .code .ret :: sk) e h R) := nr rfl
@[simp, simp ↓] theorem c_laws_eqTurnS_13_r : vc2 C (n + 1) [] (.code c_laws_eqTurnS_13 :: sk) e h R = (condK (ev e (.t 26)) (vc2 C n [] (.code c_laws_eqTurnS_12 :: sk) e h R) (vc2 C n [] (.code .skip :: sk) e h R)) := nr rfl
@[simp, simp ↓] theorem c_laws_eqTurnS_14_r : vc2 C (n + 1) [] (.code c_laws_eqTurnS_14 :: sk) e h R = (vc2 C n [] (.code c_laws_eqTurnS_10 :: .code c_laws_eqTurnS_13 :: sk) e h R) := nr rfl
@[simp, simp ↓] theorem c_laws_eqTurnS_15_r : vc2 C (n + 1) [] (.code c_laws_eqTurnS_15 :: sk) e h R = (vc2 C n [] (.code c_laws_eqTurnS_14 :: .inBlock 1 :: sk) e h R) := nr rfl
@[simp, simp ↓] theorem c_laws_eqTurnS_16_r : vc2 C (n + 1) [] (.code c_laws_eqTurnS_16 :: sk) e h R = (vc2 C n c_laws_eqTurnS_o7 sk e h R) := nr rfl
@[simp, simp ↓] theorem c_laws_eqTurnS_17_r : vc2 C (n + 1) [] (.code c_laws_eqTurnS_17 :: sk) e h R = (vc2 C n [] (.code c_laws_eqTurnS_15 :: .code c_laws_eqTurnS_16 :: sk) e h R) := nr rfl
@[simp, simp ↓] theorem c_laws_eqTurnS_18_r : vc2 C (n + 1) [] (.code c_laws_eqTurnS_18 :: sk) e h R = (vc2 C n [] (.code c_laws_eqTurnS_9 :: .code c_laws_eqTurnS_17 :: sk) e h R) := nr rfl
@[simp, simp ↓] theorem c_laws_eqTurnS_19_r : vc2 C (n + 1) [] (.code c_laws_eqTurnS_19 :: sk) e h R = (Run2 C (.code c_laws_eqTurnS_18 :: .inLoop c_laws_eqTurnS_18 :: sk) e h R) := nr rfl
@[simp, simp ↓] theorem c_laws_eqTurnS_20_r : vc2 C (n + 1) [] (.code c_laws_eqTurnS_20 :: sk) e h R = (vc2 C n [] (.code c_laws_eqTurnS_19 :: .inBlock 0 :: sk) e h R) := nr rfl
@[simp, simp ↓] theorem c_laws_eqTurnS_21_r : vc2 C (n + 1) [] (.code c_laws_eqTurnS_21 :: sk) e h R = (vc2 C n [] (.code c_laws_eqTurnS_6 :: .code c_laws_eqTurnS_20 :: sk) e h R) := nr rfl
@[simp, simp ↓] theorem c_laws_eqTurnS_22_r : vc2 C (n + 1) [] (.code c_laws_eqTurnS_22 :: sk) e h R = (vc2 C n c_laws_eqTurnS_o8 sk e h R) := nr rfl
@[simp, simp ↓] theorem c_laws_eqTurnS_23_r : vc2 C (n + 1) [] (.code c_laws_eqTurnS_23 :: sk) e h R = (vc2 C n [] (.code c_laws_eqTurnS_22 :: .code .ret :: sk) e h R) := nr rfl
@[simp, simp ↓] theorem c_laws_eqTurnS_24_r : vc2 C (n + 1) [] (.code c_laws_eqTurnS_24 :: sk) e h R = (vc2 C n [] (.code c_laws_eqTurnS_21 :: .code c_laws_eqTurnS_23 :: sk) e h R) := nr rfl
@[simp, simp ↓] theorem c_laws_eqTurnS_25_r : vc2 C (n + 1) [] (.code c_laws_eqTurnS_25 :: sk) e h R = (vc2 C n [] (.code c_laws_eqTurnS_5 :: .code c_laws_eqTurnS_24 :: sk) e h R) := nr rfl
@[simp, simp ↓] theorem c_laws_eqTurnS_26_r : vc2 C (n + 1) [] (.code c_laws_eqTurnS_26 :: sk) e h R = (vc2 C n [] (.code c_laws_eqTurnS_0 :: .code c_laws_eqTurnS_25 :: sk) e h R) := nr rfl
end
noncomputable def c_laws_eqTurnS_C (orc : Orc) : Cx := ⟨Try.prog, [], 48, 27, [.tmp 4], orc⟩
@[simp] theorem c_laws_eqTurnS_C_P (orc : Orc) : (c_laws_eqTurnS_C orc).P = Try.prog := nr rfl
@[simp] theorem c_laws_eqTurnS_C_o (orc : Orc) : (c_laws_eqTurnS_C orc).orc = orc := nr rfl
@[simp] theorem c_laws_eqTurnS_C_r (orc : Orc) : (c_laws_eqTurnS_C orc).res = [.tmp 4] := nr rfl
theorem c_laws_eqTurnS_of {args : List AV} {h : Heap} {R : AV → Heap → Prop} {k : Nat} (ha : args.length = k) {orc : Orc} (hp : Pure Try.prog orc) (hk : Is (c_laws_eqTurnS_C orc) Try.f48 → Run2 (c_laws_eqTurnS_C orc) [.code c_laws_eqTurnS_26] (argEnv 0 args) h (Post R)) (hle : k ≤ 27 := by simp) : ACalls Try.prog 48 args h R :=
  contract2 [] c_laws_eqTurnS_26 [.tmp 4] Try.func48 (by decide +kernel) rfl (by kernel_rfl) (by rw [ha]; exact hle) (by kernel_rfl) hp hk
theorem c_laws_eqTurnS_of0 {args : List AV} {h : Heap} {R : AV → Heap → Prop} {k : Nat} (ha : args.length = k) {orc : Orc} (hp : Pure Try.prog orc) (hk : Is (c_laws_eqTurnS_C orc) Try.f48 → Run2 (c_laws_eqTurnS_C orc) [.code c_laws_eqTurnS_26] (argEnv 0 args) h R) (hle : k ≤ 27 := by simp) : ACalls Try.prog 48 args h R :=
  contract20 [] c_laws_eqTurnS_26 [.tmp 4] Try.func48 (by decide +kernel) rfl (by kernel_rfl) (by rw [ha]; exact hle) (by kernel_rfl) hp hk
theorem eqTurnS_c (l m : List T) (h : Heap) (hl : l.length ≤ 1048576) : ACalls Try.prog 48 [.snap 3 (l.map T.av), .snap 3 (m.map T.av)] h (fun v h' => v = .bool (decide (l = m)) ∧ h' = h) := by
  refine c_laws_eqTurnS_of0 rfl (lk_pure o_eqTurn_k lk_pure0) fun I => ?_
  refine Run2.of I 1000 ?_
  simp -implicitDefEqProofs
  refine ⟨by rintro hne rfl; exact hne rfl, fun hlen => ?_⟩
  refine Run2.loop (fun i => [(0, .snap 3 (l.map T.av)), (1, .snap 3 (m.map T.av)), (5, .int .i64 (i : Nat))]) (fun i => h) (fun i => l.length - i) (fun i => i ≤ l.length ∧ l.take i = m.take i) 0 (by simp) fun i hi ih => ?_
  by_cases hlt : i < l.length
  · have hlt' : i < m.length := by omega
    refine Run2.of I 1000 ?_
    simp -implicitDefEqProofs [hlt, hlt']
    constructor
    · rintro hne rfl
      exact hne rfl
    · intro he
      refine ⟨by omega, ?_⟩
      have := ih (i + 1) ⟨by omega, by rw [List.take_succ_eq_append_getElem hlt, List.take_succ_eq_append_getElem hlt', hi.2, he]⟩ (by omega)
      simpa using this
  · refine Run2.of I 1000 ?_
    simp -implicitDefEqProofs [hlt]
    have : i = l.length := by omega
    have h2 := hi.2
    rw [List.take_of_length_le (by omega), List.take_of_length_le (by omega)] at h2
    exact h2
abbrev c_laws_eqPhases_o0 : List AJ := [.o ⟨(some 2), none, false, .box false 3 (.t 0), none⟩, .o ⟨(some 3), none, false, .box false 3 (.t 1), none⟩, .o ⟨(some 4), none, false, .mv (.c (.bool false)), (some [2, 3])⟩]
def c_laws_eqPhases_0 : ACode := .region c_laws_eqPhases_o0
abbrev c_laws_eqPhases_o1 : List AJ := [.o ⟨(some 5), none, false, .fieldA 0 (.t 2), none⟩, .o ⟨(some 6), none, false, .load 1 false (.t 5), none⟩, .o ⟨(some 7), none, false, .fieldA 0 (.t 3), none⟩, .o ⟨(some 8), none, false, .load 1 false (.t 7), none⟩, .o ⟨(some 9), none, false, .bin .neq (.t 6) (.t 8), (some [2, 3, 9])⟩]
def c_laws_eqPhases_1 : ACode := .region c_laws_eqPhases_o1
abbrev c_laws_eqPhases_o2 : List AJ := [.o ⟨(some 4), none, false, .mv (.c (.bool false)), (some [4])⟩]
def c_laws_eqPhases_2 : ACode := .region c_laws_eqPhases_o2
def c_laws_eqPhases_3 : ACode := .seq c_laws_eqPhases_2 .ret
def c_laws_eqPhases_4 : ACode := .cond (.t 9) c_laws_eqPhases_3 .skip
def c_laws_eqPhases_5 : ACode := .seq c_laws_eqPhases_1 c_laws_eqPhases_4
abbrev c_laws_eqPhases_o3 : List AJ := [.o ⟨(some 10), none, false, .fieldA 1 (.t 2), none⟩, .o ⟨(some 11), none, false, .load 1 false (.t 10), none⟩, .o ⟨(some 12), none, false, .fieldA 1 (.t 3), none⟩, .o ⟨(some 13), none, false, .load 1 false (.t 12), none⟩, .o ⟨(some 14), none, false, .bin .neq (.t 11) (.t 13), (some [2, 3, 14])⟩]
def c_laws_eqPhases_6 : ACode := .region c_laws_eqPhases_o3
abbrev c_laws_eqPhases_o4 : List AJ := [.o ⟨(some 4), none, false, .mv (.c (.bool false)), (some [4])⟩]
def c_laws_eqPhases_7 : ACode := .region c_laws_eqPhases_o4
def c_laws_eqPhases_8 : ACode := .seq c_laws_eqPhases_7 .ret
def c_laws_eqPhases_9 : ACode := .cond (.t 14) c_laws_eqPhases_8 .skip
def c_laws_eqPhases_10 : ACode := .seq c_laws_eqPhases_6 c_laws_eqPhases_9
abbrev c_laws_eqPhases_o5 : List AJ := [.o ⟨(some 15), none, false, .fieldA 2 (.t 2), none⟩, .o ⟨(some 16), none, false, .load 1 false (.t 15), none⟩, .o ⟨(some 17), none, false, .fieldA 2 (.t 3), none⟩, .o ⟨(some 18), none, false, .load 1 false (.t 17), none⟩, .o ⟨(some 19), none, false, .call 48 [(.t 16), (.t 18)], none⟩, .o ⟨(some 20), none, false, .un .not (.t 19), (some [20])⟩]
def c_laws_eqPhases_11 : ACode := .region c_laws_eqPhases_o5
abbrev c_laws_eqPhases_o6 : List AJ := [.o ⟨(some 4), none, false, .mv (.c (.bool false)), (some [4])⟩]
def c_laws_eqPhases_12 : ACode := .region c_laws_eqPhases_o6
def c_laws_eqPhases_13 : ACode := .seq c_laws_eqPhases_12 .ret
def c_laws_eqPhases_14 : ACode := .cond (.t 20) c_laws_eqPhases_13 .skip
def c_laws_eqPhases_15 : ACode := .seq c_laws_eqPhases_11 c_laws_eqPhases_14
abbrev c_laws_eqPhases_o7 : List AJ := [.o ⟨(some 4), none, false, .mv (.c (.bool true)), (some [4])⟩]
def c_laws_eqPhases_16 : ACode := .region c_laws_eqPhases_o7
def c_laws_eqPhases_17 : ACode := .seq c_laws_eqPhases_16 .ret
def c_laws_eqPhases_18 : ACode := .seq c_laws_eqPhases_15 c_laws_eqPhases_17
def c_laws_eqPhases_19 : ACode := .seq c_laws_eqPhases_10 c_laws_eqPhases_18
def c_laws_eqPhases_20 : ACode := .seq c_laws_eqPhases_5 c_laws_eqPhases_19
def c_laws_eqPhases_21 : ACode := .seq c_laws_eqPhases_0 c_laws_eqPhases_20
section
variable (C : Cx) (n : Nat) (sk : List AItem) (e : Env) (h : Heap) (R : AV → Heap → Prop)
@[simp, simp ↓] theorem c_laws_eqPhases_0_r : vc2 C (n + 1) [] (.code c_laws_eqPhases_0 :: sk) e h R = (vc2 C n c_laws_eqPhases_o0 sk e h R) := nr rfl
@[simp, simp ↓] theorem c_laws_eqPhases_1_r : vc2 C (n + 1) [] (.code c_laws_eqPhases_1 :: sk) e h R = (vc2 C n c_laws_eqPhases_o1 sk e h R) := nr rfl
@[simp, simp ↓] theorem c_laws_eqPhases_2_r : vc2 C (n + 1) [] (.code c_laws_eqPhases_2 :: sk) e h R = (vc2 C n c_laws_eqPhases_o2 sk e h R) := nr rfl
@[simp, simp ↓] theorem c_laws_eqPhases_3_r : vc2 C (n + 1) [] (.code c_laws_eqPhases_3 :: sk) e h R = (vc2 C n [] (.code c_laws_eqPhases_2 :: .code .ret :: sk) e h R) := nr rfl
@[simp, simp ↓] theorem c_laws_eqPhases_4_r : vc2 C (n + 1) [] (.code c_laws_eqPhases_4 :: sk) e h R = (condK (ev e (.t 9)) (vc2 C n [] (.code c_laws_eqPhases_3 :: sk) e h R) (vc2 C n [] (.code .skip :: sk) e h R)) := nr rfl
@[simp, simp ↓] theorem c_laws_eqPhases_5_r : vc2 C (n + 1) [] (.code c_laws_eqPhases_5 :: sk) e h R = (vc2 C n [] (.code c_laws_eqPhases_1 :: .code c_laws_eqPhases_4 :: sk) e h R) := nr rfl
@[simp, simp ↓] theorem c_laws_eqPhases_6_r : vc2 C (n + 1) [] (.code c_laws_eqPhases_6 :: sk) e h R = (vc2 C n c_laws_eqPhases_o3 sk e h R) := nr rfl
@[simp, simp ↓] theorem c_laws_eqPhases_7_r : vc2 C (n + 1) [] (.code c_laws_eqPhases_7 :: sk) e h R = (vc2 C n c_laws_eqPhases_o4 sk e h R) := nr rfl
@[simp, simp ↓] theorem c_laws_eqPhases_8_r : vc2 C (n + 1) [] (.code c_laws_eqPhases_8 :: sk) e h R = (vc2 C n [] (.code c_laws_eqPhases_7 :: .code .ret :: sk) e h R) := nr rfl
@[simp, simp ↓] theorem c_laws_eqPhases_9_r : vc2 C (n + 1) [] (.code c_laws_eqPhases_9 :: sk) e h R = (condK (ev e (.t 14)) (vc2 C n [] (.code c_laws_eqPhases_8 :: sk) e h R) (vc2 C n [] (.code .skip :: sk) e h R)) := nr rfl
@[simp, simp ↓] theorem c_laws_eqPhases_10_r : vc2 C (n + 1) [] (.code c_laws_eqPhases_10 :: sk) e h R = (vc2 C n [] (.code c_laws_eqPhases_6 :: .code c_laws_eqPhases_9 :: sk) e h R) := nr rfl
@[simp, simp ↓] theorem c_laws_eqPhases_11_r : vc2 C (n + 1) [] (.code c_laws_eqPhases_11 :: sk) e h R = (vc2 C n c_laws_eqPhases_o5 sk e h R) := nr rfl
@[simp, simp ↓] theorem c_laws_eqPhases_12_r : vc2 C (n + 1) [] (.code c_laws_eqPhases_12 :: sk) e h R = (vc2 C n c_laws_eqPhases_o6 sk e h R) := nr rfl
@[simp, simp ↓] theorem c_laws_eqPhases_13_r : vc2 C (n + 1) [] (.code c_laws_eqPhases_13 :: sk) e h R = (vc2 C n [] (.code c_laws_eqPhases_12 :: .code .ret :: sk) e h R) := nr rfl
@[simp, simp ↓] theorem c_laws_eqPhases_14_r : vc2 C (n + 1) [] (.code c_laws_eqPhases_14 :: sk) e h R = (condK (ev e (.t 20)) (vc2 C n [] (.code c_laws_eqPhases_13 :: sk) e h R) (vc2 C n [] (.code .skip :: sk) e h R)) := nr rfl
@[simp, simp ↓] theorem c_laws_eqPhases_15_r : vc2 C (n + 1) [] (.code c_laws_eqPhases_15 :: sk) e h R = (vc2 C n [] (.code c_laws_eqPhases_11 :: .code c_laws_eqPhases_14 :: sk) e h R) := nr rfl
@[simp, simp ↓] theorem c_laws_eqPhases_16_r : vc2 C (n + 1) [] (.code c_laws_eqPhases_16 :: sk) e h R = (vc2 C n c_laws_eqPhases_o7 sk e h R) := nr rfl
@[simp, simp ↓] theorem c_laws_eqPhases_17_r : vc2 C (n + 1) [] (.code c_laws_eqPhases_17 :: sk) e h R = (vc2 C n [] (.code c_laws_eqPhases_16 :: .code .ret :: sk) e h R) := nr rfl
@[simp, simp ↓] theorem c_laws_eqPhases_18_r : vc2 C (n + 1) [] (.code c_laws_eqPhases_18 :: sk) e h R = (vc2 C n [] (.code c_laws_eqPhases_15 :: .code c_laws_eqPhases_17 :: sk) e h R) := nr rfl
@[simp, simp ↓] theorem c_laws_eqPhases_19_r : vc2 C (n + 1) [] (.code c_laws_eqPhases_19 :: sk) e h R = (vc2 C n [] (.code c_laws_eqPhases_10 :: .code c_laws_eqPhases_18 :: sk) e h R) := nr rfl
@[simp, simp ↓] theorem c_laws_eqPhases_20_r : vc2 C (n + 1) [] (.code c_laws_eqPhases_20 :: sk) e h R = (vc2 C n [] (.code c_laws_eqPhases_5 :: .code c_laws_eqPhases_19 :: sk) e h R) := nr rfl
@[simp, simp ↓] theorem c_laws_eqPhases_21_r : vc2 C (n + 1) [] (.code c_laws_eqPhases_21 :: sk) e h R = (vc2 C n [] (.code c_laws_eqPhases_0 :: .code c_laws_eqPhases_20 :: sk) e h R) := nr rfl
end
noncomputable def c_laws_eqPhases_C (orc : Orc) : Cx := ⟨Try.prog, [], 18, 21, [.tmp 4], orc⟩
@[simp] theorem c_laws_eqPhases_C_P (orc : Orc) : (c_laws_eqPhases_C orc).P = Try.prog := nr rfl
@[simp] theorem c_laws_eqPhases_C_o (orc : Orc) : (c_laws_eqPhases_C orc).orc = orc := nr rfl
@[simp] theorem c_laws_eqPhases_C_r (orc : Orc) : (c_laws_eqPhases_C orc).res = [.tmp 4] := nr rfl
theorem c_laws_eqPhases_of {args : List AV} {h : Heap} {R : AV → Heap → Prop} {k : Nat} (ha : args.length = k) {orc : Orc} (hp : Pure Try.prog orc) (hk : Is (c_laws_eqPhases_C orc) Try.f18 → Run2 (c_laws_eqPhases_C orc) [.code c_laws_eqPhases_21] (argEnv 0 args) h (Post R)) (hle : k ≤ 21 := by simp) : ACalls Try.prog 18 args h R :=
  contract2 [] c_laws_eqPhases_21 [.tmp 4] Try.func18 (by decide +kernel) rfl (by kernel_rfl) (by rw [ha]; exact hle) (by kernel_rfl) hp hk
theorem c_laws_eqPhases_of0 {args : List AV} {h : Heap} {R : AV → Heap → Prop} {k : Nat} (ha : args.length = k) {orc : Orc} (hp : Pure Try.prog orc) (hk : Is (c_laws_eqPhases_C orc) Try.f18 → Run2 (c_laws_eqPhases_C orc) [.code c_laws_eqPhases_21] (argEnv 0 args) h R) (hle : k ≤ 21 := by simp) : ACalls Try.prog 18 args h R :=
  contract20 [] c_laws_eqPhases_21 [.tmp 4] Try.func18 (by decide +kernel) rfl (by kernel_rfl) (by rw [ha]; exact hle) (by kernel_rfl) hp hk
theorem eqPhases_c (x y : Ph) (h : Heap) (hl : x.ts.length ≤ 1048576) : ACalls Try.prog 18 [x.av, y.av] h (fun v h' => v = .bool (decide (x = y)) ∧ h' = h) := by
  refine c_laws_eqPhases_of0 rfl noPure fun I => ?_
  cases x; cases y
  refine Run2.of I 1000 ?_
  simp -implicitDefEqProofs
  refine ⟨by grind, fun h1 => ⟨by grind, fun h2 => ?_⟩⟩
  refine (eqTurnS_c _ _ _ hl).mono ?_
  rintro v h' ⟨rfl, rfl⟩
  refine gK.go ?_
  simp -implicitDefEqProofs [h1, h2]
/-! ## In the laws: with other memory about -/
theorem eqPh_own {w u : AV} {x y : Ph} {g h : Heap} (o : OwnPh w x g) (hu : IsPh u y) (hs : ∀ p ∈ g, p ∈ h) (hl : x.ts.length ≤ 1048576) : ACalls Try.prog 18 [w, u] h (fun r h' => r = .bool (decide (x = y)) ∧ h' = h) := by
  refine ACalls.reads g hs ?_ rfl
  rw [lend_cons, lend_cons, lend_nil', lend1_cold g hu.cold]
  exact ACalls.wk (.cons o.lent.wk (.cons hu.wk .nil)) (eqPhases_c x y [] hl)
theorem heldPh_own {w : AV} {x : Ph} {g h : Heap} (o : OwnPh w x g) (hs : ∀ p ∈ g, p ∈ h) (k : Int) (hk : 0 ≤ k ∧ k ≤ 1099511627776) (hl : x.ts.length ≤ 1073741824) : ACalls Try.prog 34 [w, .int .i64 k] h (fun r h' => r = .int .i64 (if x.ts = marksT k x.ts.length then k + 3 * x.ts.length else -1) ∧ h' = h) := by
  refine ACalls.reads g hs ?_ rfl
  rw [lend_cons, lend_cons, lend_nil', lend1_cold g (x := .int .i64 k) rfl]
  exact heldPhases_c o.lent k [] hk hl
theorem markPh_drop {w : AV} {x : Ph} {g h : Heap} (o : OwnPh w x g) (keep : Heap) (hs : ∀ p ∈ g, p ∈ h) (hk : ∀ p ∈ keep, p ∈ h ∧ p.1 ∉ dom g) (nk : (dom h).Nodup → (dom keep).Nodup) (k : Int) (hk1 : 0 ≤ k ∧ k ≤ 1099511627776) (hl : x.ts.length ≤ 1073741824) : ACalls Try.prog 29 [w, .int .i64 k] h (fun r h' => r = .int .i64 (k + 3 * x.ts.length) ∧ h' = keep) :=
  ACalls.marks g keep o.nodup hs hk nk (S := fun h' => OwnPh w ⟨x.n, x.m, marksT k x.ts.length⟩ h') (markPhases_o o k hk1 hl) ⟨rfl, fun h' ho => ho.own.2⟩
theorem markPh_keep {w : AV} {x : Ph} {g h : Heap} (o : OwnPh w x g) (keep : Heap) (hs : ∀ p ∈ g, p ∈ h) (hk : ∀ p ∈ keep, p ∈ h ∧ p.1 ∉ dom g) (nk : (dom h).Nodup → (dom keep).Nodup) (k : Int) (hk1 : 0 ≤ k ∧ k ≤ 1099511627776) (hl : x.ts.length ≤ 1073741824) : ACalls Try.prog 29 [w, .int .i64 k] h (fun r h' => ∃ g', r = .int .i64 (k + 3 * x.ts.length) ∧ OwnPh w ⟨x.n, x.m, marksT k x.ts.length⟩ g' ∧ h' = g' ++ keep) :=
  (ACalls.frame g [] keep o.nodup hs (by simp) hk nk (S := fun v h' => v = .int .i64 (k + 3 * x.ts.length) ∧ OwnPh w ⟨x.n, x.m, marksT k x.ts.length⟩ h') (by simpa [lend] using markPhases_o o k hk1 hl) (fun v h' e => by obtain ⟨rfl, e⟩ := e; exact ⟨rfl, e.own.2⟩)).mono fun v h' ⟨g', ⟨e1, e2⟩, _, e3⟩ => ⟨g', e1, e2, e3⟩
theorem Ph.is (x : Ph) : IsPh x.av x := ⟨_, rfl, .snap _⟩
noncomputable def o_toPhases : List AV → Option (Prop × AV) := tab (fun (x : Int × Int × List T) => match x with | (n, m, ts) => [.agg [.int .i64 n, .int .i64 m, .snap 3 (ts.map T.av)]]) (fun x => match x with | (n, m, ts) => ts.length ≤ 1048576) (fun x => match x with | (n, m, ts) => .agg [.int .i64 n, .int .i64 m, .snap 3 (ts.map T.av)])
@[simp] theorem o_toPhases_e (n : Int) (m : Int) (ts : List T) : o_toPhases [.agg [.int .i64 n, .int .i64 m, .snap 3 (ts.map T.av)]] = some (ts.length ≤ 1048576, .agg [.int .i64 n, .int .i64 m, .snap 3 (ts.map T.av)]) := tab_at (enc := fun (x : Int × Int × List T) => match x with | (n, m, ts) => [.agg [.int .i64 n, .int .i64 m, .snap 3 (ts.map T.av)]]) (fun x y h => by
  obtain ⟨n1, m1, ts1⟩ := x; obtain ⟨n2, m2, ts2⟩ := y; simp at h; simp [h]) _ _ (n, m, ts)
theorem o_toPhases_k : Knows Try.prog 16 o_toPhases := tab_knows fun x hx h => by
  obtain ⟨n, m, ts⟩ := x; exact toPhases_c ⟨n, m, ts⟩ h hx
noncomputable def o_szPhases : List AV → Option (Prop × AV) := tab (fun (x : Int × Int × List T × Int) => match x with | (n, m, ts, k) => [.agg [.int .i64 n, .int .i64 m, .snap 3 (ts.map T.av)], .int .i64 k]) (fun x => match x with | (n, m, ts, k) => ((0 ≤ k ∧ k ≤ 1048576) ∧ ts.length ≤ 9223372036854775807)) (fun x => match x with | (n, m, ts, k) => .int .i64 (if k < ts.length then -1 else k - ts.length))
@[simp] theorem o_szPhases_e (n : Int) (m : Int) (ts : List T) (k : Int) : o_szPhases [.agg [.int .i64 n, .int .i64 m, .snap 3 (ts.map T.av)], .int .i64 k] = some (((0 ≤ k ∧ k ≤ 1048576) ∧ ts.length ≤ 9223372036854775807), .int .i64 (if k < ts.length then -1 else k - ts.length)) := tab_at (enc := fun (x : Int × Int × List T × Int) => match x with | (n, m, ts, k) => [.agg [.int .i64 n, .int .i64 m, .snap 3 (ts.map T.av)], .int .i64 k]) (fun x y h => by
  obtain ⟨n1, m1, ts1, k1⟩ := x; obtain ⟨n2, m2, ts2, k2⟩ := y; simp at h; simp [h]) _ _ (n, m, ts, k)
theorem o_szPhases_k : Knows Try.prog 14 o_szPhases := tab_knows fun x hx h => by
  obtain ⟨n, m, ts, k⟩ := x; exact szPhases_c ⟨n, m, ts⟩ k h hx.1 hx.2
noncomputable def o_eqPhases : List AV → Option (Prop × AV) := tab (fun (x : Int × Int × List T × Int × Int × List T) => match x with | (n, m, ts, n', m', ts') => [.agg [.int .i64 n, .int .i64 m, .snap 3 (ts.map T.av)], .agg [.int .i64 n', .int .i64 m', .snap 3 (ts'.map T.av)]]) (fun x => match x with | (n, m, ts, n', m', ts') => ts.length ≤ 1048576) (fun x => match x with | (n, m, ts, n', m', ts') => .bool (decide ((⟨n, m, ts⟩ : Ph) = ⟨n', m', ts'⟩)))
@[simp] theorem o_eqPhases_e (n : Int) (m : Int) (ts : List T) (n' : Int) (m' : Int) (ts' : List T) : o_eqPhases [.agg [.int .i64 n, .int .i64 m, .snap 3 (ts.map T.av)], .agg [.int .i64 n', .int .i64 m', .snap 3 (ts'.map T.av)]] = some (ts.length ≤ 1048576, .bool (decide ((⟨n, m, ts⟩ : Ph) = ⟨n', m', ts'⟩))) := tab_at (enc := fun (x : Int × Int × List T × Int × Int × List T) => match x with | (n, m, ts, n', m', ts') => [.agg [.int .i64 n, .int .i64 m, .snap 3 (ts.map T.av)], .agg [.int .i64 n', .int .i64 m', .snap 3 (ts'.map T.av)]]) (fun x y h => by
  obtain ⟨n1, m1, ts1, n'1, m'1, ts'1⟩ := x; obtain ⟨n2, m2, ts2, n'2, m'2, ts'2⟩ := y; simp at h; simp [h]) _ _ (n, m, ts, n', m', ts')
theorem o_eqPhases_k : Knows Try.prog 18 o_eqPhases := tab_knows fun x hx h => by
  obtain ⟨n, m, ts, n', m', ts'⟩ := x; exact eqPhases_c ⟨n, m, ts⟩ ⟨n', m', ts'⟩ h hx
noncomputable def orcA : List (Nat × (List AV → Option (Prop × AV))) := (16, o_toPhases) :: (14, o_szPhases) :: (18, o_eqPhases) :: []
theorem orcA_p : Pure Try.prog (lk orcA) := (lk_pure o_toPhases_k (lk_pure o_szPhases_k (lk_pure o_eqPhases_k lk_pure0)))
@[simp] theorem orcA_l (g : FuncId) (l : List AV) : lk orcA g l = if g = 16 then o_toPhases l else if g = 14 then o_szPhases l else if g = 18 then o_eqPhases l else none := nr rfl
end Go.AG
