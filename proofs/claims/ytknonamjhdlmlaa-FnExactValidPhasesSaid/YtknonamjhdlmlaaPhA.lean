/- Phases as plain data, and what the set's own helpers of phases do: they copy, compare and count. No statement is made here. -/
import Derived.Test.YtknonamjhdlmlaaRows
import Derived.Test.YtknonamjhdlmlaaAGLaw
namespace Go.AG
open Go.Proofs Go.Proofs.Ytknonamjhdlmlaa
set_option linter.unusedSimpArgs false
set_option linter.unusedVariables false
set_option maxRecDepth 4000
structure T where
  f : Int
  t : Int
  s : Int
  deriving DecidableEq, Inhabited
@[simp] def T.av (x : T) : AV := .agg [.int .i64 x.f, .int .i64 x.t, .int .i64 x.s]
def T.ok (x : T) : Prop := in64 x.f ∧ in64 x.t ∧ in64 x.s
structure Ph where
  n : Int
  m : Int
  ts : List T
  deriving DecidableEq
@[simp] def Ph.av (x : Ph) : AV := .agg [.int .i64 x.n, .int .i64 x.m, .snap 3 (x.ts.map T.av)]
def Ph.ok (x : Ph) : Prop := in64 x.n ∧ in64 x.m ∧ ∀ t ∈ x.ts, t.ok
theorem T.ext' {x y : T} (h1 : x.f = y.f) (h2 : x.t = y.t) (h3 : x.s = y.s) : x = y := by
  cases x; cases y; simp at h1 h2 h3; simp [h1, h2, h3]
theorem T.av_inj {x y : T} (h : x.av = y.av) : x = y := by
  simp at h; exact T.ext' h.1 h.2.1 h.2.2
@[simp] theorem Ts_inj (l m : List T) : (l.map T.av = m.map T.av) ↔ l = m := ⟨fun h => List.map_inj_right (fun _ _ => T.av_inj) |>.1 h, fun h => by rw [h]⟩
@[simp] theorem T_eta (x : T) : (⟨x.f, x.t, x.s⟩ : T) = x := rfl
@[simp] theorem Ph_eta (x : Ph) : (⟨x.n, x.m, x.ts⟩ : Ph) = x := rfl
def tz : AV := .agg [.int .i64 0, .int .i64 0, .int .i64 0]
def tyT : Ty := .struct (.cons (.int .i64) (.cons (.int .i64) (.cons (.int .i64) .nil)))
def tyPh : Ty := .struct (.cons (.int .i64) (.cons (.int .i64) (.cons (.slice tyT) .nil)))
theorem T_of_shape {x : AV} (h : isAgg x = tyT.isS ∧ shC tyT (cellsOf x)) : ∃ t : T, x = t.av ∧ t.ok := by
  obtain ⟨h1, a1, b1, e1, ⟨n1, rfl, r1⟩, a2, b2, rfl, ⟨n2, rfl, r2⟩, a3, b3, rfl, ⟨n3, rfl, r3⟩, h3⟩ := h
  have h3' : b3 = [] := h3
  subst h3'
  cases x <;> simp [isAgg, tyT, Ty.isS] at h1
  rename_i l
  refine ⟨⟨n1, n2, n3⟩, ?_, r1, r2, r3⟩
  simp only [cellsOf] at e1
  rw [e1]; rfl
theorem Ts_of_shape : ∀ {xs : List AV}, (∀ x ∈ xs, isAgg x = tyT.isS ∧ shC tyT (cellsOf x)) → ∃ ts : List T, xs = ts.map T.av ∧ ∀ t ∈ ts, t.ok
  | [], _ => ⟨[], rfl, by simp⟩
  | x :: xs, h => by
    obtain ⟨t, rfl, ht⟩ := T_of_shape (h x (List.mem_cons_self ..))
    obtain ⟨ts, rfl, hts⟩ := Ts_of_shape (xs := xs) fun y hy => h y (List.mem_cons_of_mem _ hy)
    exact ⟨t :: ts, rfl, by simpa using ⟨ht, hts⟩⟩
def Ph.wf (p : Ph) : Prop := p.ok ∧ p.ts.length ≤ 9223372036854775807
theorem Ph_of_shape {x : AV} (h : shV tyPh x) : ∃ p : Ph, x = p.av ∧ p.wf := by
  obtain ⟨h1, a1, b1, e1, ⟨n1, rfl, r1⟩, a2, b2, rfl, ⟨n2, rfl, r2⟩, a3, b3, rfl, ⟨xs, rfl, hlen, r3⟩, h3⟩ := h
  have hm : maxLen ≤ 9223372036854775807 := by decide
  have h3' : b3 = [] := h3
  subst h3'
  obtain ⟨ts, rfl, hts⟩ := Ts_of_shape r3
  cases x <;> simp [isAgg, tyPh, Ty.isS] at h1
  rename_i l
  refine ⟨⟨n1, n2, ts⟩, ?_, ⟨r1, r2, hts⟩, by simp only [List.length_map] at hlen; exact Nat.le_trans hlen hm⟩
  simp only [cellsOf] at e1
  rw [e1]; rfl

abbrev c_laws_toTurn_o0 : List AJ := [.o ⟨(some 1), none, false, .box false 3 (.t 0), none⟩, .o ⟨(some 2), none, false, .alloc true 3 (.agg [(.int .i64 0), (.int .i64 0), (.int .i64 0)]), (some [1, 2])⟩]
def c_laws_toTurn_0 : ACode := .region c_laws_toTurn_o0
abbrev c_laws_toTurn_o1 : List AJ := [.o ⟨(some 3), none, false, .alloc true 3 (.agg [(.int .i64 0), (.int .i64 0), (.int .i64 0)]), (some [1, 2, 3])⟩]
def c_laws_toTurn_1 : ACode := .region c_laws_toTurn_o1
abbrev c_laws_toTurn_o2 : List AJ := [.o ⟨(some 4), none, false, .fieldA 0 (.t 1), none⟩, .o ⟨(some 5), none, false, .load 1 false (.t 4), none⟩, .o ⟨(some 6), none, false, .fieldA 0 (.t 3), none⟩, .o ⟨none, none, false, .store 1 (.t 6) (.t 5), (some [1, 2, 3])⟩]
def c_laws_toTurn_2 : ACode := .region c_laws_toTurn_o2
abbrev c_laws_toTurn_o3 : List AJ := [.o ⟨(some 7), none, false, .fieldA 1 (.t 1), none⟩, .o ⟨(some 8), none, false, .load 1 false (.t 7), none⟩, .o ⟨(some 9), none, false, .fieldA 1 (.t 3), none⟩, .o ⟨none, none, false, .store 1 (.t 9) (.t 8), (some [1, 2, 3])⟩]
def c_laws_toTurn_3 : ACode := .region c_laws_toTurn_o3
abbrev c_laws_toTurn_o4 : List AJ := [.o ⟨(some 10), none, false, .fieldA 2 (.t 1), none⟩, .o ⟨(some 11), none, false, .load 1 false (.t 10), none⟩, .o ⟨(some 12), none, false, .fieldA 2 (.t 3), none⟩, .o ⟨none, none, false, .store 1 (.t 12) (.t 11), (some [2, 3])⟩]
def c_laws_toTurn_4 : ACode := .region c_laws_toTurn_o4
abbrev c_laws_toTurn_o5 : List AJ := [.o ⟨(some 13), none, false, .load 3 true (.t 3), none⟩, .o ⟨none, none, false, .store 3 (.t 2) (.t 13), (some [2])⟩]
def c_laws_toTurn_5 : ACode := .region c_laws_toTurn_o5
def c_laws_toTurn_6 : ACode := .seq c_laws_toTurn_5 .ret
def c_laws_toTurn_7 : ACode := .seq c_laws_toTurn_4 c_laws_toTurn_6
def c_laws_toTurn_8 : ACode := .seq c_laws_toTurn_3 c_laws_toTurn_7
def c_laws_toTurn_9 : ACode := .seq c_laws_toTurn_2 c_laws_toTurn_8
def c_laws_toTurn_10 : ACode := .seq c_laws_toTurn_1 c_laws_toTurn_9
def c_laws_toTurn_11 : ACode := .seq c_laws_toTurn_0 c_laws_toTurn_10
section
variable (C : Cx) (n : Nat) (sk : List AItem) (e : Env) (h : Heap) (R : AV → Heap → Prop)
@[simp, simp ↓] theorem c_laws_toTurn_0_r : vc2 C (n + 1) [] (.code c_laws_toTurn_0 :: sk) e h R = (vc2 C n c_laws_toTurn_o0 sk e h R) := nr rfl
@[simp, simp ↓] theorem c_laws_toTurn_1_r : vc2 C (n + 1) [] (.code c_laws_toTurn_1 :: sk) e h R = (vc2 C n c_laws_toTurn_o1 sk e h R) := nr rfl
@[simp, simp ↓] theorem c_laws_toTurn_2_r : vc2 C (n + 1) [] (.code c_laws_toTurn_2 :: sk) e h R = (vc2 C n c_laws_toTurn_o2 sk e h R) := nr rfl
@[simp, simp ↓] theorem c_laws_toTurn_3_r : vc2 C (n + 1) [] (.code c_laws_toTurn_3 :: sk) e h R = (vc2 C n c_laws_toTurn_o3 sk e h R) := nr rfl
@[simp, simp ↓] theorem c_laws_toTurn_4_r : vc2 C (n + 1) [] (.code c_laws_toTurn_4 :: sk) e h R = (vc2 C n c_laws_toTurn_o4 sk e h R) := nr rfl
@[simp, simp ↓] theorem c_laws_toTurn_5_r : vc2 C (n + 1) [] (.code c_laws_toTurn_5 :: sk) e h R = (vc2 C n c_laws_toTurn_o5 sk e h R) := nr rfl
@[simp, simp ↓] theorem c_laws_toTurn_6_r : vc2 C (n + 1) [] (.code c_laws_toTurn_6 :: sk) e h R = (vc2 C n [] (.code c_laws_toTurn_5 :: .code .ret :: sk) e h R) := nr rfl
@[simp, simp ↓] theorem c_laws_toTurn_7_r : vc2 C (n + 1) [] (.code c_laws_toTurn_7 :: sk) e h R = (vc2 C n [] (.code c_laws_toTurn_4 :: .code c_laws_toTurn_6 :: sk) e h R) := nr rfl
@[simp, simp ↓] theorem c_laws_toTurn_8_r : vc2 C (n + 1) [] (.code c_laws_toTurn_8 :: sk) e h R = (vc2 C n [] (.code c_laws_toTurn_3 :: .code c_laws_toTurn_7 :: sk) e h R) := nr rfl
@[simp, simp ↓] theorem c_laws_toTurn_9_r : vc2 C (n + 1) [] (.code c_laws_toTurn_9 :: sk) e h R = (vc2 C n [] (.code c_laws_toTurn_2 :: .code c_laws_toTurn_8 :: sk) e h R) := nr rfl
@[simp, simp ↓] theorem c_laws_toTurn_10_r : vc2 C (n + 1) [] (.code c_laws_toTurn_10 :: sk) e h R = (vc2 C n [] (.code c_laws_toTurn_1 :: .code c_laws_toTurn_9 :: sk) e h R) := nr rfl
@[simp, simp ↓] theorem c_laws_toTurn_11_r : vc2 C (n + 1) [] (.code c_laws_toTurn_11 :: sk) e h R = (vc2 C n [] (.code c_laws_toTurn_0 :: .code c_laws_toTurn_10 :: sk) e h R) := nr rfl
end
noncomputable def c_laws_toTurn_C (orc : Orc) : Cx := ⟨Try.prog, [2, 3], 86, 14, [.cell 2 3 true], orc⟩
@[simp] theorem c_laws_toTurn_C_P (orc : Orc) : (c_laws_toTurn_C orc).P = Try.prog := nr rfl
@[simp] theorem c_laws_toTurn_C_o (orc : Orc) : (c_laws_toTurn_C orc).orc = orc := nr rfl
@[simp] theorem c_laws_toTurn_C_r (orc : Orc) : (c_laws_toTurn_C orc).res = [.cell 2 3 true] := nr rfl
theorem c_laws_toTurn_of {args : List AV} {h : Heap} {R : AV → Heap → Prop} (ha : args.length = 1) {orc : Orc} (hp : Pure Try.prog orc) (hk : Is (c_laws_toTurn_C orc) Try.f86 → Run2 (c_laws_toTurn_C orc) [.code c_laws_toTurn_11] (argEnv 0 args) h (Post R)) : ACalls Try.prog 86 args h R :=
  contract2 [2, 3] c_laws_toTurn_11 [.cell 2 3 true] Try.func86 (by decide +kernel) rfl (by kernel_rfl) (by rw [ha]; decide +kernel) (by kernel_rfl) hp hk
theorem c_laws_toTurn_of0 {args : List AV} {h : Heap} {R : AV → Heap → Prop} (ha : args.length = 1) {orc : Orc} (hp : Pure Try.prog orc) (hk : Is (c_laws_toTurn_C orc) Try.f86 → Run2 (c_laws_toTurn_C orc) [.code c_laws_toTurn_11] (argEnv 0 args) h R) : ACalls Try.prog 86 args h R :=
  contract20 [2, 3] c_laws_toTurn_11 [.cell 2 3 true] Try.func86 (by decide +kernel) rfl (by kernel_rfl) (by rw [ha]; decide +kernel) (by kernel_rfl) hp hk
theorem toTurn_c (x : T) (h : Heap) : ACalls Try.prog 86 [x.av] h (fun v h' => v = x.av ∧ h' = h) := by
  refine c_laws_toTurn_of rfl noPure fun I => ?_
  refine Run2.of I 1000 ?_
  simp -implicitDefEqProofs
  intro a ha b hb1 hb2
  refine gK.go ?_
  simp -implicitDefEqProofs [hb1]
  refine .drop b (.drop a (.base ?_))
  simp -implicitDefEqProofs [hb1]
noncomputable def o_toTurn : List AV → Option (Prop × AV) := tab (fun (x : Int × Int × Int) => match x with | (f, t, s) => [.agg [.int .i64 f, .int .i64 t, .int .i64 s]]) (fun x => match x with | (f, t, s) => True) (fun x => match x with | (f, t, s) => .agg [.int .i64 f, .int .i64 t, .int .i64 s])
@[simp] theorem o_toTurn_e (f : Int) (t : Int) (s : Int) : o_toTurn [.agg [.int .i64 f, .int .i64 t, .int .i64 s]] = some (True, .agg [.int .i64 f, .int .i64 t, .int .i64 s]) := tab_at (enc := fun (x : Int × Int × Int) => match x with | (f, t, s) => [.agg [.int .i64 f, .int .i64 t, .int .i64 s]]) (fun x y h => by
  obtain ⟨f1, t1, s1⟩ := x; obtain ⟨f2, t2, s2⟩ := y; simp at h; simp [h]) _ _ (f, t, s)
theorem o_toTurn_k : Knows Try.prog 86 o_toTurn := tab_knows fun x hx h => by
  obtain ⟨f, t, s⟩ := x; exact toTurn_c ⟨f, t, s⟩ h
abbrev c_laws_toTurnS_o0 : List AJ := [.o ⟨(some 2), none, false, .mv (.c .nilsl), (some [0])⟩]
def c_laws_toTurnS_0 : ACode := .region c_laws_toTurnS_o0
abbrev c_laws_toTurnS_o1 : List AJ := [.o ⟨(some 5), none, false, .mv (.t 0), none⟩, .o ⟨(some 6), none, false, .len (.t 5), none⟩, .o ⟨(some 7), none, false, .mksl 3 24 (.agg [(.int .i64 0), (.int .i64 0), (.int .i64 0)]) (.t 6) (.t 6), none⟩, .o ⟨(some 3), none, false, .mv (.t 7), (some [0, 3])⟩]
def c_laws_toTurnS_1 : ACode := .region c_laws_toTurnS_o1
abbrev c_laws_toTurnS_o2 : List AJ := [.o ⟨(some 4), none, false, .mv (.c (.int .i64 0)), (some [0, 3, 4])⟩]
def c_laws_toTurnS_2 : ACode := .region c_laws_toTurnS_o2
abbrev c_laws_toTurnS_o3 : List AJ := [.o ⟨(some 8), none, false, .mv (.t 4), none⟩, .o ⟨(some 9), none, false, .mv (.t 0), none⟩, .o ⟨(some 10), none, false, .len (.t 9), none⟩, .o ⟨(some 11), none, false, .bin .lss (.t 8) (.t 10), (some [0, 3, 4, 11])⟩]
def c_laws_toTurnS_3 : ACode := .region c_laws_toTurnS_o3
def c_laws_toTurnS_4 : ACode := .cond (.t 11) .skip (.exit 0)
def c_laws_toTurnS_5 : ACode := .seq c_laws_toTurnS_3 c_laws_toTurnS_4
abbrev c_laws_toTurnS_o4 : List AJ := [.o ⟨(some 14), none, false, .mv (.t 3), none⟩, .o ⟨(some 15), none, false, .mv (.t 4), none⟩, .o ⟨(some 16), none, false, .mv (.t 0), none⟩, .o ⟨(some 17), none, false, .mv (.t 4), none⟩, .o ⟨(some 18), none, false, .idxA 3 (.t 16) (.t 17), none⟩, .o ⟨(some 19), none, false, .load 3 true (.t 18), none⟩, .o ⟨(some 20), none, false, .call 86 [(.t 19)], none⟩, .o ⟨(some 21), none, false, .idxA 3 (.t 14) (.t 15), none⟩, .o ⟨none, none, false, .store 3 (.t 21) (.t 20), (some [0, 3, 4])⟩]
def c_laws_toTurnS_6 : ACode := .region c_laws_toTurnS_o4
def c_laws_toTurnS_7 : ACode := .block 1 c_laws_toTurnS_6
abbrev c_laws_toTurnS_o5 : List AJ := [.o ⟨(some 12), none, false, .mv (.t 4), none⟩, .o ⟨(some 13), none, true, .bin .add (.t 12) (.c (.int .i64 1)), none⟩, .o ⟨(some 4), none, false, .mv (.t 13), (some [0, 3, 4])⟩]
def c_laws_toTurnS_8 : ACode := .region c_laws_toTurnS_o5
def c_laws_toTurnS_9 : ACode := .seq c_laws_toTurnS_7 c_laws_toTurnS_8
def c_laws_toTurnS_10 : ACode := .seq c_laws_toTurnS_5 c_laws_toTurnS_9
def c_laws_toTurnS_11 : ACode := .loop c_laws_toTurnS_10
def c_laws_toTurnS_12 : ACode := .block 0 c_laws_toTurnS_11
def c_laws_toTurnS_13 : ACode := .seq c_laws_toTurnS_2 c_laws_toTurnS_12
abbrev c_laws_toTurnS_o6 : List AJ := [.o ⟨(some 22), none, false, .mv (.t 3), none⟩, .o ⟨(some 2), none, false, .mv (.t 22), (some [2])⟩]
def c_laws_toTurnS_14 : ACode := .region c_laws_toTurnS_o6
def c_laws_toTurnS_15 : ACode := .seq c_laws_toTurnS_14 .ret
def c_laws_toTurnS_16 : ACode := .seq c_laws_toTurnS_13 c_laws_toTurnS_15
def c_laws_toTurnS_17 : ACode := .seq c_laws_toTurnS_1 c_laws_toTurnS_16
def c_laws_toTurnS_18 : ACode := .seq c_laws_toTurnS_0 c_laws_toTurnS_17
section
variable (C : Cx) (n : Nat) (sk : List AItem) (e : Env) (h : Heap) (R : AV → Heap → Prop)
@[simp, simp ↓] theorem c_laws_toTurnS_0_r : vc2 C (n + 1) [] (.code c_laws_toTurnS_0 :: sk) e h R = (vc2 C n c_laws_toTurnS_o0 sk e h R) := nr rfl
@[simp, simp ↓] theorem c_laws_toTurnS_1_r : vc2 C (n + 1) [] (.code c_laws_toTurnS_1 :: sk) e h R = (vc2 C n c_laws_toTurnS_o1 sk e h R) := nr rfl
@[simp, simp ↓] theorem c_laws_toTurnS_2_r : vc2 C (n + 1) [] (.code c_laws_toTurnS_2 :: sk) e h R = (vc2 C n c_laws_toTurnS_o2 sk e h R) := nr rfl
@[simp, simp ↓] theorem c_laws_toTurnS_3_r : vc2 C (n + 1) [] (.code c_laws_toTurnS_3 :: sk) e h R = (vc2 C n c_laws_toTurnS_o3 sk e h R) := nr rfl
@[simp, simp ↓] theorem c_laws_toTurnS_4_r : vc2 C (n + 1) [] (.code c_laws_toTurnS_4 :: sk) e h R = (condK (ev e (.t 11)) (vc2 C n [] (.code .skip :: sk) e h R) (vc2 C n [] (.code (.exit 0) :: sk) e h R)) := nr rfl
@[simp, simp ↓] theorem c_laws_toTurnS_5_r : vc2 C (n + 1) [] (.code c_laws_toTurnS_5 :: sk) e h R = (vc2 C n [] (.code c_laws_toTurnS_3 :: .code c_laws_toTurnS_4 :: sk) e h R) := nr rfl
@[simp, simp ↓] theorem c_laws_toTurnS_6_r : vc2 C (n + 1) [] (.code c_laws_toTurnS_6 :: sk) e h R = (vc2 C n c_laws_toTurnS_o4 sk e h R) := nr rfl
@[simp, simp ↓] theorem c_laws_toTurnS_7_r : vc2 C (n + 1) [] (.code c_laws_toTurnS_7 :: sk) e h R = (vc2 C n [] (.code c_laws_toTurnS_6 :: .inBlock 1 :: sk) e h R) := nr rfl
@[simp, simp ↓] theorem c_laws_toTurnS_8_r : vc2 C (n + 1) [] (.code c_laws_toTurnS_8 :: sk) e h R = (vc2 C n c_laws_toTurnS_o5 sk e h R) := nr rfl
@[simp, simp ↓] theorem c_laws_toTurnS_9_r : vc2 C (n + 1) [] (.code c_laws_toTurnS_9 :: sk) e h R = (vc2 C n [] (.code c_laws_toTurnS_7 :: .code c_laws_toTurnS_8 :: sk) e h R) := nr rfl
@[simp, simp ↓] theorem c_laws_toTurnS_10_r : vc2 C (n + 1) [] (.code c_laws_toTurnS_10 :: sk) e h R = (vc2 C n [] (.code c_laws_toTurnS_5 :: .code c_laws_toTurnS_9 :: sk) e h R) := nr rfl
@[simp, simp ↓] theorem c_laws_toTurnS_11_r : vc2 C (n + 1) [] (.code c_laws_toTurnS_11 :: sk) e h R = (Run2 C (.code c_laws_toTurnS_10 :: .inLoop c_laws_toTurnS_10 :: sk) e h R) := nr rfl
@[simp, simp ↓] theorem c_laws_toTurnS_12_r : vc2 C (n + 1) [] (.code c_laws_toTurnS_12 :: sk) e h R = (vc2 C n [] (.code c_laws_toTurnS_11 :: .inBlock 0 :: sk) e h R) := nr rfl
@[simp, simp ↓] theorem c_laws_toTurnS_13_r : vc2 C (n + 1) [] (.code c_laws_toTurnS_13 :: sk) e h R = (vc2 C n [] (.code c_laws_toTurnS_2 :: .code c_laws_toTurnS_12 :: sk) e h R) := nr rfl
@[simp, simp ↓] theorem c_laws_toTurnS_14_r : vc2 C (n + 1) [] (.code c_laws_toTurnS_14 :: sk) e h R = (vc2 C n c_laws_toTurnS_o6 sk e h R) := nr rfl
@[simp, simp ↓] theorem c_laws_toTurnS_15_r : vc2 C (n + 1) [] (.code c_laws_toTurnS_15 :: sk) e h R = (vc2 C n [] (.code c_laws_toTurnS_14 :: .code .ret :: sk) e h R) := nr rfl
@[simp, simp ↓] theorem c_laws_toTurnS_16_r : vc2 C (n + 1) [] (.code c_laws_toTurnS_16 :: sk) e h R = (vc2 C n [] (.code c_laws_toTurnS_13 :: .code c_laws_toTurnS_15 :: sk) e h R) := nr rfl
@[simp, simp ↓] theorem c_laws_toTurnS_17_r : vc2 C (n + 1) [] (.code c_laws_toTurnS_17 :: sk) e h R = (vc2 C n [] (.code c_laws_toTurnS_1 :: .code c_laws_toTurnS_16 :: sk) e h R) := nr rfl
@[simp, simp ↓] theorem c_laws_toTurnS_18_r : vc2 C (n + 1) [] (.code c_laws_toTurnS_18 :: sk) e h R = (vc2 C n [] (.code c_laws_toTurnS_0 :: .code c_laws_toTurnS_17 :: sk) e h R) := nr rfl
end
noncomputable def c_laws_toTurnS_C (orc : Orc) : Cx := ⟨Try.prog, [], 46, 23, [.tmp 2], orc⟩
@[simp] theorem c_laws_toTurnS_C_P (orc : Orc) : (c_laws_toTurnS_C orc).P = Try.prog := nr rfl
@[simp] theorem c_laws_toTurnS_C_o (orc : Orc) : (c_laws_toTurnS_C orc).orc = orc := nr rfl
@[simp] theorem c_laws_toTurnS_C_r (orc : Orc) : (c_laws_toTurnS_C orc).res = [.tmp 2] := nr rfl
theorem c_laws_toTurnS_of {args : List AV} {h : Heap} {R : AV → Heap → Prop} (ha : args.length = 1) {orc : Orc} (hp : Pure Try.prog orc) (hk : Is (c_laws_toTurnS_C orc) Try.f46 → Run2 (c_laws_toTurnS_C orc) [.code c_laws_toTurnS_18] (argEnv 0 args) h (Post R)) : ACalls Try.prog 46 args h R :=
  contract2 [] c_laws_toTurnS_18 [.tmp 2] Try.func46 (by decide +kernel) rfl (by kernel_rfl) (by rw [ha]; decide +kernel) (by kernel_rfl) hp hk
theorem c_laws_toTurnS_of0 {args : List AV} {h : Heap} {R : AV → Heap → Prop} (ha : args.length = 1) {orc : Orc} (hp : Pure Try.prog orc) (hk : Is (c_laws_toTurnS_C orc) Try.f46 → Run2 (c_laws_toTurnS_C orc) [.code c_laws_toTurnS_18] (argEnv 0 args) h R) : ACalls Try.prog 46 args h R :=
  contract20 [] c_laws_toTurnS_18 [.tmp 2] Try.func46 (by decide +kernel) rfl (by kernel_rfl) (by rw [ha]; decide +kernel) (by kernel_rfl) hp hk
theorem toTurnS_c (l : List T) (h : Heap) (hl : l.length ≤ 1048576) : ACalls Try.prog 46 [.snap 3 (l.map T.av)] h (fun v h' => v = .snap 3 (l.map T.av) ∧ h' = h) := by
  refine c_laws_toTurnS_of rfl (lk_pure o_toTurn_k lk_pure0) fun I => ?_
  refine Run2.of I 1000 ?_
  simp -implicitDefEqProofs
  refine ⟨by omega, fun id hid => ?_⟩
  refine Run2.loop (fun i => [(0, .snap 3 (l.map T.av)), (3, .sl id 3 0 l.length (some l.length)), (4, .int .i64 (i : Nat))]) (fun i => (id, ⟨3, (l.map T.av).take i ++ List.replicate (l.length - i) tz⟩) :: h) (fun i => l.length - i) (fun i => i ≤ l.length) 0 (Nat.zero_le _) fun i hi ih => ?_
  by_cases hlt : i < l.length
  · refine Run2.of I 1000 ?_
    simp -implicitDefEqProofs [hlt]
    refine ⟨by omega, by omega, ?_⟩
    have := ih (i + 1) (by omega) (by omega)
    simpa [set_fill (l.map T.av) tz (i := i) (n := l.length) (by simp) (by simpa using hlt)] using this
  · obtain rfl : i = l.length := by omega
    refine Run2.of I 1000 ?_
    simp -implicitDefEqProofs
    refine .freeze id (by simp; rfl) (.base ?_)
    simp [List.take_of_length_le]
abbrev c_laws_toPhases_o0 : List AJ := [.o ⟨(some 1), none, false, .box false 3 (.t 0), none⟩, .o ⟨(some 2), none, false, .alloc true 3 (.agg [(.int .i64 0), (.int .i64 0), .nilsl]), (some [1, 2])⟩]
def c_laws_toPhases_0 : ACode := .region c_laws_toPhases_o0
abbrev c_laws_toPhases_o1 : List AJ := [.o ⟨(some 3), none, false, .alloc true 3 (.agg [(.int .i64 0), (.int .i64 0), .nilsl]), (some [1, 2, 3])⟩]
def c_laws_toPhases_1 : ACode := .region c_laws_toPhases_o1
abbrev c_laws_toPhases_o2 : List AJ := [.o ⟨(some 4), none, false, .fieldA 0 (.t 1), none⟩, .o ⟨(some 5), none, false, .load 1 false (.t 4), none⟩, .o ⟨(some 6), none, false, .fieldA 0 (.t 3), none⟩, .o ⟨none, none, false, .store 1 (.t 6) (.t 5), (some [1, 2, 3])⟩]
def c_laws_toPhases_2 : ACode := .region c_laws_toPhases_o2
abbrev c_laws_toPhases_o3 : List AJ := [.o ⟨(some 7), none, false, .fieldA 1 (.t 1), none⟩, .o ⟨(some 8), none, false, .load 1 false (.t 7), none⟩, .o ⟨(some 9), none, false, .fieldA 1 (.t 3), none⟩, .o ⟨none, none, false, .store 1 (.t 9) (.t 8), (some [1, 2, 3])⟩]
def c_laws_toPhases_3 : ACode := .region c_laws_toPhases_o3
abbrev c_laws_toPhases_o4 : List AJ := [.o ⟨(some 10), none, false, .fieldA 2 (.t 1), none⟩, .o ⟨(some 11), none, false, .load 1 false (.t 10), none⟩, .o ⟨(some 12), none, false, .call 46 [(.t 11)], none⟩, .o ⟨(some 13), none, false, .fieldA 2 (.t 3), none⟩, .o ⟨none, none, false, .store 1 (.t 13) (.t 12), (some [2, 3])⟩]
def c_laws_toPhases_4 : ACode := .region c_laws_toPhases_o4
abbrev c_laws_toPhases_o5 : List AJ := [.o ⟨(some 14), none, false, .load 3 true (.t 3), none⟩, .o ⟨none, none, false, .store 3 (.t 2) (.t 14), (some [2])⟩]
def c_laws_toPhases_5 : ACode := .region c_laws_toPhases_o5
def c_laws_toPhases_6 : ACode := .seq c_laws_toPhases_5 .ret
def c_laws_toPhases_7 : ACode := .seq c_laws_toPhases_4 c_laws_toPhases_6
def c_laws_toPhases_8 : ACode := .seq c_laws_toPhases_3 c_laws_toPhases_7
def c_laws_toPhases_9 : ACode := .seq c_laws_toPhases_2 c_laws_toPhases_8
def c_laws_toPhases_10 : ACode := .seq c_laws_toPhases_1 c_laws_toPhases_9
def c_laws_toPhases_11 : ACode := .seq c_laws_toPhases_0 c_laws_toPhases_10
section
variable (C : Cx) (n : Nat) (sk : List AItem) (e : Env) (h : Heap) (R : AV → Heap → Prop)
@[simp, simp ↓] theorem c_laws_toPhases_0_r : vc2 C (n + 1) [] (.code c_laws_toPhases_0 :: sk) e h R = (vc2 C n c_laws_toPhases_o0 sk e h R) := nr rfl
@[simp, simp ↓] theorem c_laws_toPhases_1_r : vc2 C (n + 1) [] (.code c_laws_toPhases_1 :: sk) e h R = (vc2 C n c_laws_toPhases_o1 sk e h R) := nr rfl
@[simp, simp ↓] theorem c_laws_toPhases_2_r : vc2 C (n + 1) [] (.code c_laws_toPhases_2 :: sk) e h R = (vc2 C n c_laws_toPhases_o2 sk e h R) := nr rfl
@[simp, simp ↓] theorem c_laws_toPhases_3_r : vc2 C (n + 1) [] (.code c_laws_toPhases_3 :: sk) e h R = (vc2 C n c_laws_toPhases_o3 sk e h R) := nr rfl
@[simp, simp ↓] theorem c_laws_toPhases_4_r : vc2 C (n + 1) [] (.code c_laws_toPhases_4 :: sk) e h R = (vc2 C n c_laws_toPhases_o4 sk e h R) := nr rfl
@[simp, simp ↓] theorem c_laws_toPhases_5_r : vc2 C (n + 1) [] (.code c_laws_toPhases_5 :: sk) e h R = (vc2 C n c_laws_toPhases_o5 sk e h R) := nr rfl
@[simp, simp ↓] theorem c_laws_toPhases_6_r : vc2 C (n + 1) [] (.code c_laws_toPhases_6 :: sk) e h R = (vc2 C n [] (.code c_laws_toPhases_5 :: .code .ret :: sk) e h R) := nr rfl
@[simp, simp ↓] theorem c_laws_toPhases_7_r : vc2 C (n + 1) [] (.code c_laws_toPhases_7 :: sk) e h R = (vc2 C n [] (.code c_laws_toPhases_4 :: .code c_laws_toPhases_6 :: sk) e h R) := nr rfl
@[simp, simp ↓] theorem c_laws_toPhases_8_r : vc2 C (n + 1) [] (.code c_laws_toPhases_8 :: sk) e h R = (vc2 C n [] (.code c_laws_toPhases_3 :: .code c_laws_toPhases_7 :: sk) e h R) := nr rfl
@[simp, simp ↓] theorem c_laws_toPhases_9_r : vc2 C (n + 1) [] (.code c_laws_toPhases_9 :: sk) e h R = (vc2 C n [] (.code c_laws_toPhases_2 :: .code c_laws_toPhases_8 :: sk) e h R) := nr rfl
@[simp, simp ↓] theorem c_laws_toPhases_10_r : vc2 C (n + 1) [] (.code c_laws_toPhases_10 :: sk) e h R = (vc2 C n [] (.code c_laws_toPhases_1 :: .code c_laws_toPhases_9 :: sk) e h R) := nr rfl
@[simp, simp ↓] theorem c_laws_toPhases_11_r : vc2 C (n + 1) [] (.code c_laws_toPhases_11 :: sk) e h R = (vc2 C n [] (.code c_laws_toPhases_0 :: .code c_laws_toPhases_10 :: sk) e h R) := nr rfl
end
noncomputable def c_laws_toPhases_C (orc : Orc) : Cx := ⟨Try.prog, [2, 3], 16, 15, [.cell 2 3 true], orc⟩
@[simp] theorem c_laws_toPhases_C_P (orc : Orc) : (c_laws_toPhases_C orc).P = Try.prog := nr rfl
@[simp] theorem c_laws_toPhases_C_o (orc : Orc) : (c_laws_toPhases_C orc).orc = orc := nr rfl
@[simp] theorem c_laws_toPhases_C_r (orc : Orc) : (c_laws_toPhases_C orc).res = [.cell 2 3 true] := nr rfl
theorem c_laws_toPhases_of {args : List AV} {h : Heap} {R : AV → Heap → Prop} (ha : args.length = 1) {orc : Orc} (hp : Pure Try.prog orc) (hk : Is (c_laws_toPhases_C orc) Try.f16 → Run2 (c_laws_toPhases_C orc) [.code c_laws_toPhases_11] (argEnv 0 args) h (Post R)) : ACalls Try.prog 16 args h R :=
  contract2 [2, 3] c_laws_toPhases_11 [.cell 2 3 true] Try.func16 (by decide +kernel) rfl (by kernel_rfl) (by rw [ha]; decide +kernel) (by kernel_rfl) hp hk
theorem c_laws_toPhases_of0 {args : List AV} {h : Heap} {R : AV → Heap → Prop} (ha : args.length = 1) {orc : Orc} (hp : Pure Try.prog orc) (hk : Is (c_laws_toPhases_C orc) Try.f16 → Run2 (c_laws_toPhases_C orc) [.code c_laws_toPhases_11] (argEnv 0 args) h R) : ACalls Try.prog 16 args h R :=
  contract20 [2, 3] c_laws_toPhases_11 [.cell 2 3 true] Try.func16 (by decide +kernel) rfl (by kernel_rfl) (by rw [ha]; decide +kernel) (by kernel_rfl) hp hk
theorem toPhases_c (x : Ph) (h : Heap) (hl : x.ts.length ≤ 1048576) : ACalls Try.prog 16 [x.av] h (fun v h' => v = x.av ∧ h' = h) := by
  refine c_laws_toPhases_of rfl noPure fun I => ?_
  refine Run2.of I 1000 ?_
  simp -implicitDefEqProofs
  intro a ha b hb1 hb2
  refine gK.go ?_
  simp -implicitDefEqProofs [hb1]
  refine (toTurnS_c x.ts _ hl).mono ?_
  rintro v h' ⟨rfl, rfl⟩
  refine gK.go ?_
  simp -implicitDefEqProofs [hb1]
  refine .drop b (.drop a (.base ?_))
  simp -implicitDefEqProofs [hb1]
abbrev c_laws_szTurnS_o0 : List AJ := [.o ⟨(some 4), none, false, .mv (.c (.int .i64 0)), (some [0, 1])⟩]
def c_laws_szTurnS_0 : ACode := .region c_laws_szTurnS_o0
abbrev c_laws_szTurnS_o1 : List AJ := [.o ⟨(some 5), none, false, .mv (.t 1), none⟩, .o ⟨(some 6), none, false, .mv (.t 0), none⟩, .o ⟨(some 7), none, false, .len (.t 6), none⟩, .o ⟨(some 8), none, true, .bin .sub (.t 5) (.t 7), none⟩, .o ⟨(some 1), none, false, .mv (.t 8), (some [1])⟩]
def c_laws_szTurnS_1 : ACode := .region c_laws_szTurnS_o1
abbrev c_laws_szTurnS_o2 : List AJ := [.o ⟨(some 9), none, false, .mv (.t 1), none⟩, .o ⟨(some 10), none, false, .bin .lss (.t 9) (.c (.int .i64 0)), (some [1, 10])⟩]
def c_laws_szTurnS_2 : ACode := .region c_laws_szTurnS_o2
abbrev c_laws_szTurnS_o3 : List AJ := [.o ⟨(some 4), none, false, .mv (.c (.int .i64 (-1))), (some [4])⟩]
def c_laws_szTurnS_3 : ACode := .region c_laws_szTurnS_o3
def c_laws_szTurnS_4 : ACode := .seq c_laws_szTurnS_3 .ret
def c_laws_szTurnS_5 : ACode := .cond (.t 10) c_laws_szTurnS_4 .skip
def c_laws_szTurnS_6 : ACode := .seq c_laws_szTurnS_2 c_laws_szTurnS_5
abbrev c_laws_szTurnS_o4 : List AJ := [.o ⟨(some 11), none, false, .mv (.t 1), none⟩, .o ⟨(some 4), none, false, .mv (.t 11), (some [4])⟩]
def c_laws_szTurnS_7 : ACode := .region c_laws_szTurnS_o4
def c_laws_szTurnS_8 : ACode := .seq c_laws_szTurnS_7 .ret
def c_laws_szTurnS_9 : ACode := .seq c_laws_szTurnS_6 c_laws_szTurnS_8
def c_laws_szTurnS_10 : ACode := .seq c_laws_szTurnS_1 c_laws_szTurnS_9
def c_laws_szTurnS_11 : ACode := .seq c_laws_szTurnS_0 c_laws_szTurnS_10
section
variable (C : Cx) (n : Nat) (sk : List AItem) (e : Env) (h : Heap) (R : AV → Heap → Prop)
@[simp, simp ↓] theorem c_laws_szTurnS_0_r : vc2 C (n + 1) [] (.code c_laws_szTurnS_0 :: sk) e h R = (vc2 C n c_laws_szTurnS_o0 sk e h R) := nr rfl
@[simp, simp ↓] theorem c_laws_szTurnS_1_r : vc2 C (n + 1) [] (.code c_laws_szTurnS_1 :: sk) e h R = (vc2 C n c_laws_szTurnS_o1 sk e h R) := nr rfl
@[simp, simp ↓] theorem c_laws_szTurnS_2_r : vc2 C (n + 1) [] (.code c_laws_szTurnS_2 :: sk) e h R = (vc2 C n c_laws_szTurnS_o2 sk e h R) := nr rfl
@[simp, simp ↓] theorem c_laws_szTurnS_3_r : vc2 C (n + 1) [] (.code c_laws_szTurnS_3 :: sk) e h R = (vc2 C n c_laws_szTurnS_o3 sk e h R) := nr rfl
@[simp, simp ↓] theorem c_laws_szTurnS_4_r : vc2 C (n + 1) [] (.code c_laws_szTurnS_4 :: sk) e h R = (vc2 C n [] (.code c_laws_szTurnS_3 :: .code .ret :: sk) e h R) := nr rfl
@[simp, simp ↓] theorem c_laws_szTurnS_5_r : vc2 C (n + 1) [] (.code c_laws_szTurnS_5 :: sk) e h R = (condK (ev e (.t 10)) (vc2 C n [] (.code c_laws_szTurnS_4 :: sk) e h R) (vc2 C n [] (.code .skip :: sk) e h R)) := nr rfl
@[simp, simp ↓] theorem c_laws_szTurnS_6_r : vc2 C (n + 1) [] (.code c_laws_szTurnS_6 :: sk) e h R = (vc2 C n [] (.code c_laws_szTurnS_2 :: .code c_laws_szTurnS_5 :: sk) e h R) := nr rfl
@[simp, simp ↓] theorem c_laws_szTurnS_7_r : vc2 C (n + 1) [] (.code c_laws_szTurnS_7 :: sk) e h R = (vc2 C n c_laws_szTurnS_o4 sk e h R) := nr rfl
@[simp, simp ↓] theorem c_laws_szTurnS_8_r : vc2 C (n + 1) [] (.code c_laws_szTurnS_8 :: sk) e h R = (vc2 C n [] (.code c_laws_szTurnS_7 :: .code .ret :: sk) e h R) := nr rfl
@[simp, simp ↓] theorem c_laws_szTurnS_9_r : vc2 C (n + 1) [] (.code c_laws_szTurnS_9 :: sk) e h R = (vc2 C n [] (.code c_laws_szTurnS_6 :: .code c_laws_szTurnS_8 :: sk) e h R) := nr rfl
@[simp, simp ↓] theorem c_laws_szTurnS_10_r : vc2 C (n + 1) [] (.code c_laws_szTurnS_10 :: sk) e h R = (vc2 C n [] (.code c_laws_szTurnS_1 :: .code c_laws_szTurnS_9 :: sk) e h R) := nr rfl
@[simp, simp ↓] theorem c_laws_szTurnS_11_r : vc2 C (n + 1) [] (.code c_laws_szTurnS_11 :: sk) e h R = (vc2 C n [] (.code c_laws_szTurnS_0 :: .code c_laws_szTurnS_10 :: sk) e h R) := nr rfl
end
noncomputable def c_laws_szTurnS_C (orc : Orc) : Cx := ⟨Try.prog, [], 45, 12, [.tmp 4], orc⟩
@[simp] theorem c_laws_szTurnS_C_P (orc : Orc) : (c_laws_szTurnS_C orc).P = Try.prog := nr rfl
@[simp] theorem c_laws_szTurnS_C_o (orc : Orc) : (c_laws_szTurnS_C orc).orc = orc := nr rfl
@[simp] theorem c_laws_szTurnS_C_r (orc : Orc) : (c_laws_szTurnS_C orc).res = [.tmp 4] := nr rfl
theorem c_laws_szTurnS_of {args : List AV} {h : Heap} {R : AV → Heap → Prop} (ha : args.length = 2) {orc : Orc} (hp : Pure Try.prog orc) (hk : Is (c_laws_szTurnS_C orc) Try.f45 → Run2 (c_laws_szTurnS_C orc) [.code c_laws_szTurnS_11] (argEnv 0 args) h (Post R)) : ACalls Try.prog 45 args h R :=
  contract2 [] c_laws_szTurnS_11 [.tmp 4] Try.func45 (by decide +kernel) rfl (by kernel_rfl) (by rw [ha]; decide +kernel) (by kernel_rfl) hp hk
theorem c_laws_szTurnS_of0 {args : List AV} {h : Heap} {R : AV → Heap → Prop} (ha : args.length = 2) {orc : Orc} (hp : Pure Try.prog orc) (hk : Is (c_laws_szTurnS_C orc) Try.f45 → Run2 (c_laws_szTurnS_C orc) [.code c_laws_szTurnS_11] (argEnv 0 args) h R) : ACalls Try.prog 45 args h R :=
  contract20 [] c_laws_szTurnS_11 [.tmp 4] Try.func45 (by decide +kernel) rfl (by kernel_rfl) (by rw [ha]; decide +kernel) (by kernel_rfl) hp hk
theorem szTurnS_c (l : List T) (n : Int) (h : Heap) (hn : 0 ≤ n ∧ n ≤ 1048576) (hl : l.length ≤ 9223372036854775807) : ACalls Try.prog 45 [.snap 3 (l.map T.av), .int .i64 n] h (fun v h' => v = .int .i64 (if n < l.length then -1 else n - l.length) ∧ h' = h) := by
  refine c_laws_szTurnS_of0 rfl noPure fun I => ?_
  refine Run2.of I 1000 ?_
  simp -implicitDefEqProofs
  grind
abbrev c_laws_szPhases_o0 : List AJ := [.o ⟨(some 2), none, false, .box false 3 (.t 0), none⟩, .o ⟨(some 4), none, false, .mv (.c (.int .i64 0)), (some [1, 2])⟩]
def c_laws_szPhases_0 : ACode := .region c_laws_szPhases_o0
abbrev c_laws_szPhases_o1 : List AJ := [.o ⟨(some 5), none, false, .fieldA 2 (.t 2), none⟩, .o ⟨(some 6), none, false, .load 1 false (.t 5), none⟩, .o ⟨(some 7), none, false, .mv (.t 1), none⟩, .o ⟨(some 8), none, false, .call 45 [(.t 6), (.t 7)], none⟩, .o ⟨(some 1), none, false, .mv (.t 8), (some [1])⟩]
def c_laws_szPhases_1 : ACode := .region c_laws_szPhases_o1
abbrev c_laws_szPhases_o2 : List AJ := [.o ⟨(some 9), none, false, .mv (.t 1), none⟩, .o ⟨(some 10), none, false, .bin .lss (.t 9) (.c (.int .i64 0)), (some [1, 10])⟩]
def c_laws_szPhases_2 : ACode := .region c_laws_szPhases_o2
abbrev c_laws_szPhases_o3 : List AJ := [.o ⟨(some 4), none, false, .mv (.c (.int .i64 (-1))), (some [4])⟩]
def c_laws_szPhases_3 : ACode := .region c_laws_szPhases_o3
def c_laws_szPhases_4 : ACode := .seq c_laws_szPhases_3 .ret
def c_laws_szPhases_5 : ACode := .cond (.t 10) c_laws_szPhases_4 .skip
def c_laws_szPhases_6 : ACode := .seq c_laws_szPhases_2 c_laws_szPhases_5
abbrev c_laws_szPhases_o4 : List AJ := [.o ⟨(some 11), none, false, .mv (.t 1), none⟩, .o ⟨(some 4), none, false, .mv (.t 11), (some [4])⟩]
def c_laws_szPhases_7 : ACode := .region c_laws_szPhases_o4
def c_laws_szPhases_8 : ACode := .seq c_laws_szPhases_7 .ret
def c_laws_szPhases_9 : ACode := .seq c_laws_szPhases_6 c_laws_szPhases_8
def c_laws_szPhases_10 : ACode := .seq c_laws_szPhases_1 c_laws_szPhases_9
def c_laws_szPhases_11 : ACode := .seq c_laws_szPhases_0 c_laws_szPhases_10
section
variable (C : Cx) (n : Nat) (sk : List AItem) (e : Env) (h : Heap) (R : AV → Heap → Prop)
@[simp, simp ↓] theorem c_laws_szPhases_0_r : vc2 C (n + 1) [] (.code c_laws_szPhases_0 :: sk) e h R = (vc2 C n c_laws_szPhases_o0 sk e h R) := nr rfl
@[simp, simp ↓] theorem c_laws_szPhases_1_r : vc2 C (n + 1) [] (.code c_laws_szPhases_1 :: sk) e h R = (vc2 C n c_laws_szPhases_o1 sk e h R) := nr rfl
@[simp, simp ↓] theorem c_laws_szPhases_2_r : vc2 C (n + 1) [] (.code c_laws_szPhases_2 :: sk) e h R = (vc2 C n c_laws_szPhases_o2 sk e h R) := nr rfl
@[simp, simp ↓] theorem c_laws_szPhases_3_r : vc2 C (n + 1) [] (.code c_laws_szPhases_3 :: sk) e h R = (vc2 C n c_laws_szPhases_o3 sk e h R) := nr rfl
@[simp, simp ↓] theorem c_laws_szPhases_4_r : vc2 C (n + 1) [] (.code c_laws_szPhases_4 :: sk) e h R = (vc2 C n [] (.code c_laws_szPhases_3 :: .code .ret :: sk) e h R) := nr rfl
@[simp, simp ↓] theorem c_laws_szPhases_5_r : vc2 C (n + 1) [] (.code c_laws_szPhases_5 :: sk) e h R = (condK (ev e (.t 10)) (vc2 C n [] (.code c_laws_szPhases_4 :: sk) e h R) (vc2 C n [] (.code .skip :: sk) e h R)) := nr rfl
@[simp, simp ↓] theorem c_laws_szPhases_6_r : vc2 C (n + 1) [] (.code c_laws_szPhases_6 :: sk) e h R = (vc2 C n [] (.code c_laws_szPhases_2 :: .code c_laws_szPhases_5 :: sk) e h R) := nr rfl
@[simp, simp ↓] theorem c_laws_szPhases_7_r : vc2 C (n + 1) [] (.code c_laws_szPhases_7 :: sk) e h R = (vc2 C n c_laws_szPhases_o4 sk e h R) := nr rfl
@[simp, simp ↓] theorem c_laws_szPhases_8_r : vc2 C (n + 1) [] (.code c_laws_szPhases_8 :: sk) e h R = (vc2 C n [] (.code c_laws_szPhases_7 :: .code .ret :: sk) e h R) := nr rfl
@[simp, simp ↓] theorem c_laws_szPhases_9_r : vc2 C (n + 1) [] (.code c_laws_szPhases_9 :: sk) e h R = (vc2 C n [] (.code c_laws_szPhases_6 :: .code c_laws_szPhases_8 :: sk) e h R) := nr rfl
@[simp, simp ↓] theorem c_laws_szPhases_10_r : vc2 C (n + 1) [] (.code c_laws_szPhases_10 :: sk) e h R = (vc2 C n [] (.code c_laws_szPhases_1 :: .code c_laws_szPhases_9 :: sk) e h R) := nr rfl
@[simp, simp ↓] theorem c_laws_szPhases_11_r : vc2 C (n + 1) [] (.code c_laws_szPhases_11 :: sk) e h R = (vc2 C n [] (.code c_laws_szPhases_0 :: .code c_laws_szPhases_10 :: sk) e h R) := nr rfl
end
noncomputable def c_laws_szPhases_C (orc : Orc) : Cx := ⟨Try.prog, [], 14, 12, [.tmp 4], orc⟩
@[simp] theorem c_laws_szPhases_C_P (orc : Orc) : (c_laws_szPhases_C orc).P = Try.prog := nr rfl
@[simp] theorem c_laws_szPhases_C_o (orc : Orc) : (c_laws_szPhases_C orc).orc = orc := nr rfl
@[simp] theorem c_laws_szPhases_C_r (orc : Orc) : (c_laws_szPhases_C orc).res = [.tmp 4] := nr rfl
theorem c_laws_szPhases_of {args : List AV} {h : Heap} {R : AV → Heap → Prop} (ha : args.length = 2) {orc : Orc} (hp : Pure Try.prog orc) (hk : Is (c_laws_szPhases_C orc) Try.f14 → Run2 (c_laws_szPhases_C orc) [.code c_laws_szPhases_11] (argEnv 0 args) h (Post R)) : ACalls Try.prog 14 args h R :=
  contract2 [] c_laws_szPhases_11 [.tmp 4] Try.func14 (by decide +kernel) rfl (by kernel_rfl) (by rw [ha]; decide +kernel) (by kernel_rfl) hp hk
theorem c_laws_szPhases_of0 {args : List AV} {h : Heap} {R : AV → Heap → Prop} (ha : args.length = 2) {orc : Orc} (hp : Pure Try.prog orc) (hk : Is (c_laws_szPhases_C orc) Try.f14 → Run2 (c_laws_szPhases_C orc) [.code c_laws_szPhases_11] (argEnv 0 args) h R) : ACalls Try.prog 14 args h R :=
  contract20 [] c_laws_szPhases_11 [.tmp 4] Try.func14 (by decide +kernel) rfl (by kernel_rfl) (by rw [ha]; decide +kernel) (by kernel_rfl) hp hk
theorem szPhases_c (x : Ph) (n : Int) (h : Heap) (hn : 0 ≤ n ∧ n ≤ 1048576) (hl : x.ts.length ≤ 9223372036854775807) : ACalls Try.prog 14 [x.av, .int .i64 n] h (fun v h' => v = .int .i64 (if n < x.ts.length then -1 else n - x.ts.length) ∧ h' = h) := by
  refine c_laws_szPhases_of0 rfl noPure fun I => ?_
  refine Run2.of I 1000 ?_
  simp -implicitDefEqProofs
  refine (szTurnS_c x.ts n _ hn hl).mono ?_
  rintro v h' ⟨rfl, rfl⟩
  refine gK.go ?_
  simp -implicitDefEqProofs
  grind
abbrev c_laws_eqTurn_o0 : List AJ := [.o ⟨(some 2), none, false, .box false 3 (.t 0), none⟩, .o ⟨(some 3), none, false, .box false 3 (.t 1), none⟩, .o ⟨(some 4), none, false, .mv (.c (.bool false)), (some [2, 3])⟩]
def c_laws_eqTurn_0 : ACode := .region c_laws_eqTurn_o0
abbrev c_laws_eqTurn_o1 : List AJ := [.o ⟨(some 5), none, false, .fieldA 0 (.t 2), none⟩, .o ⟨(some 6), none, false, .load 1 false (.t 5), none⟩, .o ⟨(some 7), none, false, .fieldA 0 (.t 3), none⟩, .o ⟨(some 8), none, false, .load 1 false (.t 7), none⟩, .o ⟨(some 9), none, false, .bin .neq (.t 6) (.t 8), (some [2, 3, 9])⟩]
def c_laws_eqTurn_1 : ACode := .region c_laws_eqTurn_o1
abbrev c_laws_eqTurn_o2 : List AJ := [.o ⟨(some 4), none, false, .mv (.c (.bool false)), (some [4])⟩]
def c_laws_eqTurn_2 : ACode := .region c_laws_eqTurn_o2
def c_laws_eqTurn_3 : ACode := .seq c_laws_eqTurn_2 .ret
def c_laws_eqTurn_4 : ACode := .cond (.t 9) c_laws_eqTurn_3 .skip
def c_laws_eqTurn_5 : ACode := .seq c_laws_eqTurn_1 c_laws_eqTurn_4
abbrev c_laws_eqTurn_o3 : List AJ := [.o ⟨(some 10), none, false, .fieldA 1 (.t 2), none⟩, .o ⟨(some 11), none, false, .load 1 false (.t 10), none⟩, .o ⟨(some 12), none, false, .fieldA 1 (.t 3), none⟩, .o ⟨(some 13), none, false, .load 1 false (.t 12), none⟩, .o ⟨(some 14), none, false, .bin .neq (.t 11) (.t 13), (some [2, 3, 14])⟩]
def c_laws_eqTurn_6 : ACode := .region c_laws_eqTurn_o3
abbrev c_laws_eqTurn_o4 : List AJ := [.o ⟨(some 4), none, false, .mv (.c (.bool false)), (some [4])⟩]
def c_laws_eqTurn_7 : ACode := .region c_laws_eqTurn_o4
def c_laws_eqTurn_8 : ACode := .seq c_laws_eqTurn_7 .ret
def c_laws_eqTurn_9 : ACode := .cond (.t 14) c_laws_eqTurn_8 .skip
def c_laws_eqTurn_10 : ACode := .seq c_laws_eqTurn_6 c_laws_eqTurn_9
abbrev c_laws_eqTurn_o5 : List AJ := [.o ⟨(some 15), none, false, .fieldA 2 (.t 2), none⟩, .o ⟨(some 16), none, false, .load 1 false (.t 15), none⟩, .o ⟨(some 17), none, false, .fieldA 2 (.t 3), none⟩, .o ⟨(some 18), none, false, .load 1 false (.t 17), none⟩, .o ⟨(some 19), none, false, .bin .neq (.t 16) (.t 18), (some [19])⟩]
def c_laws_eqTurn_11 : ACode := .region c_laws_eqTurn_o5
abbrev c_laws_eqTurn_o6 : List AJ := [.o ⟨(some 4), none, false, .mv (.c (.bool false)), (some [4])⟩]
def c_laws_eqTurn_12 : ACode := .region c_laws_eqTurn_o6
def c_laws_eqTurn_13 : ACode := .seq c_laws_eqTurn_12 .ret
def c_laws_eqTurn_14 : ACode := .cond (.t 19) c_laws_eqTurn_13 .skip
def c_laws_eqTurn_15 : ACode := .seq c_laws_eqTurn_11 c_laws_eqTurn_14
abbrev c_laws_eqTurn_o7 : List AJ := [.o ⟨(some 4), none, false, .mv (.c (.bool true)), (some [4])⟩]
def c_laws_eqTurn_16 : ACode := .region c_laws_eqTurn_o7
def c_laws_eqTurn_17 : ACode := .seq c_laws_eqTurn_16 .ret
def c_laws_eqTurn_18 : ACode := .seq c_laws_eqTurn_15 c_laws_eqTurn_17
def c_laws_eqTurn_19 : ACode := .seq c_laws_eqTurn_10 c_laws_eqTurn_18
def c_laws_eqTurn_20 : ACode := .seq c_laws_eqTurn_5 c_laws_eqTurn_19
def c_laws_eqTurn_21 : ACode := .seq c_laws_eqTurn_0 c_laws_eqTurn_20
section
variable (C : Cx) (n : Nat) (sk : List AItem) (e : Env) (h : Heap) (R : AV → Heap → Prop)
@[simp, simp ↓] theorem c_laws_eqTurn_0_r : vc2 C (n + 1) [] (.code c_laws_eqTurn_0 :: sk) e h R = (vc2 C n c_laws_eqTurn_o0 sk e h R) := nr rfl
@[simp, simp ↓] theorem c_laws_eqTurn_1_r : vc2 C (n + 1) [] (.code c_laws_eqTurn_1 :: sk) e h R = (vc2 C n c_laws_eqTurn_o1 sk e h R) := nr rfl
@[simp, simp ↓] theorem c_laws_eqTurn_2_r : vc2 C (n + 1) [] (.code c_laws_eqTurn_2 :: sk) e h R = (vc2 C n c_laws_eqTurn_o2 sk e h R) := nr rfl
@[simp, simp ↓] theorem c_laws_eqTurn_3_r : vc2 C (n + 1) [] (.code c_laws_eqTurn_3 :: sk) e h R = (vc2 C n [] (.code c_laws_eqTurn_2 :: .code .ret :: sk) e h R) := nr rfl
@[simp, simp ↓] theorem c_laws_eqTurn_4_r : vc2 C (n + 1) [] (.code c_laws_eqTurn_4 :: sk) e h R = (condK (ev e (.t 9)) (vc2 C n [] (.code c_laws_eqTurn_3 :: sk) e h R) (vc2 C n [] (.code .skip :: sk) e h R)) := nr rfl
@[simp, simp ↓] theorem c_laws_eqTurn_5_r : vc2 C (n + 1) [] (.code c_laws_eqTurn_5 :: sk) e h R = (vc2 C n [] (.code c_laws_eqTurn_1 :: .code c_laws_eqTurn_4 :: sk) e h R) := nr rfl
@[simp, simp ↓] theorem c_laws_eqTurn_6_r : vc2 C (n + 1) [] (.code c_laws_eqTurn_6 :: sk) e h R = (vc2 C n c_laws_eqTurn_o3 sk e h R) := nr rfl
@[simp, simp ↓] theorem c_laws_eqTurn_7_r : vc2 C (n + 1) [] (.code c_laws_eqTurn_7 :: sk) e h R = (vc2 C n c_laws_eqTurn_o4 sk e h R) := nr rfl
@[simp, simp ↓] theorem c_laws_eqTurn_8_r : vc2 C (n + 1) [] (.code c_laws_eqTurn_8 :: sk) e h R = (vc2 C n [] (.code c_laws_eqTurn_7 :: .code .ret :: sk) e h R) := nr rfl
@[simp, simp ↓] theorem c_laws_eqTurn_9_r : vc2 C (n + 1) [] (.code c_laws_eqTurn_9 :: sk) e h R = (condK (ev e (.t 14)) (vc2 C n [] (.code c_laws_eqTurn_8 :: sk) e h R) (vc2 C n [] (.code .skip :: sk) e h R)) := nr rfl
@[simp, simp ↓] theorem c_laws_eqTurn_10_r : vc2 C (n + 1) [] (.code c_laws_eqTurn_10 :: sk) e h R = (vc2 C n [] (.code c_laws_eqTurn_6 :: .code c_laws_eqTurn_9 :: sk) e h R) := nr rfl
@[simp, simp ↓] theorem c_laws_eqTurn_11_r : vc2 C (n + 1) [] (.code c_laws_eqTurn_11 :: sk) e h R = (vc2 C n c_laws_eqTurn_o5 sk e h R) := nr rfl
@[simp, simp ↓] theorem c_laws_eqTurn_12_r : vc2 C (n + 1) [] (.code c_laws_eqTurn_12 :: sk) e h R = (vc2 C n c_laws_eqTurn_o6 sk e h R) := nr rfl
@[simp, simp ↓] theorem c_laws_eqTurn_13_r : vc2 C (n + 1) [] (.code c_laws_eqTurn_13 :: sk) e h R = (vc2 C n [] (.code c_laws_eqTurn_12 :: .code .ret :: sk) e h R) := nr rfl
@[simp, simp ↓] theorem c_laws_eqTurn_14_r : vc2 C (n + 1) [] (.code c_laws_eqTurn_14 :: sk) e h R = (condK (ev e (.t 19)) (vc2 C n [] (.code c_laws_eqTurn_13 :: sk) e h R) (vc2 C n [] (.code .skip :: sk) e h R)) := nr rfl
@[simp, simp ↓] theorem c_laws_eqTurn_15_r : vc2 C (n + 1) [] (.code c_laws_eqTurn_15 :: sk) e h R = (vc2 C n [] (.code c_laws_eqTurn_11 :: .code c_laws_eqTurn_14 :: sk) e h R) := nr rfl
@[simp, simp ↓] theorem c_laws_eqTurn_16_r : vc2 C (n + 1) [] (.code c_laws_eqTurn_16 :: sk) e h R = (vc2 C n c_laws_eqTurn_o7 sk e h R) := nr rfl
@[simp, simp ↓] theorem c_laws_eqTurn_17_r : vc2 C (n + 1) [] (.code c_laws_eqTurn_17 :: sk) e h R = (vc2 C n [] (.code c_laws_eqTurn_16 :: .code .ret :: sk) e h R) := nr rfl
@[simp, simp ↓] theorem c_laws_eqTurn_18_r : vc2 C (n + 1) [] (.code c_laws_eqTurn_18 :: sk) e h R = (vc2 C n [] (.code c_laws_eqTurn_15 :: .code c_laws_eqTurn_17 :: sk) e h R) := nr rfl
@[simp, simp ↓] theorem c_laws_eqTurn_19_r : vc2 C (n + 1) [] (.code c_laws_eqTurn_19 :: sk) e h R = (vc2 C n [] (.code c_laws_eqTurn_10 :: .code c_laws_eqTurn_18 :: sk) e h R) := nr rfl
@[simp, simp ↓] theorem c_laws_eqTurn_20_r : vc2 C (n + 1) [] (.code c_laws_eqTurn_20 :: sk) e h R = (vc2 C n [] (.code c_laws_eqTurn_5 :: .code c_laws_eqTurn_19 :: sk) e h R) := nr rfl
@[simp, simp ↓] theorem c_laws_eqTurn_21_r : vc2 C (n + 1) [] (.code c_laws_eqTurn_21 :: sk) e h R = (vc2 C n [] (.code c_laws_eqTurn_0 :: .code c_laws_eqTurn_20 :: sk) e h R) := nr rfl
end
noncomputable def c_laws_eqTurn_C (orc : Orc) : Cx := ⟨Try.prog, [], 87, 20, [.tmp 4], orc⟩
@[simp] theorem c_laws_eqTurn_C_P (orc : Orc) : (c_laws_eqTurn_C orc).P = Try.prog := nr rfl
@[simp] theorem c_laws_eqTurn_C_o (orc : Orc) : (c_laws_eqTurn_C orc).orc = orc := nr rfl
@[simp] theorem c_laws_eqTurn_C_r (orc : Orc) : (c_laws_eqTurn_C orc).res = [.tmp 4] := nr rfl
theorem c_laws_eqTurn_of {args : List AV} {h : Heap} {R : AV → Heap → Prop} (ha : args.length = 2) {orc : Orc} (hp : Pure Try.prog orc) (hk : Is (c_laws_eqTurn_C orc) Try.f87 → Run2 (c_laws_eqTurn_C orc) [.code c_laws_eqTurn_21] (argEnv 0 args) h (Post R)) : ACalls Try.prog 87 args h R :=
  contract2 [] c_laws_eqTurn_21 [.tmp 4] Try.func87 (by decide +kernel) rfl (by kernel_rfl) (by rw [ha]; decide +kernel) (by kernel_rfl) hp hk
theorem c_laws_eqTurn_of0 {args : List AV} {h : Heap} {R : AV → Heap → Prop} (ha : args.length = 2) {orc : Orc} (hp : Pure Try.prog orc) (hk : Is (c_laws_eqTurn_C orc) Try.f87 → Run2 (c_laws_eqTurn_C orc) [.code c_laws_eqTurn_21] (argEnv 0 args) h R) : ACalls Try.prog 87 args h R :=
  contract20 [] c_laws_eqTurn_21 [.tmp 4] Try.func87 (by decide +kernel) rfl (by kernel_rfl) (by rw [ha]; decide +kernel) (by kernel_rfl) hp hk
theorem eqTurn_c (x y : T) (h : Heap) : ACalls Try.prog 87 [x.av, y.av] h (fun v h' => v = .bool (decide (x = y)) ∧ h' = h) := by
  refine c_laws_eqTurn_of0 rfl noPure fun I => ?_
  cases x; cases y
  refine Run2.of I 1000 ?_
  simp -implicitDefEqProofs
  grind
noncomputable def o_eqTurn : List AV → Option (Prop × AV) := tab (fun (x : Int × Int × Int × Int × Int × Int) => match x with | (f, t, s, f', t', s') => [.agg [.int .i64 f, .int .i64 t, .int .i64 s], .agg [.int .i64 f', .int .i64 t', .int .i64 s']]) (fun x => match x with | (f, t, s, f', t', s') => True) (fun x => match x with | (f, t, s, f', t', s') => .bool (decide ((⟨f, t, s⟩ : T) = ⟨f', t', s'⟩)))
@[simp] theorem o_eqTurn_e (f : Int) (t : Int) (s : Int) (f' : Int) (t' : Int) (s' : Int) : o_eqTurn [.agg [.int .i64 f, .int .i64 t, .int .i64 s], .agg [.int .i64 f', .int .i64 t', .int .i64 s']] = some (True, .bool (decide ((⟨f, t, s⟩ : T) = ⟨f', t', s'⟩))) := tab_at (enc := fun (x : Int × Int × Int × Int × Int × Int) => match x with | (f, t, s, f', t', s') => [.agg [.int .i64 f, .int .i64 t, .int .i64 s], .agg [.int .i64 f', .int .i64 t', .int .i64 s']]) (fun x y h => by
  obtain ⟨f1, t1, s1, f'1, t'1, s'1⟩ := x; obtain ⟨f2, t2, s2, f'2, t'2, s'2⟩ := y; simp at h; simp [h]) _ _ (f, t, s, f', t', s')
theorem o_eqTurn_k : Knows Try.prog 87 o_eqTurn := tab_knows fun x hx h => by
  obtain ⟨f, t, s, f', t', s'⟩ := x; exact eqTurn_c ⟨f, t, s⟩ ⟨f', t', s'⟩ h
abbrev c_laws_eqTurnS_o0 : List AJ := [.o ⟨(some 4), none, false, .mv (.c (.bool false)), (some [0, 1])⟩]
def c_laws_eqTurnS_0 : ACode := .region c_laws_eqTurnS_o0
abbrev c_laws_eqTurnS_o1 : List AJ := [.o ⟨(some 6), none, false, .mv (.t 0), none⟩, .o ⟨(some 7), none, false, .len (.t 6), none⟩, .o ⟨(some 8), none, false, .mv (.t 1), none⟩, .o ⟨(some 9), none, false, .len (.t 8), none⟩, .o ⟨(some 10), none, false, .bin .neq (.t 7) (.t 9), (some [0, 1, 10])⟩]
def c_laws_eqTurnS_1 : ACode := .region c_laws_eqTurnS_o1
abbrev c_laws_eqTurnS_o2 : List AJ := [.o ⟨(some 4), none, false, .mv (.c (.bool false)), (some [4])⟩]
def c_laws_eqTurnS_2 : ACode := .region c_laws_eqTurnS_o2
def c_laws_eqTurnS_3 : ACode := .seq c_laws_eqTurnS_2 .ret
def c_laws_eqTurnS_4 : ACode := .cond (.t 10) c_laws_eqTurnS_3 .skip
def c_laws_eqTurnS_5 : ACode := .seq c_laws_eqTurnS_1 c_laws_eqTurnS_4
abbrev c_laws_eqTurnS_o3 : List AJ := [.o ⟨(some 5), none, false, .mv (.c (.int .i64 0)), (some [0, 1, 5])⟩]
def c_laws_eqTurnS_6 : ACode := .region c_laws_eqTurnS_o3
abbrev c_laws_eqTurnS_o4 : List AJ := [.o ⟨(some 11), none, false, .mv (.t 5), none⟩, .o ⟨(some 12), none, false, .mv (.t 0), none⟩, .o ⟨(some 13), none, false, .len (.t 12), none⟩, .o ⟨(some 14), none, false, .bin .lss (.t 11) (.t 13), (some [0, 1, 5, 14])⟩]
def c_laws_eqTurnS_7 : ACode := .region c_laws_eqTurnS_o4
def c_laws_eqTurnS_8 : ACode := .cond (.t 14) .skip (.exit 0)
def c_laws_eqTurnS_9 : ACode := .seq c_laws_eqTurnS_7 c_laws_eqTurnS_8
abbrev c_laws_eqTurnS_o5 : List AI := [⟨(some 17), none, false, .mv (.t 0), none⟩, ⟨(some 18), none, false, .mv (.t 5), none⟩, ⟨(some 19), none, false, .idxA 3 (.t 17) (.t 18), none⟩, ⟨(some 20), none, false, .load 3 true (.t 19), none⟩, ⟨(some 21), none, false, .mv (.t 1), none⟩, ⟨(some 22), none, false, .mv (.t 5), none⟩, ⟨(some 23), none, false, .idxA 3 (.t 21) (.t 22), none⟩, ⟨(some 24), none, false, .load 3 true (.t 23), none⟩, ⟨(some 25), none, false, .call 87 [(.t 20), (.t 24)], none⟩, ⟨(some 26), none, false, .un .not (.t 25), (some [0, 1, 5, 26])⟩]
def c_laws_eqTurnS_10 : ACode := .draw c_laws_eqTurnS_o5 [] rfl
abbrev c_laws_eqTurnS_o6 : List AJ := [.o ⟨(some 4), none, false, .mv (.c (.bool false)), (some [4])⟩]
def c_laws_eqTurnS_11 : ACode := .region c_laws_eqTurnS_o6
def c_laws_eqTurnS_12 : ACode := .seq c_laws_eqTurnS_11 .ret
def c_laws_eqTurnS_13 : ACode := .cond (.t 26) c_laws_eqTurnS_12 .skip
def c_laws_eqTurnS_14 : ACode := .seq c_laws_eqTurnS_10 c_laws_eqTurnS_13
def c_laws_eqTurnS_15 : ACode := .block 1 c_laws_eqTurnS_14
abbrev c_laws_eqTurnS_o7 : List AJ := [.o ⟨(some 15), none, false, .mv (.t 5), none⟩, .o ⟨(some 16), none, true, .bin .add (.t 15) (.c (.int .i64 1)), none⟩, .o ⟨(some 5), none, false, .mv (.t 16), (some [0, 1, 5])⟩]
def c_laws_eqTurnS_16 : ACode := .region c_laws_eqTurnS_o7
def c_laws_eqTurnS_17 : ACode := .seq c_laws_eqTurnS_15 c_laws_eqTurnS_16
def c_laws_eqTurnS_18 : ACode := .seq c_laws_eqTurnS_9 c_laws_eqTurnS_17
def c_laws_eqTurnS_19 : ACode := .loop c_laws_eqTurnS_18
def c_laws_eqTurnS_20 : ACode := .block 0 c_laws_eqTurnS_19
def c_laws_eqTurnS_21 : ACode := .seq c_laws_eqTurnS_6 c_laws_eqTurnS_20
abbrev c_laws_eqTurnS_o8 : List AJ := [.o ⟨(some 4), none, false, .mv (.c (.bool true)), (some [4])⟩]
def c_laws_eqTurnS_22 : ACode := .region c_laws_eqTurnS_o8
def c_laws_eqTurnS_23 : ACode := .seq c_laws_eqTurnS_22 .ret
def c_laws_eqTurnS_24 : ACode := .seq c_laws_eqTurnS_21 c_laws_eqTurnS_23
def c_laws_eqTurnS_25 : ACode := .seq c_laws_eqTurnS_5 c_laws_eqTurnS_24
def c_laws_eqTurnS_26 : ACode := .seq c_laws_eqTurnS_0 c_laws_eqTurnS_25
section
variable (C : Cx) (n : Nat) (sk : List AItem) (e : Env) (h : Heap) (R : AV → Heap → Prop)
@[simp, simp ↓] theorem c_laws_eqTurnS_0_r : vc2 C (n + 1) [] (.code c_laws_eqTurnS_0 :: sk) e h R = (vc2 C n c_laws_eqTurnS_o0 sk e h R) := nr rfl
@[simp, simp ↓] theorem c_laws_eqTurnS_1_r : vc2 C (n + 1) [] (.code c_laws_eqTurnS_1 :: sk) e h R = (vc2 C n c_laws_eqTurnS_o1 sk e h R) := nr rfl
@[simp, simp ↓] theorem c_laws_eqTurnS_2_r : vc2 C (n + 1) [] (.code c_laws_eqTurnS_2 :: sk) e h R = (vc2 C n c_laws_eqTurnS_o2 sk e h R) := nr rfl
@[simp, simp ↓] theorem c_laws_eqTurnS_3_r : vc2 C (n + 1) [] (.code c_laws_eqTurnS_3 :: sk) e h R = (vc2 C n [] (.code c_laws_eqTurnS_2 :: .code .ret :: sk) e h R) := nr rfl
@[simp, simp ↓] theorem c_laws_eqTurnS_4_r : vc2 C (n + 1) [] (.code c_laws_eqTurnS_4 :: sk) e h R = (condK (ev e (.t 10)) (vc2 C n [] (.code c_laws_eqTurnS_3 :: sk) e h R) (vc2 C n [] (.code .skip :: sk) e h R)) := nr rfl
@[simp, simp ↓] theorem c_laws_eqTurnS_5_r : vc2 C (n + 1) [] (.code c_laws_eqTurnS_5 :: sk) e h R = (vc2 C n [] (.code c_laws_eqTurnS_1 :: .code c_laws_eqTurnS_4 :: sk) e h R) := nr rfl
@[simp, simp ↓] theorem c_laws_eqTurnS_6_r : vc2 C (n + 1) [] (.code c_laws_eqTurnS_6 :: sk) e h R = (vc2 C n c_laws_eqTurnS_o3 sk e h R) := nr rfl
@[simp, simp ↓] theorem c_laws_eqTurnS_7_r : vc2 C (n + 1) [] (.code c_laws_eqTurnS_7 :: sk) e h R = (vc2 C n c_laws_eqTurnS_o4 sk e h R) := nr rfl
@[simp, simp ↓] theorem c_laws_eqTurnS_8_r : vc2 C (n + 1) [] (.code c_laws_eqTurnS_8 :: sk) e h R = (condK (ev e (.t 14)) (vc2 C n [] (.code .skip :: sk) e h R) (vc2 C n [] (.code (.exit 0) :: sk) e h R)) := nr rfl
@[simp, simp ↓] theorem c_laws_eqTurnS_9_r : vc2 C (n + 1) [] (.code c_laws_eqTurnS_9 :: sk) e h R = (vc2 C n [] (.code c_laws_eqTurnS_7 :: .code c_laws_eqTurnS_8 :: sk) e h R) := nr rfl
@[simp, simp ↓] theorem c_laws_eqTurnS_10_r : vc2 C (n + 1) [] (.code c_laws_eqTurnS_10 :: sk) e h R = (draw2 C h (vK C n [] sk R h) c_laws_eqTurnS_o5 e) := nr rfl
@[simp, simp ↓] theorem c_laws_eqTurnS_11_r : vc2 C (n + 1) [] (.code c_laws_eqTurnS_11 :: sk) e h R = (vc2 C n c_laws_eqTurnS_o6 sk e h R) := nr rfl
@[simp, simp ↓] theorem c_laws_eqTurnS_12_r : vc2 C (n + 1) [] (.code c_laws_eqTurnS_12 :: sk) e h R = (vc2 C n [] (.code c_laws_eqTurnS_11 :: .code .ret :: sk) e h R) := nr rfl
@[simp, simp ↓] theorem c_laws_eqTurnS_13_r : vc2 C (n + 1) [] (.code c_laws_eqTurnS_13 :: sk) e h R = (condK (ev e (.t 26)) (vc2 C n [] (.code c_laws_eqTurnS_12 :: sk) e h R) (vc2 C n [] (.code .skip :: sk) e h R)) := nr rfl
@[simp, simp ↓] theorem c_laws_eqTurnS_14_r : vc2 C (n + 1) [] (.code c_laws_eqTurnS_14 :: sk) e h R = (vc2 C n [] (.code c_laws_eqTurnS_10 :: .code c_laws_eqTurnS_13 :: sk) e h R) := nr rfl
@[simp, simp ↓] theorem c_laws_eqTurnS_15_r : vc2 C (n + 1) [] (.code c_laws_eqTurnS_15 :: sk) e h R = (vc2 C n [] (.code c_laws_eqTurnS_14 :: .inBlock 1 :: sk) e h R) := nr rfl
@[simp, simp ↓] theorem c_laws_eqTurnS_16_r : vc2 C (n + 1) [] (.code c_laws_eqTurnS_16 :: sk) e h R = (vc2 C n c_laws_eqTurnS_o7 sk e h R) := nr rfl
@[simp, simp ↓] theorem c_laws_eqTurnS_17_r : vc2 C (n + 1) [] (.code c_laws_eqTurnS_17 :: sk) e h R = (vc2 C n [] (.code c_laws_eqTurnS_15 :: .code c_laws_eqTurnS_16 :: sk) e h R) := nr rfl
@[simp, simp ↓] theorem c_laws_eqTurnS_18_r : vc2 C (n + 1) [] (.code c_laws_eqTurnS_18 :: sk) e h R = (vc2 C n [] (.code c_laws_eqTurnS_9 :: .code c_laws_eqTurnS_17 :: sk) e h R) := nr rfl
@[simp, simp ↓] theorem c_laws_eqTurnS_19_r : vc2 C (n + 1) [] (.code c_laws_eqTurnS_19 :: sk) e h R = (Run2 C (.code c_laws_eqTurnS_18 :: .inLoop c_laws_eqTurnS_18 :: sk) e h R) := nr rfl
@[simp, simp ↓] theorem c_laws_eqTurnS_20_r : vc2 C (n + 1) [] (.code c_laws_eqTurnS_20 :: sk) e h R = (vc2 C n [] (.code c_laws_eqTurnS_19 :: .inBlock 0 :: sk) e h R) := nr rfl
@[simp, simp ↓] theorem c_laws_eqTurnS_21_r : vc2 C (n + 1) [] (.code c_laws_eqTurnS_21 :: sk) e h R = (vc2 C n [] (.code c_laws_eqTurnS_6 :: .code c_laws_eqTurnS_20 :: sk) e h R) := nr rfl
@[simp, simp ↓] theorem c_laws_eqTurnS_22_r : vc2 C (n + 1) [] (.code c_laws_eqTurnS_22 :: sk) e h R = (vc2 C n c_laws_eqTurnS_o8 sk e h R) := nr rfl
@[simp, simp ↓] theorem c_laws_eqTurnS_23_r : vc2 C (n + 1) [] (.code c_laws_eqTurnS_23 :: sk) e h R = (vc2 C n [] (.code c_laws_eqTurnS_22 :: .code .ret :: sk) e h R) := nr rfl
@[simp, simp ↓] theorem c_laws_eqTurnS_24_r : vc2 C (n + 1) [] (.code c_laws_eqTurnS_24 :: sk) e h R = (vc2 C n [] (.code c_laws_eqTurnS_21 :: .code c_laws_eqTurnS_23 :: sk) e h R) := nr rfl
@[simp, simp ↓] theorem c_laws_eqTurnS_25_r : vc2 C (n + 1) [] (.code c_laws_eqTurnS_25 :: sk) e h R = (vc2 C n [] (.code c_laws_eqTurnS_5 :: .code c_laws_eqTurnS_24 :: sk) e h R) := nr rfl
@[simp, simp ↓] theorem c_laws_eqTurnS_26_r : vc2 C (n + 1) [] (.code c_laws_eqTurnS_26 :: sk) e h R = (vc2 C n [] (.code c_laws_eqTurnS_0 :: .code c_laws_eqTurnS_25 :: sk) e h R) := nr rfl
end
noncomputable def c_laws_eqTurnS_C (orc : Orc) : Cx := ⟨Try.prog, [], 48, 27, [.tmp 4], orc⟩
@[simp] theorem c_laws_eqTurnS_C_P (orc : Orc) : (c_laws_eqTurnS_C orc).P = Try.prog := nr rfl
@[simp] theorem c_laws_eqTurnS_C_o (orc : Orc) : (c_laws_eqTurnS_C orc).orc = orc := nr rfl
@[simp] theorem c_laws_eqTurnS_C_r (orc : Orc) : (c_laws_eqTurnS_C orc).res = [.tmp 4] := nr rfl
theorem c_laws_eqTurnS_of {args : List AV} {h : Heap} {R : AV → Heap → Prop} (ha : args.length = 2) {orc : Orc} (hp : Pure Try.prog orc) (hk : Is (c_laws_eqTurnS_C orc) Try.f48 → Run2 (c_laws_eqTurnS_C orc) [.code c_laws_eqTurnS_26] (argEnv 0 args) h (Post R)) : ACalls Try.prog 48 args h R :=
  contract2 [] c_laws_eqTurnS_26 [.tmp 4] Try.func48 (by decide +kernel) rfl (by kernel_rfl) (by rw [ha]; decide +kernel) (by kernel_rfl) hp hk
theorem c_laws_eqTurnS_of0 {args : List AV} {h : Heap} {R : AV → Heap → Prop} (ha : args.length = 2) {orc : Orc} (hp : Pure Try.prog orc) (hk : Is (c_laws_eqTurnS_C orc) Try.f48 → Run2 (c_laws_eqTurnS_C orc) [.code c_laws_eqTurnS_26] (argEnv 0 args) h R) : ACalls Try.prog 48 args h R :=
  contract20 [] c_laws_eqTurnS_26 [.tmp 4] Try.func48 (by decide +kernel) rfl (by kernel_rfl) (by rw [ha]; decide +kernel) (by kernel_rfl) hp hk
theorem eqTurnS_c (l m : List T) (h : Heap) (hl : l.length ≤ 1048576) : ACalls Try.prog 48 [.snap 3 (l.map T.av), .snap 3 (m.map T.av)] h (fun v h' => v = .bool (decide (l = m)) ∧ h' = h) := by
  refine c_laws_eqTurnS_of0 rfl (lk_pure o_eqTurn_k lk_pure0) fun I => ?_
  refine Run2.of I 1000 ?_
  simp -implicitDefEqProofs
  refine ⟨by rintro hne rfl; exact hne rfl, fun hlen => ?_⟩
  refine Run2.loop (fun i => [(0, .snap 3 (l.map T.av)), (1, .snap 3 (m.map T.av)), (5, .int .i64 (i : Nat))]) (fun i => h) (fun i => l.length - i) (fun i => i ≤ l.length ∧ l.take i = m.take i) 0 (by simp) fun i hi ih => ?_
  by_cases hlt : i < l.length
  · have hlt' : i < m.length := by omega
    refine Run2.of I 1000 ?_
    simp -implicitDefEqProofs [hlt, hlt']
    constructor
    · rintro hne rfl
      exact hne rfl
    · intro he
      refine ⟨by omega, ?_⟩
      have := ih (i + 1) ⟨by omega, by rw [List.take_succ_eq_append_getElem hlt, List.take_succ_eq_append_getElem hlt', hi.2, he]⟩ (by omega)
      simpa using this
  · refine Run2.of I 1000 ?_
    simp -implicitDefEqProofs [hlt]
    have : i = l.length := by omega
    have h2 := hi.2
    rw [List.take_of_length_le (by omega), List.take_of_length_le (by omega)] at h2
    exact h2
abbrev c_laws_eqPhases_o0 : List AJ := [.o ⟨(some 2), none, false, .box false 3 (.t 0), none⟩, .o ⟨(some 3), none, false, .box false 3 (.t 1), none⟩, .o ⟨(some 4), none, false, .mv (.c (.bool false)), (some [2, 3])⟩]
def c_laws_eqPhases_0 : ACode := .region c_laws_eqPhases_o0
abbrev c_laws_eqPhases_o1 : List AJ := [.o ⟨(some 5), none, false, .fieldA 0 (.t 2), none⟩, .o ⟨(some 6), none, false, .load 1 false (.t 5), none⟩, .o ⟨(some 7), none, false, .fieldA 0 (.t 3), none⟩, .o ⟨(some 8), none, false, .load 1 false (.t 7), none⟩, .o ⟨(some 9), none, false, .bin .neq (.t 6) (.t 8), (some [2, 3, 9])⟩]
def c_laws_eqPhases_1 : ACode := .region c_laws_eqPhases_o1
abbrev c_laws_eqPhases_o2 : List AJ := [.o ⟨(some 4), none, false, .mv (.c (.bool false)), (some [4])⟩]
def c_laws_eqPhases_2 : ACode := .region c_laws_eqPhases_o2
def c_laws_eqPhases_3 : ACode := .seq c_laws_eqPhases_2 .ret
def c_laws_eqPhases_4 : ACode := .cond (.t 9) c_laws_eqPhases_3 .skip
def c_laws_eqPhases_5 : ACode := .seq c_laws_eqPhases_1 c_laws_eqPhases_4
abbrev c_laws_eqPhases_o3 : List AJ := [.o ⟨(some 10), none, false, .fieldA 1 (.t 2), none⟩, .o ⟨(some 11), none, false, .load 1 false (.t 10), none⟩, .o ⟨(some 12), none, false, .fieldA 1 (.t 3), none⟩, .o ⟨(some 13), none, false, .load 1 false (.t 12), none⟩, .o ⟨(some 14), none, false, .bin .neq (.t 11) (.t 13), (some [2, 3, 14])⟩]
def c_laws_eqPhases_6 : ACode := .region c_laws_eqPhases_o3
abbrev c_laws_eqPhases_o4 : List AJ := [.o ⟨(some 4), none, false, .mv (.c (.bool false)), (some [4])⟩]
def c_laws_eqPhases_7 : ACode := .region c_laws_eqPhases_o4
def c_laws_eqPhases_8 : ACode := .seq c_laws_eqPhases_7 .ret
def c_laws_eqPhases_9 : ACode := .cond (.t 14) c_laws_eqPhases_8 .skip
def c_laws_eqPhases_10 : ACode := .seq c_laws_eqPhases_6 c_laws_eqPhases_9
abbrev c_laws_eqPhases_o5 : List AJ := [.o ⟨(some 15), none, false, .fieldA 2 (.t 2), none⟩, .o ⟨(some 16), none, false, .load 1 false (.t 15), none⟩, .o ⟨(some 17), none, false, .fieldA 2 (.t 3), none⟩, .o ⟨(some 18), none, false, .load 1 false (.t 17), none⟩, .o ⟨(some 19), none, false, .call 48 [(.t 16), (.t 18)], none⟩, .o ⟨(some 20), none, false, .un .not (.t 19), (some [20])⟩]
def c_laws_eqPhases_11 : ACode := .region c_laws_eqPhases_o5
abbrev c_laws_eqPhases_o6 : List AJ := [.o ⟨(some 4), none, false, .mv (.c (.bool false)), (some [4])⟩]
def c_laws_eqPhases_12 : ACode := .region c_laws_eqPhases_o6
def c_laws_eqPhases_13 : ACode := .seq c_laws_eqPhases_12 .ret
def c_laws_eqPhases_14 : ACode := .cond (.t 20) c_laws_eqPhases_13 .skip
def c_laws_eqPhases_15 : ACode := .seq c_laws_eqPhases_11 c_laws_eqPhases_14
abbrev c_laws_eqPhases_o7 : List AJ := [.o ⟨(some 4), none, false, .mv (.c (.bool true)), (some [4])⟩]
def c_laws_eqPhases_16 : ACode := .region c_laws_eqPhases_o7
def c_laws_eqPhases_17 : ACode := .seq c_laws_eqPhases_16 .ret
def c_laws_eqPhases_18 : ACode := .seq c_laws_eqPhases_15 c_laws_eqPhases_17
def c_laws_eqPhases_19 : ACode := .seq c_laws_eqPhases_10 c_laws_eqPhases_18
def c_laws_eqPhases_20 : ACode := .seq c_laws_eqPhases_5 c_laws_eqPhases_19
def c_laws_eqPhases_21 : ACode := .seq c_laws_eqPhases_0 c_laws_eqPhases_20
section
variable (C : Cx) (n : Nat) (sk : List AItem) (e : Env) (h : Heap) (R : AV → Heap → Prop)
@[simp, simp ↓] theorem c_laws_eqPhases_0_r : vc2 C (n + 1) [] (.code c_laws_eqPhases_0 :: sk) e h R = (vc2 C n c_laws_eqPhases_o0 sk e h R) := nr rfl
@[simp, simp ↓] theorem c_laws_eqPhases_1_r : vc2 C (n + 1) [] (.code c_laws_eqPhases_1 :: sk) e h R = (vc2 C n c_laws_eqPhases_o1 sk e h R) := nr rfl
@[simp, simp ↓] theorem c_laws_eqPhases_2_r : vc2 C (n + 1) [] (.code c_laws_eqPhases_2 :: sk) e h R = (vc2 C n c_laws_eqPhases_o2 sk e h R) := nr rfl
@[simp, simp ↓] theorem c_laws_eqPhases_3_r : vc2 C (n + 1) [] (.code c_laws_eqPhases_3 :: sk) e h R = (vc2 C n [] (.code c_laws_eqPhases_2 :: .code .ret :: sk) e h R) := nr rfl
@[simp, simp ↓] theorem c_laws_eqPhases_4_r : vc2 C (n + 1) [] (.code c_laws_eqPhases_4 :: sk) e h R = (condK (ev e (.t 9)) (vc2 C n [] (.code c_laws_eqPhases_3 :: sk) e h R) (vc2 C n [] (.code .skip :: sk) e h R)) := nr rfl
@[simp, simp ↓] theorem c_laws_eqPhases_5_r : vc2 C (n + 1) [] (.code c_laws_eqPhases_5 :: sk) e h R = (vc2 C n [] (.code c_laws_eqPhases_1 :: .code c_laws_eqPhases_4 :: sk) e h R) := nr rfl
@[simp, simp ↓] theorem c_laws_eqPhases_6_r : vc2 C (n + 1) [] (.code c_laws_eqPhases_6 :: sk) e h R = (vc2 C n c_laws_eqPhases_o3 sk e h R) := nr rfl
@[simp, simp ↓] theorem c_laws_eqPhases_7_r : vc2 C (n + 1) [] (.code c_laws_eqPhases_7 :: sk) e h R = (vc2 C n c_laws_eqPhases_o4 sk e h R) := nr rfl
@[simp, simp ↓] theorem c_laws_eqPhases_8_r : vc2 C (n + 1) [] (.code c_laws_eqPhases_8 :: sk) e h R = (vc2 C n [] (.code c_laws_eqPhases_7 :: .code .ret :: sk) e h R) := nr rfl
@[simp, simp ↓] theorem c_laws_eqPhases_9_r : vc2 C (n + 1) [] (.code c_laws_eqPhases_9 :: sk) e h R = (condK (ev e (.t 14)) (vc2 C n [] (.code c_laws_eqPhases_8 :: sk) e h R) (vc2 C n [] (.code .skip :: sk) e h R)) := nr rfl
@[simp, simp ↓] theorem c_laws_eqPhases_10_r : vc2 C (n + 1) [] (.code c_laws_eqPhases_10 :: sk) e h R = (vc2 C n [] (.code c_laws_eqPhases_6 :: .code c_laws_eqPhases_9 :: sk) e h R) := nr rfl
@[simp, simp ↓] theorem c_laws_eqPhases_11_r : vc2 C (n + 1) [] (.code c_laws_eqPhases_11 :: sk) e h R = (vc2 C n c_laws_eqPhases_o5 sk e h R) := nr rfl
@[simp, simp ↓] theorem c_laws_eqPhases_12_r : vc2 C (n + 1) [] (.code c_laws_eqPhases_12 :: sk) e h R = (vc2 C n c_laws_eqPhases_o6 sk e h R) := nr rfl
@[simp, simp ↓] theorem c_laws_eqPhases_13_r : vc2 C (n + 1) [] (.code c_laws_eqPhases_13 :: sk) e h R = (vc2 C n [] (.code c_laws_eqPhases_12 :: .code .ret :: sk) e h R) := nr rfl
@[simp, simp ↓] theorem c_laws_eqPhases_14_r : vc2 C (n + 1) [] (.code c_laws_eqPhases_14 :: sk) e h R = (condK (ev e (.t 20)) (vc2 C n [] (.code c_laws_eqPhases_13 :: sk) e h R) (vc2 C n [] (.code .skip :: sk) e h R)) := nr rfl
@[simp, simp ↓] theorem c_laws_eqPhases_15_r : vc2 C (n + 1) [] (.code c_laws_eqPhases_15 :: sk) e h R = (vc2 C n [] (.code c_laws_eqPhases_11 :: .code c_laws_eqPhases_14 :: sk) e h R) := nr rfl
@[simp, simp ↓] theorem c_laws_eqPhases_16_r : vc2 C (n + 1) [] (.code c_laws_eqPhases_16 :: sk) e h R = (vc2 C n c_laws_eqPhases_o7 sk e h R) := nr rfl
@[simp, simp ↓] theorem c_laws_eqPhases_17_r : vc2 C (n + 1) [] (.code c_laws_eqPhases_17 :: sk) e h R = (vc2 C n [] (.code c_laws_eqPhases_16 :: .code .ret :: sk) e h R) := nr rfl
@[simp, simp ↓] theorem c_laws_eqPhases_18_r : vc2 C (n + 1) [] (.code c_laws_eqPhases_18 :: sk) e h R = (vc2 C n [] (.code c_laws_eqPhases_15 :: .code c_laws_eqPhases_17 :: sk) e h R) := nr rfl
@[simp, simp ↓] theorem c_laws_eqPhases_19_r : vc2 C (n + 1) [] (.code c_laws_eqPhases_19 :: sk) e h R = (vc2 C n [] (.code c_laws_eqPhases_10 :: .code c_laws_eqPhases_18 :: sk) e h R) := nr rfl
@[simp, simp ↓] theorem c_laws_eqPhases_20_r : vc2 C (n + 1) [] (.code c_laws_eqPhases_20 :: sk) e h R = (vc2 C n [] (.code c_laws_eqPhases_5 :: .code c_laws_eqPhases_19 :: sk) e h R) := nr rfl
@[simp, simp ↓] theorem c_laws_eqPhases_21_r : vc2 C (n + 1) [] (.code c_laws_eqPhases_21 :: sk) e h R = (vc2 C n [] (.code c_laws_eqPhases_0 :: .code c_laws_eqPhases_20 :: sk) e h R) := nr rfl
end
noncomputable def c_laws_eqPhases_C (orc : Orc) : Cx := ⟨Try.prog, [], 18, 21, [.tmp 4], orc⟩
@[simp] theorem c_laws_eqPhases_C_P (orc : Orc) : (c_laws_eqPhases_C orc).P = Try.prog := nr rfl
@[simp] theorem c_laws_eqPhases_C_o (orc : Orc) : (c_laws_eqPhases_C orc).orc = orc := nr rfl
@[simp] theorem c_laws_eqPhases_C_r (orc : Orc) : (c_laws_eqPhases_C orc).res = [.tmp 4] := nr rfl
theorem c_laws_eqPhases_of {args : List AV} {h : Heap} {R : AV → Heap → Prop} (ha : args.length = 2) {orc : Orc} (hp : Pure Try.prog orc) (hk : Is (c_laws_eqPhases_C orc) Try.f18 → Run2 (c_laws_eqPhases_C orc) [.code c_laws_eqPhases_21] (argEnv 0 args) h (Post R)) : ACalls Try.prog 18 args h R :=
  contract2 [] c_laws_eqPhases_21 [.tmp 4] Try.func18 (by decide +kernel) rfl (by kernel_rfl) (by rw [ha]; decide +kernel) (by kernel_rfl) hp hk
theorem c_laws_eqPhases_of0 {args : List AV} {h : Heap} {R : AV → Heap → Prop} (ha : args.length = 2) {orc : Orc} (hp : Pure Try.prog orc) (hk : Is (c_laws_eqPhases_C orc) Try.f18 → Run2 (c_laws_eqPhases_C orc) [.code c_laws_eqPhases_21] (argEnv 0 args) h R) : ACalls Try.prog 18 args h R :=
  contract20 [] c_laws_eqPhases_21 [.tmp 4] Try.func18 (by decide +kernel) rfl (by kernel_rfl) (by rw [ha]; decide +kernel) (by kernel_rfl) hp hk
theorem eqPhases_c (x y : Ph) (h : Heap) (hl : x.ts.length ≤ 1048576) : ACalls Try.prog 18 [x.av, y.av] h (fun v h' => v = .bool (decide (x = y)) ∧ h' = h) := by
  refine c_laws_eqPhases_of0 rfl noPure fun I => ?_
  cases x; cases y
  refine Run2.of I 1000 ?_
  simp -implicitDefEqProofs
  refine ⟨by grind, fun h1 => ⟨by grind, fun h2 => ?_⟩⟩
  refine (eqTurnS_c _ _ _ hl).mono ?_
  rintro v h' ⟨rfl, rfl⟩
  refine gK.go ?_
  simp -implicitDefEqProofs [h1, h2]
noncomputable def o_toPhases : List AV → Option (Prop × AV) := tab (fun (x : Int × Int × List T) => match x with | (n, m, ts) => [.agg [.int .i64 n, .int .i64 m, .snap 3 (ts.map T.av)]]) (fun x => match x with | (n, m, ts) => ts.length ≤ 1048576) (fun x => match x with | (n, m, ts) => .agg [.int .i64 n, .int .i64 m, .snap 3 (ts.map T.av)])
@[simp] theorem o_toPhases_e (n : Int) (m : Int) (ts : List T) : o_toPhases [.agg [.int .i64 n, .int .i64 m, .snap 3 (ts.map T.av)]] = some (ts.length ≤ 1048576, .agg [.int .i64 n, .int .i64 m, .snap 3 (ts.map T.av)]) := tab_at (enc := fun (x : Int × Int × List T) => match x with | (n, m, ts) => [.agg [.int .i64 n, .int .i64 m, .snap 3 (ts.map T.av)]]) (fun x y h => by
  obtain ⟨n1, m1, ts1⟩ := x; obtain ⟨n2, m2, ts2⟩ := y; simp at h; simp [h]) _ _ (n, m, ts)
theorem o_toPhases_k : Knows Try.prog 16 o_toPhases := tab_knows fun x hx h => by
  obtain ⟨n, m, ts⟩ := x; exact toPhases_c ⟨n, m, ts⟩ h hx
noncomputable def o_szPhases : List AV → Option (Prop × AV) := tab (fun (x : Int × Int × List T × Int) => match x with | (n, m, ts, k) => [.agg [.int .i64 n, .int .i64 m, .snap 3 (ts.map T.av)], .int .i64 k]) (fun x => match x with | (n, m, ts, k) => ((0 ≤ k ∧ k ≤ 1048576) ∧ ts.length ≤ 9223372036854775807)) (fun x => match x with | (n, m, ts, k) => .int .i64 (if k < ts.length then -1 else k - ts.length))
@[simp] theorem o_szPhases_e (n : Int) (m : Int) (ts : List T) (k : Int) : o_szPhases [.agg [.int .i64 n, .int .i64 m, .snap 3 (ts.map T.av)], .int .i64 k] = some (((0 ≤ k ∧ k ≤ 1048576) ∧ ts.length ≤ 9223372036854775807), .int .i64 (if k < ts.length then -1 else k - ts.length)) := tab_at (enc := fun (x : Int × Int × List T × Int) => match x with | (n, m, ts, k) => [.agg [.int .i64 n, .int .i64 m, .snap 3 (ts.map T.av)], .int .i64 k]) (fun x y h => by
  obtain ⟨n1, m1, ts1, k1⟩ := x; obtain ⟨n2, m2, ts2, k2⟩ := y; simp at h; simp [h]) _ _ (n, m, ts, k)
theorem o_szPhases_k : Knows Try.prog 14 o_szPhases := tab_knows fun x hx h => by
  obtain ⟨n, m, ts, k⟩ := x; exact szPhases_c ⟨n, m, ts⟩ k h hx.1 hx.2
noncomputable def o_eqPhases : List AV → Option (Prop × AV) := tab (fun (x : Int × Int × List T × Int × Int × List T) => match x with | (n, m, ts, n', m', ts') => [.agg [.int .i64 n, .int .i64 m, .snap 3 (ts.map T.av)], .agg [.int .i64 n', .int .i64 m', .snap 3 (ts'.map T.av)]]) (fun x => match x with | (n, m, ts, n', m', ts') => ts.length ≤ 1048576) (fun x => match x with | (n, m, ts, n', m', ts') => .bool (decide ((⟨n, m, ts⟩ : Ph) = ⟨n', m', ts'⟩)))
@[simp] theorem o_eqPhases_e (n : Int) (m : Int) (ts : List T) (n' : Int) (m' : Int) (ts' : List T) : o_eqPhases [.agg [.int .i64 n, .int .i64 m, .snap 3 (ts.map T.av)], .agg [.int .i64 n', .int .i64 m', .snap 3 (ts'.map T.av)]] = some (ts.length ≤ 1048576, .bool (decide ((⟨n, m, ts⟩ : Ph) = ⟨n', m', ts'⟩))) := tab_at (enc := fun (x : Int × Int × List T × Int × Int × List T) => match x with | (n, m, ts, n', m', ts') => [.agg [.int .i64 n, .int .i64 m, .snap 3 (ts.map T.av)], .agg [.int .i64 n', .int .i64 m', .snap 3 (ts'.map T.av)]]) (fun x y h => by
  obtain ⟨n1, m1, ts1, n'1, m'1, ts'1⟩ := x; obtain ⟨n2, m2, ts2, n'2, m'2, ts'2⟩ := y; simp at h; simp [h]) _ _ (n, m, ts, n', m', ts')
theorem o_eqPhases_k : Knows Try.prog 18 o_eqPhases := tab_knows fun x hx h => by
  obtain ⟨n, m, ts, n', m', ts'⟩ := x; exact eqPhases_c ⟨n, m, ts⟩ ⟨n', m', ts'⟩ h hx
noncomputable def orcA : List (Nat × (List AV → Option (Prop × AV))) := (16, o_toPhases) :: (14, o_szPhases) :: (18, o_eqPhases) :: []
theorem orcA_p : Pure Try.prog (lk orcA) := (lk_pure o_toPhases_k (lk_pure o_szPhases_k (lk_pure o_eqPhases_k lk_pure0)))
@[simp] theorem orcA_l (g : FuncId) (l : List AV) : lk orcA g l = if g = 16 then o_toPhases l else if g = 14 then o_szPhases l else if g = 18 then o_eqPhases l else none := nr rfl
end Go.AG
