/- Bars as plain data, and what the set's own helpers of bars do: they copy, compare and count. No statement is made here. -/
import Derived.Test.YtdgahpcgenlcjaaRows
import Derived.Test.YtdgahpcgenlcjaaAGInts
namespace Go.AG
open Go.Proofs Go.Proofs.Ytdgahpcgenlcjaa
set_option linter.unusedSimpArgs false
set_option linter.unusedVariables false
set_option maxRecDepth 4000
theorem Int_of_shape {x : AV} (h : shV (.int .i64) x) : ∃ n : Int, x = .int .i64 n ∧ in64 n := by
  obtain ⟨h1, n, e, r⟩ := h
  cases x <;> simp [isAgg, Ty.isS, cellsOf] at h1 e
  exact ⟨n, by rw [e.1, e.2], r⟩
structure T where
  f : Int
  t : Int
  s : Int
  deriving DecidableEq, Inhabited
@[simp] def T.av (x : T) : AV := .agg [.int .i64 x.f, .int .i64 x.t, .int .i64 x.s]
def T.ok (x : T) : Prop := in64 x.f ∧ in64 x.t ∧ in64 x.s
theorem T.ext' {x y : T} (h1 : x.f = y.f) (h2 : x.t = y.t) (h3 : x.s = y.s) : x = y := by
  cases x; cases y; simp at h1 h2 h3; simp [h1, h2, h3]
theorem T.av_inj {x y : T} (h : x.av = y.av) : x = y := by
  simp at h; exact T.ext' h.1 h.2.1 h.2.2
@[simp] theorem Ts_inj (l m : List T) : (l.map T.av = m.map T.av) ↔ l = m := ⟨fun h => List.map_inj_right (fun _ _ => T.av_inj) |>.1 h, fun h => by rw [h]⟩
@[simp] theorem T_eta (x : T) : (⟨x.f, x.t, x.s⟩ : T) = x := rfl
def tz : AV := .agg [.int .i64 0, .int .i64 0, .int .i64 0]
def tyT : Ty := .struct (.cons (.int .i64) (.cons (.int .i64) (.cons (.int .i64) .nil)))
theorem T_of_shape {x : AV} (h : isAgg x = tyT.isS ∧ shC tyT (cellsOf x)) : ∃ t : T, x = t.av ∧ t.ok := by
  obtain ⟨h1, a1, b1, e1, ⟨n1, rfl, r1⟩, a2, b2, rfl, ⟨n2, rfl, r2⟩, a3, b3, rfl, ⟨n3, rfl, r3⟩, h3⟩ := h
  have h3' : b3 = [] := h3
  subst h3'
  cases x <;> simp [isAgg, tyT, Ty.isS] at h1
  rename_i l
  refine ⟨⟨n1, n2, n3⟩, ?_, r1, r2, r3⟩
  simp only [cellsOf] at e1
  rw [e1]; rfl
theorem Ts_of_shape : ∀ {xs : List AV}, (∀ x ∈ xs, isAgg x = tyT.isS ∧ shC tyT (cellsOf x)) → ∃ ts : List T, xs = ts.map T.av ∧ ∀ t ∈ ts, t.ok
  | [], _ => ⟨[], rfl, by simp⟩
  | x :: xs, h => by
    obtain ⟨t, rfl, ht⟩ := T_of_shape (h x (List.mem_cons_self ..))
    obtain ⟨ts, rfl, hts⟩ := Ts_of_shape (xs := xs) fun y hy => h y (List.mem_cons_of_mem _ hy)
    exact ⟨t :: ts, rfl, by simpa using ⟨ht, hts⟩⟩
abbrev c_laws_toBar_o0 : List AJ := [.o ⟨(some 1), none, false, .box false 3 (.t 0), none⟩, .o ⟨(some 2), none, false, .alloc true 3 (.agg [(.int .i64 0), (.int .i64 0), (.int .i64 0)]), (some [1, 2])⟩]
def c_laws_toBar_0 : ACode := .region c_laws_toBar_o0
abbrev c_laws_toBar_o1 : List AJ := [.o ⟨(some 3), none, false, .alloc true 3 (.agg [(.int .i64 0), (.int .i64 0), (.int .i64 0)]), (some [1, 2, 3])⟩]
def c_laws_toBar_1 : ACode := .region c_laws_toBar_o1
abbrev c_laws_toBar_o2 : List AJ := [.o ⟨(some 4), none, false, .fieldA 0 (.t 1), none⟩, .o ⟨(some 5), none, false, .load 1 false (.t 4), none⟩, .o ⟨(some 6), none, false, .fieldA 0 (.t 3), none⟩, .o ⟨none, none, false, .store 1 (.t 6) (.t 5), (some [1, 2, 3])⟩]
def c_laws_toBar_2 : ACode := .region c_laws_toBar_o2
abbrev c_laws_toBar_o3 : List AJ := [.o ⟨(some 7), none, false, .fieldA 1 (.t 1), none⟩, .o ⟨(some 8), none, false, .load 1 false (.t 7), none⟩, .o ⟨(some 9), none, false, .fieldA 1 (.t 3), none⟩, .o ⟨none, none, false, .store 1 (.t 9) (.t 8), (some [1, 2, 3])⟩]
def c_laws_toBar_3 : ACode := .region c_laws_toBar_o3
abbrev c_laws_toBar_o4 : List AJ := [.o ⟨(some 10), none, false, .fieldA 2 (.t 1), none⟩, .o ⟨(some 11), none, false, .load 1 false (.t 10), none⟩, .o ⟨(some 12), none, false, .fieldA 2 (.t 3), none⟩, .o ⟨none, none, false, .store 1 (.t 12) (.t 11), (some [2, 3])⟩]
def c_laws_toBar_4 : ACode := .region c_laws_toBar_o4
abbrev c_laws_toBar_o5 : List AJ := [.o ⟨(some 13), none, false, .load 3 true (.t 3), none⟩, .o ⟨none, none, false, .store 3 (.t 2) (.t 13), (some [2])⟩]
def c_laws_toBar_5 : ACode := .region c_laws_toBar_o5
def c_laws_toBar_6 : ACode := .seq c_laws_toBar_5 .ret
def c_laws_toBar_7 : ACode := .seq c_laws_toBar_4 c_laws_toBar_6
def c_laws_toBar_8 : ACode := .seq c_laws_toBar_3 c_laws_toBar_7
def c_laws_toBar_9 : ACode := .seq c_laws_toBar_2 c_laws_toBar_8
def c_laws_toBar_10 : ACode := .seq c_laws_toBar_1 c_laws_toBar_9
def c_laws_toBar_11 : ACode := .seq c_laws_toBar_0 c_laws_toBar_10
section
variable (C : Cx) (n : Nat) (sk : List AItem) (e : Env) (h : Heap) (R : AV → Heap → Prop)
@[simp, simp ↓] theorem c_laws_toBar_0_r : vc2 C (n + 1) [] (.code c_laws_toBar_0 :: sk) e h R = (vc2 C n c_laws_toBar_o0 sk e h R) := nr rfl
@[simp, simp ↓] theorem c_laws_toBar_1_r : vc2 C (n + 1) [] (.code c_laws_toBar_1 :: sk) e h R = (vc2 C n c_laws_toBar_o1 sk e h R) := nr rfl
@[simp, simp ↓] theorem c_laws_toBar_2_r : vc2 C (n + 1) [] (.code c_laws_toBar_2 :: sk) e h R = (vc2 C n c_laws_toBar_o2 sk e h R) := nr rfl
@[simp, simp ↓] theorem c_laws_toBar_3_r : vc2 C (n + 1) [] (.code c_laws_toBar_3 :: sk) e h R = (vc2 C n c_laws_toBar_o3 sk e h R) := nr rfl
@[simp, simp ↓] theorem c_laws_toBar_4_r : vc2 C (n + 1) [] (.code c_laws_toBar_4 :: sk) e h R = (vc2 C n c_laws_toBar_o4 sk e h R) := nr rfl
@[simp, simp ↓] theorem c_laws_toBar_5_r : vc2 C (n + 1) [] (.code c_laws_toBar_5 :: sk) e h R = (vc2 C n c_laws_toBar_o5 sk e h R) := nr rfl
@[simp, simp ↓] theorem c_laws_toBar_6_r : vc2 C (n + 1) [] (.code c_laws_toBar_6 :: sk) e h R = (vc2 C n [] (.code c_laws_toBar_5 :: .code .ret :: sk) e h R) := nr rfl
@[simp, simp ↓] theorem c_laws_toBar_7_r : vc2 C (n + 1) [] (.code c_laws_toBar_7 :: sk) e h R = (vc2 C n [] (.code c_laws_toBar_4 :: .code c_laws_toBar_6 :: sk) e h R) := nr rfl
@[simp, simp ↓] theorem c_laws_toBar_8_r : vc2 C (n + 1) [] (.code c_laws_toBar_8 :: sk) e h R = (vc2 C n [] (.code c_laws_toBar_3 :: .code c_laws_toBar_7 :: sk) e h R) := nr rfl
@[simp, simp ↓] theorem c_laws_toBar_9_r : vc2 C (n + 1) [] (.code c_laws_toBar_9 :: sk) e h R = (vc2 C n [] (.code c_laws_toBar_2 :: .code c_laws_toBar_8 :: sk) e h R) := nr rfl
@[simp, simp ↓] theorem c_laws_toBar_10_r : vc2 C (n + 1) [] (.code c_laws_toBar_10 :: sk) e h R = (vc2 C n [] (.code c_laws_toBar_1 :: .code c_laws_toBar_9 :: sk) e h R) := nr rfl
@[simp, simp ↓] theorem c_laws_toBar_11_r : vc2 C (n + 1) [] (.code c_laws_toBar_11 :: sk) e h R = (vc2 C n [] (.code c_laws_toBar_0 :: .code c_laws_toBar_10 :: sk) e h R) := nr rfl
end
noncomputable def c_laws_toBar_C (orc : Orc) : Cx := ⟨Try.prog, [2, 3], 28, 14, [.cell 2 3 true], orc⟩
@[simp] theorem c_laws_toBar_C_P (orc : Orc) : (c_laws_toBar_C orc).P = Try.prog := nr rfl
@[simp] theorem c_laws_toBar_C_o (orc : Orc) : (c_laws_toBar_C orc).orc = orc := nr rfl
@[simp] theorem c_laws_toBar_C_r (orc : Orc) : (c_laws_toBar_C orc).res = [.cell 2 3 true] := nr rfl
theorem c_laws_toBar_of {args : List AV} {h : Heap} {R : AV → Heap → Prop} {k : Nat} (ha : args.length = k) {orc : Orc} (hp : Pure Try.prog orc) (hk : Is (c_laws_toBar_C orc) Try.f28 → Run2 (c_laws_toBar_C orc) [.code c_laws_toBar_11] (argEnv 0 args) h (Post R)) (hle : k ≤ 14 := by simp) : ACalls Try.prog 28 args h R :=
  contract2 [2, 3] c_laws_toBar_11 [.cell 2 3 true] Try.func28 (by decide +kernel) rfl (by kernel_rfl) (by rw [ha]; exact hle) (by kernel_rfl) hp hk
theorem c_laws_toBar_of0 {args : List AV} {h : Heap} {R : AV → Heap → Prop} {k : Nat} (ha : args.length = k) {orc : Orc} (hp : Pure Try.prog orc) (hk : Is (c_laws_toBar_C orc) Try.f28 → Run2 (c_laws_toBar_C orc) [.code c_laws_toBar_11] (argEnv 0 args) h R) (hle : k ≤ 14 := by simp) : ACalls Try.prog 28 args h R :=
  contract20 [2, 3] c_laws_toBar_11 [.cell 2 3 true] Try.func28 (by decide +kernel) rfl (by kernel_rfl) (by rw [ha]; exact hle) (by kernel_rfl) hp hk
theorem toBar_c (x : T) (h : Heap) : ACalls Try.prog 28 [x.av] h (fun v h' => v = x.av ∧ h' = h) := by
  refine c_laws_toBar_of rfl noPure fun I => ?_
  refine Run2.of I 1000 ?_
  simp -implicitDefEqProofs
  intro a ha b hb1 hb2
  refine gK.go ?_
  simp -implicitDefEqProofs [hb1]
  refine .drop b (.drop a (.base ?_))
  simp -implicitDefEqProofs [hb1]
noncomputable def o_toBar : List AV → Option (Prop × AV) := tab (fun (x : Int × Int × Int) => match x with | (f, t, s) => [.agg [.int .i64 f, .int .i64 t, .int .i64 s]]) (fun x => match x with | (f, t, s) => True) (fun x => match x with | (f, t, s) => .agg [.int .i64 f, .int .i64 t, .int .i64 s])
@[simp] theorem o_toBar_e (f : Int) (t : Int) (s : Int) : o_toBar [.agg [.int .i64 f, .int .i64 t, .int .i64 s]] = some (True, .agg [.int .i64 f, .int .i64 t, .int .i64 s]) := tab_at (enc := fun (x : Int × Int × Int) => match x with | (f, t, s) => [.agg [.int .i64 f, .int .i64 t, .int .i64 s]]) (fun x y h => by
  obtain ⟨f1, t1, s1⟩ := x; obtain ⟨f2, t2, s2⟩ := y; simp at h; simp [h]) _ _ (f, t, s)
theorem o_toBar_k : Knows Try.prog 28 o_toBar := tab_knows fun x hx h => by
  obtain ⟨f, t, s⟩ := x; exact toBar_c ⟨f, t, s⟩ h
abbrev c_laws_toBarS_o0 : List AJ := [.o ⟨(some 2), none, false, .mv (.c .nilsl), (some [0])⟩]
def c_laws_toBarS_0 : ACode := .region c_laws_toBarS_o0
abbrev c_laws_toBarS_o1 : List AJ := [.o ⟨(some 5), none, false, .mv (.t 0), none⟩, .o ⟨(some 6), none, false, .len (.t 5), none⟩, .o ⟨(some 7), none, false, .mksl 3 24 (.agg [(.int .i64 0), (.int .i64 0), (.int .i64 0)]) (.t 6) (.t 6), none⟩, .o ⟨(some 3), none, false, .mv (.t 7), (some [0, 3])⟩]
def c_laws_toBarS_1 : ACode := .region c_laws_toBarS_o1
abbrev c_laws_toBarS_o2 : List AJ := [.o ⟨(some 4), none, false, .mv (.c (.int .i64 0)), (some [0, 3, 4])⟩]
def c_laws_toBarS_2 : ACode := .region c_laws_toBarS_o2
abbrev c_laws_toBarS_o3 : List AJ := [.o ⟨(some 8), none, false, .mv (.t 4), none⟩, .o ⟨(some 9), none, false, .mv (.t 0), none⟩, .o ⟨(some 10), none, false, .len (.t 9), none⟩, .o ⟨(some 11), none, false, .bin .lss (.t 8) (.t 10), (some [0, 3, 4, 11])⟩]
def c_laws_toBarS_3 : ACode := .region c_laws_toBarS_o3
def c_laws_toBarS_4 : ACode := .cond (.t 11) .skip (.exit 0)
def c_laws_toBarS_5 : ACode := .seq c_laws_toBarS_3 c_laws_toBarS_4
abbrev c_laws_toBarS_o4 : List AJ := [.o ⟨(some 14), none, false, .mv (.t 3), none⟩, .o ⟨(some 15), none, false, .mv (.t 4), none⟩, .o ⟨(some 16), none, false, .mv (.t 0), none⟩, .o ⟨(some 17), none, false, .mv (.t 4), none⟩, .o ⟨(some 18), none, false, .idxA 3 (.t 16) (.t 17), none⟩, .o ⟨(some 19), none, false, .load 3 true (.t 18), none⟩, .o ⟨(some 20), none, false, .call 28 [(.t 19)], none⟩, .o ⟨(some 21), none, false, .idxA 3 (.t 14) (.t 15), none⟩, .o ⟨none, none, false, .store 3 (.t 21) (.t 20), (some [0, 3, 4])⟩]
def c_laws_toBarS_6 : ACode := .region c_laws_toBarS_o4
def c_laws_toBarS_7 : ACode := .block 1 c_laws_toBarS_6
abbrev c_laws_toBarS_o5 : List AJ := [.o ⟨(some 12), none, false, .mv (.t 4), none⟩, .o ⟨(some 13), none, true, .bin .add (.t 12) (.c (.int .i64 1)), none⟩, .o ⟨(some 4), none, false, .mv (.t 13), (some [0, 3, 4])⟩]
def c_laws_toBarS_8 : ACode := .region c_laws_toBarS_o5
def c_laws_toBarS_9 : ACode := .seq c_laws_toBarS_7 c_laws_toBarS_8
def c_laws_toBarS_10 : ACode := .seq c_laws_toBarS_5 c_laws_toBarS_9
def c_laws_toBarS_11 : ACode := .loop c_laws_toBarS_10
def c_laws_toBarS_12 : ACode := .block 0 c_laws_toBarS_11
def c_laws_toBarS_13 : ACode := .seq c_laws_toBarS_2 c_laws_toBarS_12
abbrev c_laws_toBarS_o6 : List AJ := [.o ⟨(some 22), none, false, .mv (.t 3), none⟩, .o ⟨(some 2), none, false, .mv (.t 22), (some [2])⟩]
def c_laws_toBarS_14 : ACode := .region c_laws_toBarS_o6
def c_laws_toBarS_15 : ACode := .seq c_laws_toBarS_14 .ret
def c_laws_toBarS_16 : ACode := .seq c_laws_toBarS_13 c_laws_toBarS_15
def c_laws_toBarS_17 : ACode := .seq c_laws_toBarS_1 c_laws_toBarS_16
def c_laws_toBarS_18 : ACode := .seq c_laws_toBarS_0 c_laws_toBarS_17
section
variable (C : Cx) (n : Nat) (sk : List AItem) (e : Env) (h : Heap) (R : AV → Heap → Prop)
@[simp, simp ↓] theorem c_laws_toBarS_0_r : vc2 C (n + 1) [] (.code c_laws_toBarS_0 :: sk) e h R = (vc2 C n c_laws_toBarS_o0 sk e h R) := nr rfl
@[simp, simp ↓] theorem c_laws_toBarS_1_r : vc2 C (n + 1) [] (.code c_laws_toBarS_1 :: sk) e h R = (vc2 C n c_laws_toBarS_o1 sk e h R) := nr rfl
@[simp, simp ↓] theorem c_laws_toBarS_2_r : vc2 C (n + 1) [] (.code c_laws_toBarS_2 :: sk) e h R = (vc2 C n c_laws_toBarS_o2 sk e h R) := nr rfl
@[simp, simp ↓] theorem c_laws_toBarS_3_r : vc2 C (n + 1) [] (.code c_laws_toBarS_3 :: sk) e h R = (vc2 C n c_laws_toBarS_o3 sk e h R) := nr rfl
@[simp, simp ↓] theorem c_laws_toBarS_4_r : vc2 C (n + 1) [] (.code c_laws_toBarS_4 :: sk) e h R = (condK (ev e (.t 11)) (vc2 C n [] (.code .skip :: sk) e h R) (vc2 C n [] (.code (.exit 0) :: sk) e h R)) := nr rfl
@[simp, simp ↓] theorem c_laws_toBarS_5_r : vc2 C (n + 1) [] (.code c_laws_toBarS_5 :: sk) e h R = (vc2 C n [] (.code c_laws_toBarS_3 :: .code c_laws_toBarS_4 :: sk) e h R) := nr rfl
@[simp, simp ↓] theorem c_laws_toBarS_6_r : vc2 C (n + 1) [] (.code c_laws_toBarS_6 :: sk) e h R = (vc2 C n c_laws_toBarS_o4 sk e h R) := nr rfl
@[simp, simp ↓] theorem c_laws_toBarS_7_r : vc2 C (n + 1) [] (.code c_laws_toBarS_7 :: sk) e h R = (vc2 C n [] (.code c_laws_toBarS_6 :: .inBlock 1 :: sk) e h R) := nr rfl
@[simp, simp ↓] theorem c_laws_toBarS_8_r : vc2 C (n + 1) [] (.code c_laws_toBarS_8 :: sk) e h R = (vc2 C n c_laws_toBarS_o5 sk e h R) := nr rfl
@[simp, simp ↓] theorem c_laws_toBarS_9_r : vc2 C (n + 1) [] (.code c_laws_toBarS_9 :: sk) e h R = (vc2 C n [] (.code c_laws_toBarS_7 :: .code c_laws_toBarS_8 :: sk) e h R) := nr rfl
@[simp, simp ↓] theorem c_laws_toBarS_10_r : vc2 C (n + 1) [] (.code c_laws_toBarS_10 :: sk) e h R = (vc2 C n [] (.code c_laws_toBarS_5 :: .code c_laws_toBarS_9 :: sk) e h R) := nr rfl
@[simp, simp ↓] theorem c_laws_toBarS_11_r : vc2 C (n + 1) [] (.code c_laws_toBarS_11 :: sk) e h R = (Run2 C (.code c_laws_toBarS_10 :: .inLoop c_laws_toBarS_10 :: sk) e h R) := nr rfl
@[simp, simp ↓] theorem c_laws_toBarS_12_r : vc2 C (n + 1) [] (.code c_laws_toBarS_12 :: sk) e h R = (vc2 C n [] (.code c_laws_toBarS_11 :: .inBlock 0 :: sk) e h R) := nr rfl
@[simp, simp ↓] theorem c_laws_toBarS_13_r : vc2 C (n + 1) [] (.code c_laws_toBarS_13 :: sk) e h R = (vc2 C n [] (.code c_laws_toBarS_2 :: .code c_laws_toBarS_12 :: sk) e h R) := nr rfl
@[simp, simp ↓] theorem c_laws_toBarS_14_r : vc2 C (n + 1) [] (.code c_laws_toBarS_14 :: sk) e h R = (vc2 C n c_laws_toBarS_o6 sk e h R) := nr rfl
@[simp, simp ↓] theorem c_laws_toBarS_15_r : vc2 C (n + 1) [] (.code c_laws_toBarS_15 :: sk) e h R = (vc2 C n [] (.code c_laws_toBarS_14 :: .code .ret :: sk) e h R) := nr rfl
@[simp, simp ↓] theorem c_laws_toBarS_16_r : vc2 C (n + 1) [] (.code c_laws_toBarS_16 :: sk) e h R = (vc2 C n [] (.code c_laws_toBarS_13 :: .code c_laws_toBarS_15 :: sk) e h R) := nr rfl
@[simp, simp ↓] theorem c_laws_toBarS_17_r : vc2 C (n + 1) [] (.code c_laws_toBarS_17 :: sk) e h R = (vc2 C n [] (.code c_laws_toBarS_1 :: .code c_laws_toBarS_16 :: sk) e h R) := nr rfl
@[simp, simp ↓] theorem c_laws_toBarS_18_r : vc2 C (n + 1) [] (.code c_laws_toBarS_18 :: sk) e h R = (vc2 C n [] (.code c_laws_toBarS_0 :: .code c_laws_toBarS_17 :: sk) e h R) := nr rfl
end
noncomputable def c_laws_toBarS_C (orc : Orc) : Cx := ⟨Try.prog, [], 11, 23, [.tmp 2], orc⟩
@[simp] theorem c_laws_toBarS_C_P (orc : Orc) : (c_laws_toBarS_C orc).P = Try.prog := nr rfl
@[simp] theorem c_laws_toBarS_C_o (orc : Orc) : (c_laws_toBarS_C orc).orc = orc := nr rfl
@[simp] theorem c_laws_toBarS_C_r (orc : Orc) : (c_laws_toBarS_C orc).res = [.tmp 2] := nr rfl
theorem c_laws_toBarS_of {args : List AV} {h : Heap} {R : AV → Heap → Prop} {k : Nat} (ha : args.length = k) {orc : Orc} (hp : Pure Try.prog orc) (hk : Is (c_laws_toBarS_C orc) Try.f11 → Run2 (c_laws_toBarS_C orc) [.code c_laws_toBarS_18] (argEnv 0 args) h (Post R)) (hle : k ≤ 23 := by simp) : ACalls Try.prog 11 args h R :=
  contract2 [] c_laws_toBarS_18 [.tmp 2] Try.func11 (by decide +kernel) rfl (by kernel_rfl) (by rw [ha]; exact hle) (by kernel_rfl) hp hk
theorem c_laws_toBarS_of0 {args : List AV} {h : Heap} {R : AV → Heap → Prop} {k : Nat} (ha : args.length = k) {orc : Orc} (hp : Pure Try.prog orc) (hk : Is (c_laws_toBarS_C orc) Try.f11 → Run2 (c_laws_toBarS_C orc) [.code c_laws_toBarS_18] (argEnv 0 args) h R) (hle : k ≤ 23 := by simp) : ACalls Try.prog 11 args h R :=
  contract20 [] c_laws_toBarS_18 [.tmp 2] Try.func11 (by decide +kernel) rfl (by kernel_rfl) (by rw [ha]; exact hle) (by kernel_rfl) hp hk
theorem toBarS_w (l : List T) (h : Heap) (hl : l.length ≤ 1048576) : ACalls Try.prog 11 [.snap 3 (l.map T.av)] h (fun v h' => ∃ id, id ∉ dom h ∧ v = .sl id 3 0 l.length (some l.length) ∧ h' = (id, ⟨3, l.map T.av⟩) :: h) := by
  refine c_laws_toBarS_of0 rfl (lk_pure o_toBar_k lk_pure0) fun I => ?_
  refine Run2.of I 1000 ?_
  simp -implicitDefEqProofs
  refine ⟨by omega, fun id hid => ?_⟩
  refine Run2.loop (fun i => [(0, .snap 3 (l.map T.av)), (3, .sl id 3 0 l.length (some l.length)), (4, .int .i64 (i : Nat))]) (fun i => (id, ⟨3, (l.map T.av).take i ++ List.replicate (l.length - i) tz⟩) :: h) (fun i => l.length - i) (fun i => i ≤ l.length) 0 (Nat.zero_le _) fun i hi ih => ?_
  by_cases hlt : i < l.length
  · refine Run2.of I 1000 ?_
    simp -implicitDefEqProofs [hlt]
    refine ⟨by omega, by omega, ?_⟩
    have := ih (i + 1) (by omega) (by omega)
    simpa [set_fill (l.map T.av) tz (i := i) (n := l.length) (by simp) (by simpa using hlt)] using this
  · obtain rfl : i = l.length := by omega
    refine Run2.of I 1000 ?_
    simp -implicitDefEqProofs
    refine ⟨id, hid, rfl, ?_⟩
    rw [List.take_of_length_le (by simp)]
theorem toBarS_c (l : List T) (h : Heap) (hl : l.length ≤ 1048576) : ACalls Try.prog 11 [.snap 3 (l.map T.av)] h (fun v h' => v = .snap 3 (l.map T.av) ∧ h' = h) := by
  refine ACalls.post ((toBarS_w l h hl).mono ?_)
  rintro v h' ⟨id, hid, rfl, rfl⟩
  refine .freeze id (by simp; rfl) (.base ?_)
  simp [List.take_of_length_le]
@[simp] theorem T.cold (x : T) : Go.AG.cold x.av = true := rfl
@[simp] theorem T.own (x : T) : Go.AG.own x.av = true := rfl
def marksT (k : Int) (n : Nat) : List T := (List.range n).map fun i => ⟨k + 3 * (i : Nat), k + 3 * (i : Nat) + 1, k + 3 * (i : Nat) + 1 + 1⟩
@[simp] theorem marksT_length (k : Int) (n : Nat) : (marksT k n).length = n := by simp [marksT]
theorem marksT_succ (k : Int) (n : Nat) : marksT k (n + 1) = marksT k n ++ [⟨k + 3 * n, k + 3 * n + 1, k + 3 * n + 1 + 1⟩] := by simp [marksT, List.range_succ]
theorem marksT_get (k : Int) (n i : Nat) (h : i < (marksT k n).length) : (marksT k n)[i] = ⟨k + 3 * i, k + 3 * i + 1, k + 3 * i + 1 + 1⟩ := by simp [marksT]
theorem markT_step (l : List T) (ex : List AV) (k : Int) (i : Nat) (hi : i < l.length) : ((marksT k i).map T.av ++ (l.drop i).map T.av ++ ex).set i (T.av ⟨k + 3 * i, k + 3 * i + 1, k + 3 * i + 1 + 1⟩) = (marksT k (i + 1)).map T.av ++ (l.drop (i + 1)).map T.av ++ ex := by
  rw [List.drop_eq_getElem_cons hi, marksT_succ]
  simp only [List.map_cons, List.map_append, List.map_nil, List.append_assoc, List.cons_append, List.nil_append]
  rw [List.set_append_right _ _ (by simp)]
  simp
abbrev c_laws_markBarS_o0 : List AJ := [.o ⟨(some 4), none, false, .mv (.c (.int .i64 0)), (some [0, 1])⟩]
def c_laws_markBarS_0 : ACode := .region c_laws_markBarS_o0
abbrev c_laws_markBarS_o1 : List AJ := [.o ⟨(some 5), none, false, .mv (.c (.int .i64 0)), (some [0, 1, 5])⟩]
def c_laws_markBarS_1 : ACode := .region c_laws_markBarS_o1
abbrev c_laws_markBarS_o2 : List AJ := [.o ⟨(some 6), none, false, .mv (.t 5), none⟩, .o ⟨(some 7), none, false, .mv (.t 0), none⟩, .o ⟨(some 8), none, false, .len (.t 7), none⟩, .o ⟨(some 9), none, false, .bin .lss (.t 6) (.t 8), (some [0, 1, 5, 9])⟩]
def c_laws_markBarS_2 : ACode := .region c_laws_markBarS_o2
def c_laws_markBarS_3 : ACode := .cond (.t 9) .skip (.exit 0)
def c_laws_markBarS_4 : ACode := .seq c_laws_markBarS_2 c_laws_markBarS_3
abbrev c_laws_markBarS_o3 : List AJ := [.o ⟨(some 12), none, false, .mv (.t 0), none⟩, .o ⟨(some 13), none, false, .mv (.t 5), none⟩, .o ⟨(some 14), none, false, .mv (.t 1), none⟩, .o ⟨(some 15), none, false, .idxA 3 (.t 12) (.t 13), none⟩, .o ⟨(some 16), none, false, .fieldA 0 (.t 15), none⟩, .o ⟨none, none, false, .store 1 (.t 16) (.t 14), (some [0, 1, 5])⟩]
def c_laws_markBarS_5 : ACode := .region c_laws_markBarS_o3
abbrev c_laws_markBarS_o4 : List AJ := [.o ⟨(some 17), none, false, .mv (.t 1), none⟩, .o ⟨(some 18), none, true, .bin .add (.t 17) (.c (.int .i64 1)), none⟩, .o ⟨(some 1), none, false, .mv (.t 18), (some [0, 1, 5])⟩]
def c_laws_markBarS_6 : ACode := .region c_laws_markBarS_o4
abbrev c_laws_markBarS_o5 : List AJ := [.o ⟨(some 19), none, false, .mv (.t 0), none⟩, .o ⟨(some 20), none, false, .mv (.t 5), none⟩, .o ⟨(some 21), none, false, .mv (.t 1), none⟩, .o ⟨(some 22), none, false, .idxA 3 (.t 19) (.t 20), none⟩, .o ⟨(some 23), none, false, .fieldA 1 (.t 22), none⟩, .o ⟨none, none, false, .store 1 (.t 23) (.t 21), (some [0, 1, 5])⟩]
def c_laws_markBarS_7 : ACode := .region c_laws_markBarS_o5
abbrev c_laws_markBarS_o6 : List AJ := [.o ⟨(some 24), none, false, .mv (.t 1), none⟩, .o ⟨(some 25), none, true, .bin .add (.t 24) (.c (.int .i64 1)), none⟩, .o ⟨(some 1), none, false, .mv (.t 25), (some [0, 1, 5])⟩]
def c_laws_markBarS_8 : ACode := .region c_laws_markBarS_o6
abbrev c_laws_markBarS_o7 : List AJ := [.o ⟨(some 26), none, false, .mv (.t 0), none⟩, .o ⟨(some 27), none, false, .mv (.t 5), none⟩, .o ⟨(some 28), none, false, .mv (.t 1), none⟩, .o ⟨(some 29), none, false, .idxA 3 (.t 26) (.t 27), none⟩, .o ⟨(some 30), none, false, .fieldA 2 (.t 29), none⟩, .o ⟨none, none, false, .store 1 (.t 30) (.t 28), (some [0, 1, 5])⟩]
def c_laws_markBarS_9 : ACode := .region c_laws_markBarS_o7
abbrev c_laws_markBarS_o8 : List AJ := [.o ⟨(some 31), none, false, .mv (.t 1), none⟩, .o ⟨(some 32), none, true, .bin .add (.t 31) (.c (.int .i64 1)), none⟩, .o ⟨(some 1), none, false, .mv (.t 32), (some [0, 1, 5])⟩]
def c_laws_markBarS_10 : ACode := .region c_laws_markBarS_o8
def c_laws_markBarS_11 : ACode := .seq c_laws_markBarS_9 c_laws_markBarS_10
def c_laws_markBarS_12 : ACode := .seq c_laws_markBarS_8 c_laws_markBarS_11
def c_laws_markBarS_13 : ACode := .seq c_laws_markBarS_7 c_laws_markBarS_12
def c_laws_markBarS_14 : ACode := .seq c_laws_markBarS_6 c_laws_markBarS_13
def c_laws_markBarS_15 : ACode := .seq c_laws_markBarS_5 c_laws_markBarS_14
def c_laws_markBarS_16 : ACode := .block 1 c_laws_markBarS_15
abbrev c_laws_markBarS_o9 : List AJ := [.o ⟨(some 10), none, false, .mv (.t 5), none⟩, .o ⟨(some 11), none, true, .bin .add (.t 10) (.c (.int .i64 1)), none⟩, .o ⟨(some 5), none, false, .mv (.t 11), (some [0, 1, 5])⟩]
def c_laws_markBarS_17 : ACode := .region c_laws_markBarS_o9
def c_laws_markBarS_18 : ACode := .seq c_laws_markBarS_16 c_laws_markBarS_17
def c_laws_markBarS_19 : ACode := .seq c_laws_markBarS_4 c_laws_markBarS_18
def c_laws_markBarS_20 : ACode := .loop c_laws_markBarS_19
def c_laws_markBarS_21 : ACode := .block 0 c_laws_markBarS_20
def c_laws_markBarS_22 : ACode := .seq c_laws_markBarS_1 c_laws_markBarS_21
abbrev c_laws_markBarS_o10 : List AJ := [.o ⟨(some 33), none, false, .mv (.t 1), none⟩, .o ⟨(some 4), none, false, .mv (.t 33), (some [4])⟩]
def c_laws_markBarS_23 : ACode := .region c_laws_markBarS_o10
def c_laws_markBarS_24 : ACode := .seq c_laws_markBarS_23 .ret
def c_laws_markBarS_25 : ACode := .seq c_laws_markBarS_22 c_laws_markBarS_24
def c_laws_markBarS_26 : ACode := .seq c_laws_markBarS_0 c_laws_markBarS_25
section
variable (C : Cx) (n : Nat) (sk : List AItem) (e : Env) (h : Heap) (R : AV → Heap → Prop)
@[simp, simp ↓] theorem c_laws_markBarS_0_r : vc2 C (n + 1) [] (.code c_laws_markBarS_0 :: sk) e h R = (vc2 C n c_laws_markBarS_o0 sk e h R) := nr rfl
@[simp, simp ↓] theorem c_laws_markBarS_1_r : vc2 C (n + 1) [] (.code c_laws_markBarS_1 :: sk) e h R = (vc2 C n c_laws_markBarS_o1 sk e h R) := nr rfl
@[simp, simp ↓] theorem c_laws_markBarS_2_r : vc2 C (n + 1) [] (.code c_laws_markBarS_2 :: sk) e h R = (vc2 C n c_laws_markBarS_o2 sk e h R) := nr rfl
@[simp, simp ↓] theorem c_laws_markBarS_3_r : vc2 C (n + 1) [] (.code c_laws_markBarS_3 :: sk) e h R = (condK (ev e (.t 9)) (vc2 C n [] (.code .skip :: sk) e h R) (vc2 C n [] (.code (.exit 0) :: sk) e h R)) := nr rfl
@[simp, simp ↓] theorem c_laws_markBarS_4_r : vc2 C (n + 1) [] (.code c_laws_markBarS_4 :: sk) e h R = (vc2 C n [] (.code c_laws_markBarS_2 :: .code c_laws_markBarS_3 :: sk) e h R) := nr rfl
@[simp, simp ↓] theorem c_laws_markBarS_5_r : vc2 C (n + 1) [] (.code c_laws_markBarS_5 :: sk) e h R = (vc2 C n c_laws_markBarS_o3 sk e h R) := nr rfl
@[simp, simp ↓] theorem c_laws_markBarS_6_r : vc2 C (n + 1) [] (.code c_laws_markBarS_6 :: sk) e h R = (vc2 C n c_laws_markBarS_o4 sk e h R) := nr rfl
@[simp, simp ↓] theorem c_laws_markBarS_7_r : vc2 C (n + 1) [] (.code c_laws_markBarS_7 :: sk) e h R = (vc2 C n c_laws_markBarS_o5 sk e h R) := nr rfl
@[simp, simp ↓] theorem c_laws_markBarS_8_r : vc2 C (n + 1) [] (.code c_laws_markBarS_8 :: sk) e h R = (vc2 C n c_laws_markBarS_o6 sk e h R) := nr rfl
@[simp, simp ↓] theorem c_laws_markBarS_9_r : vc2 C (n + 1) [] (.code c_laws_markBarS_9 :: sk) e h R = (vc2 C n c_laws_markBarS_o7 sk e h R) := nr rfl
@[simp, simp ↓] theorem c_laws_markBarS_10_r : vc2 C (n + 1) [] (.code c_laws_markBarS_10 :: sk) e h R = (vc2 C n c_laws_markBarS_o8 sk e h R) := nr rfl
@[simp, simp ↓] theorem c_laws_markBarS_11_r : vc2 C (n + 1) [] (.code c_laws_markBarS_11 :: sk) e h R = (vc2 C n [] (.code c_laws_markBarS_9 :: .code c_laws_markBarS_10 :: sk) e h R) := nr rfl
@[simp, simp ↓] theorem c_laws_markBarS_12_r : vc2 C (n + 1) [] (.code c_laws_markBarS_12 :: sk) e h R = (vc2 C n [] (.code c_laws_markBarS_8 :: .code c_laws_markBarS_11 :: sk) e h R) := nr rfl
@[simp, simp ↓] theorem c_laws_markBarS_13_r : vc2 C (n + 1) [] (.code c_laws_markBarS_13 :: sk) e h R = (vc2 C n [] (.code c_laws_markBarS_7 :: .code c_laws_markBarS_12 :: sk) e h R) := nr rfl
@[simp, simp ↓] theorem c_laws_markBarS_14_r : vc2 C (n + 1) [] (.code c_laws_markBarS_14 :: sk) e h R = (vc2 C n [] (.code c_laws_markBarS_6 :: .code c_laws_markBarS_13 :: sk) e h R) := nr rfl
@[simp, simp ↓] theorem c_laws_markBarS_15_r : vc2 C (n + 1) [] (.code c_laws_markBarS_15 :: sk) e h R = (vc2 C n [] (.code c_laws_markBarS_5 :: .code c_laws_markBarS_14 :: sk) e h R) := nr rfl
@[simp, simp ↓] theorem c_laws_markBarS_16_r : vc2 C (n + 1) [] (.code c_laws_markBarS_16 :: sk) e h R = (vc2 C n [] (.code c_laws_markBarS_15 :: .inBlock 1 :: sk) e h R) := nr rfl
@[simp, simp ↓] theorem c_laws_markBarS_17_r : vc2 C (n + 1) [] (.code c_laws_markBarS_17 :: sk) e h R = (vc2 C n c_laws_markBarS_o9 sk e h R) := nr rfl
@[simp, simp ↓] theorem c_laws_markBarS_18_r : vc2 C (n + 1) [] (.code c_laws_markBarS_18 :: sk) e h R = (vc2 C n [] (.code c_laws_markBarS_16 :: .code c_laws_markBarS_17 :: sk) e h R) := nr rfl
@[simp, simp ↓] theorem c_laws_markBarS_19_r : vc2 C (n + 1) [] (.code c_laws_markBarS_19 :: sk) e h R = (vc2 C n [] (.code c_laws_markBarS_4 :: .code c_laws_markBarS_18 :: sk) e h R) := nr rfl
@[simp, simp ↓] theorem c_laws_markBarS_20_r : vc2 C (n + 1) [] (.code c_laws_markBarS_20 :: sk) e h R = (Run2 C (.code c_laws_markBarS_19 :: .inLoop c_laws_markBarS_19 :: sk) e h R) := nr rfl
@[simp, simp ↓] theorem c_laws_markBarS_21_r : vc2 C (n + 1) [] (.code c_laws_markBarS_21 :: sk) e h R = (vc2 C n [] (.code c_laws_markBarS_20 :: .inBlock 0 :: sk) e h R) := nr rfl
@[simp, simp ↓] theorem c_laws_markBarS_22_r : vc2 C (n + 1) [] (.code c_laws_markBarS_22 :: sk) e h R = (vc2 C n [] (.code c_laws_markBarS_1 :: .code c_laws_markBarS_21 :: sk) e h R) := nr rfl
@[simp, simp ↓] theorem c_laws_markBarS_23_r : vc2 C (n + 1) [] (.code c_laws_markBarS_23 :: sk) e h R = (vc2 C n c_laws_markBarS_o10 sk e h R) := nr rfl
@[simp, simp ↓] theorem c_laws_markBarS_24_r : vc2 C (n + 1) [] (.code c_laws_markBarS_24 :: sk) e h R = (vc2 C n [] (.code c_laws_markBarS_23 :: .code .ret :: sk) e h R) := nr rfl
@[simp, simp ↓] theorem c_laws_markBarS_25_r : vc2 C (n + 1) [] (.code c_laws_markBarS_25 :: sk) e h R = (vc2 C n [] (.code c_laws_markBarS_22 :: .code c_laws_markBarS_24 :: sk) e h R) := nr rfl
@[simp, simp ↓] theorem c_laws_markBarS_26_r : vc2 C (n + 1) [] (.code c_laws_markBarS_26 :: sk) e h R = (vc2 C n [] (.code c_laws_markBarS_0 :: .code c_laws_markBarS_25 :: sk) e h R) := nr rfl
end
noncomputable def c_laws_markBarS_C (orc : Orc) : Cx := ⟨Try.prog, [], 21, 34, [.tmp 4], orc⟩
@[simp] theorem c_laws_markBarS_C_P (orc : Orc) : (c_laws_markBarS_C orc).P = Try.prog := nr rfl
@[simp] theorem c_laws_markBarS_C_o (orc : Orc) : (c_laws_markBarS_C orc).orc = orc := nr rfl
@[simp] theorem c_laws_markBarS_C_r (orc : Orc) : (c_laws_markBarS_C orc).res = [.tmp 4] := nr rfl
theorem c_laws_markBarS_of {args : List AV} {h : Heap} {R : AV → Heap → Prop} {k : Nat} (ha : args.length = k) {orc : Orc} (hp : Pure Try.prog orc) (hk : Is (c_laws_markBarS_C orc) Try.f21 → Run2 (c_laws_markBarS_C orc) [.code c_laws_markBarS_26] (argEnv 0 args) h (Post R)) (hle : k ≤ 34 := by simp) : ACalls Try.prog 21 args h R :=
  contract2 [] c_laws_markBarS_26 [.tmp 4] Try.func21 (by decide +kernel) rfl (by kernel_rfl) (by rw [ha]; exact hle) (by kernel_rfl) hp hk
theorem c_laws_markBarS_of0 {args : List AV} {h : Heap} {R : AV → Heap → Prop} {k : Nat} (ha : args.length = k) {orc : Orc} (hp : Pure Try.prog orc) (hk : Is (c_laws_markBarS_C orc) Try.f21 → Run2 (c_laws_markBarS_C orc) [.code c_laws_markBarS_26] (argEnv 0 args) h R) (hle : k ≤ 34 := by simp) : ACalls Try.prog 21 args h R :=
  contract20 [] c_laws_markBarS_26 [.tmp 4] Try.func21 (by decide +kernel) rfl (by kernel_rfl) (by rw [ha]; exact hle) (by kernel_rfl) hp hk
theorem markBarS_s (id : Nat) (l : List T) (ex : List AV) (cap : Option Nat) (k : Int) (hk : 0 ≤ k ∧ k ≤ 1099511627776) (hl : l.length ≤ 1073741824) : ACalls Try.prog 21 [.sl id 3 0 l.length cap, .int .i64 k] [(id, ⟨3, l.map T.av ++ ex⟩)] (fun v h' => v = .int .i64 (k + 3 * l.length) ∧ h' = [(id, ⟨3, (marksT k l.length).map T.av ++ ex⟩)]) := by
  refine c_laws_markBarS_of0 rfl noPure fun I => ?_
  refine Run2.of I 1000 ?_
  simp -implicitDefEqProofs
  obtain ⟨f, hf0, hfn, hlen, hset, hget⟩ : ∃ f : Nat → List AV, l.map T.av ++ ex = f 0 ∧ (marksT k l.length).map T.av ++ ex = f l.length ∧ (∀ i, i ≤ l.length → (f i).length = l.length + ex.length) ∧ (∀ i, i < l.length → (f i).set i (T.av ⟨k + 3 * i, k + 3 * i + 1, k + 3 * i + 1 + 1⟩) = f (i + 1)) ∧ ∀ i, (hi : i < l.length) → (f i)[i]? = some l[i].av :=
    ⟨fun i => (marksT k i).map T.av ++ (l.drop i).map T.av ++ ex, by simp [marksT], by simp, fun i hi => by simp; omega, fun i hi => markT_step l ex k i hi, fun i hi => by
      show ((marksT k i).map T.av ++ (l.drop i).map T.av ++ ex)[i]? = _
      rw [List.append_assoc, List.getElem?_append_right (by simp)]
      rw [show i - ((marksT k i).map T.av).length = 0 by simp, List.drop_eq_getElem_cons hi]; rfl⟩
  have hz : l.map (fun x : T => AV.agg [.int .i64 x.f, .int .i64 x.t, .int .i64 x.s]) = l.map T.av := rfl
  rw [hf0, hfn]
  refine Run2.loopE (fun i => [(0, .sl id 3 0 l.length cap), (1, .int .i64 (k + 3 * (i : Nat))), (5, .int .i64 (i : Nat))]) (fun i => [(id, ⟨3, f i⟩)]) (fun i => l.length - i) (fun i => i ≤ l.length) 0 (by simp) rfl (Nat.zero_le _) fun i hi ih => ?_
  by_cases hlt : i < l.length
  · have go := ih (i + 1) (by omega) (by omega)
    have hl2 := hlen i hi
    have hg := hget i hlt
    have hlf : i < (f i).length := by omega
    have hs := hset i hlt
    clear ih
    refine Run2.of I 1000 ?_
    have hsg : ∀ A, ((f i).set i A)[i]? = some A := fun A => List.getElem?_set_self hlf
    simp -implicitDefEqProofs [hlt, hl2, hg, hsg]
    simp at hs
    rw [hs]
    refine ⟨by omega, by omega, by omega, by omega, ?_⟩
    have e : k + 3 * ((i + 1 : Nat) : Int) = k + 3 * i + 1 + 1 + 1 := by omega
    rw [e] at go
    simpa using go
  · obtain rfl : i = l.length := by omega
    refine Run2.of I 1000 ?_
    simp -implicitDefEqProofs
theorem markBarS_o {v : AV} {l : List T} {hs : Heap} (ho : OwnL T.av 3 v l hs) (k : Int) (hk : 0 ≤ k ∧ k ≤ 1099511627776) (hl : l.length ≤ 1073741824) : ACalls Try.prog 21 [v, .int .i64 k] hs (fun r h' => r = .int .i64 (k + 3 * l.length) ∧ OwnL T.av 3 v (marksT k l.length) h') := by
  have nil : ∀ u, (u = AV.nilsl ∨ u = .emp) → ACalls Try.prog 21 [u, .int .i64 k] [] (fun r h' => r = .int .i64 (k + 3 * ([] : List T).length) ∧ OwnL T.av 3 u (marksT k 0) h') := by
    rintro u (rfl | rfl)
    all_goals
      refine c_laws_markBarS_of0 rfl noPure fun I => ?_
      refine Run2.of I 1000 ?_
      simp -implicitDefEqProofs
      refine Run2.loopE (fun (_ : Unit) => [(0, _), (1, .int .i64 k), (5, .int .i64 0)]) (fun _ => []) (fun _ => 0) (fun _ => True) () (by rfl) rfl trivial fun _ _ _ => ?_
      refine Run2.of I 1000 ?_
      simp -implicitDefEqProofs
      constructor
  cases ho with
  | nil => exact nil _ (.inl rfl)
  | emp => exact nil _ (.inr rfl)
  | sl id cap ex hex =>
    refine (markBarS_s id l ex cap k hk hl).mono ?_
    rintro r h' ⟨rfl, rfl⟩
    refine ⟨rfl, ?_⟩
    have := OwnL.sl (enc := T.av) (sz := 3) (l := marksT k l.length) id cap ex hex
    rwa [marksT_length] at this
abbrev c_laws_heldBarS_o0 : List AJ := [.o ⟨(some 4), none, false, .mv (.c (.int .i64 0)), (some [0, 1])⟩]
def c_laws_heldBarS_0 : ACode := .region c_laws_heldBarS_o0
abbrev c_laws_heldBarS_o1 : List AJ := [.o ⟨(some 5), none, false, .mv (.c (.int .i64 0)), (some [0, 1, 5])⟩]
def c_laws_heldBarS_1 : ACode := .region c_laws_heldBarS_o1
abbrev c_laws_heldBarS_o2 : List AJ := [.o ⟨(some 6), none, false, .mv (.t 5), none⟩, .o ⟨(some 7), none, false, .mv (.t 0), none⟩, .o ⟨(some 8), none, false, .len (.t 7), none⟩, .o ⟨(some 9), none, false, .bin .lss (.t 6) (.t 8), (some [0, 1, 5, 9])⟩]
def c_laws_heldBarS_2 : ACode := .region c_laws_heldBarS_o2
def c_laws_heldBarS_3 : ACode := .cond (.t 9) .skip (.exit 0)
def c_laws_heldBarS_4 : ACode := .seq c_laws_heldBarS_2 c_laws_heldBarS_3
abbrev c_laws_heldBarS_o3 : List AJ := [.o ⟨(some 12), none, false, .mv (.t 0), none⟩, .o ⟨(some 13), none, false, .mv (.t 5), none⟩, .o ⟨(some 14), none, false, .idxA 3 (.t 12) (.t 13), none⟩, .o ⟨(some 15), none, false, .fieldA 0 (.t 14), none⟩, .o ⟨(some 16), none, false, .load 1 false (.t 15), none⟩, .o ⟨(some 17), none, false, .mv (.t 1), none⟩, .o ⟨(some 18), none, false, .bin .neq (.t 16) (.t 17), (some [0, 1, 5, 18])⟩]
def c_laws_heldBarS_5 : ACode := .region c_laws_heldBarS_o3
abbrev c_laws_heldBarS_o4 : List AJ := [.o ⟨(some 4), none, false, .mv (.c (.int .i64 (-1))), (some [4])⟩]
def c_laws_heldBarS_6 : ACode := .region c_laws_heldBarS_o4
def c_laws_heldBarS_7 : ACode := .seq c_laws_heldBarS_6 .ret
def c_laws_heldBarS_8 : ACode := .cond (.t 18) c_laws_heldBarS_7 .skip
def c_laws_heldBarS_9 : ACode := .seq c_laws_heldBarS_5 c_laws_heldBarS_8
abbrev c_laws_heldBarS_o5 : List AJ := [.o ⟨(some 19), none, false, .mv (.t 1), none⟩, .o ⟨(some 20), none, true, .bin .add (.t 19) (.c (.int .i64 1)), none⟩, .o ⟨(some 1), none, false, .mv (.t 20), (some [0, 1, 5])⟩]
def c_laws_heldBarS_10 : ACode := .region c_laws_heldBarS_o5
abbrev c_laws_heldBarS_o6 : List AJ := [.o ⟨(some 21), none, false, .mv (.t 0), none⟩, .o ⟨(some 22), none, false, .mv (.t 5), none⟩, .o ⟨(some 23), none, false, .idxA 3 (.t 21) (.t 22), none⟩, .o ⟨(some 24), none, false, .fieldA 1 (.t 23), none⟩, .o ⟨(some 25), none, false, .load 1 false (.t 24), none⟩, .o ⟨(some 26), none, false, .mv (.t 1), none⟩, .o ⟨(some 27), none, false, .bin .neq (.t 25) (.t 26), (some [0, 1, 5, 27])⟩]
def c_laws_heldBarS_11 : ACode := .region c_laws_heldBarS_o6
abbrev c_laws_heldBarS_o7 : List AJ := [.o ⟨(some 4), none, false, .mv (.c (.int .i64 (-1))), (some [4])⟩]
def c_laws_heldBarS_12 : ACode := .region c_laws_heldBarS_o7
def c_laws_heldBarS_13 : ACode := .seq c_laws_heldBarS_12 .ret
def c_laws_heldBarS_14 : ACode := .cond (.t 27) c_laws_heldBarS_13 .skip
def c_laws_heldBarS_15 : ACode := .seq c_laws_heldBarS_11 c_laws_heldBarS_14
abbrev c_laws_heldBarS_o8 : List AJ := [.o ⟨(some 28), none, false, .mv (.t 1), none⟩, .o ⟨(some 29), none, true, .bin .add (.t 28) (.c (.int .i64 1)), none⟩, .o ⟨(some 1), none, false, .mv (.t 29), (some [0, 1, 5])⟩]
def c_laws_heldBarS_16 : ACode := .region c_laws_heldBarS_o8
abbrev c_laws_heldBarS_o9 : List AJ := [.o ⟨(some 30), none, false, .mv (.t 0), none⟩, .o ⟨(some 31), none, false, .mv (.t 5), none⟩, .o ⟨(some 32), none, false, .idxA 3 (.t 30) (.t 31), none⟩, .o ⟨(some 33), none, false, .fieldA 2 (.t 32), none⟩, .o ⟨(some 34), none, false, .load 1 false (.t 33), none⟩, .o ⟨(some 35), none, false, .mv (.t 1), none⟩, .o ⟨(some 36), none, false, .bin .neq (.t 34) (.t 35), (some [0, 1, 5, 36])⟩]
def c_laws_heldBarS_17 : ACode := .region c_laws_heldBarS_o9
abbrev c_laws_heldBarS_o10 : List AJ := [.o ⟨(some 4), none, false, .mv (.c (.int .i64 (-1))), (some [4])⟩]
def c_laws_heldBarS_18 : ACode := .region c_laws_heldBarS_o10
def c_laws_heldBarS_19 : ACode := .seq c_laws_heldBarS_18 .ret
def c_laws_heldBarS_20 : ACode := .cond (.t 36) c_laws_heldBarS_19 .skip
def c_laws_heldBarS_21 : ACode := .seq c_laws_heldBarS_17 c_laws_heldBarS_20
abbrev c_laws_heldBarS_o11 : List AJ := [.o ⟨(some 37), none, false, .mv (.t 1), none⟩, .o ⟨(some 38), none, true, .bin .add (.t 37) (.c (.int .i64 1)), none⟩, .o ⟨(some 1), none, false, .mv (.t 38), (some [0, 1, 5])⟩]
def c_laws_heldBarS_22 : ACode := .region c_laws_heldBarS_o11
def c_laws_heldBarS_23 : ACode := .seq c_laws_heldBarS_21 c_laws_heldBarS_22
def c_laws_heldBarS_24 : ACode := .seq c_laws_heldBarS_16 c_laws_heldBarS_23
def c_laws_heldBarS_25 : ACode := .seq c_laws_heldBarS_15 c_laws_heldBarS_24
def c_laws_heldBarS_26 : ACode := .seq c_laws_heldBarS_10 c_laws_heldBarS_25
def c_laws_heldBarS_27 : ACode := .seq c_laws_heldBarS_9 c_laws_heldBarS_26
def c_laws_heldBarS_28 : ACode := .block 1 c_laws_heldBarS_27
abbrev c_laws_heldBarS_o12 : List AJ := [.o ⟨(some 10), none, false, .mv (.t 5), none⟩, .o ⟨(some 11), none, true, .bin .add (.t 10) (.c (.int .i64 1)), none⟩, .o ⟨(some 5), none, false, .mv (.t 11), (some [0, 1, 5])⟩]
def c_laws_heldBarS_29 : ACode := .region c_laws_heldBarS_o12
def c_laws_heldBarS_30 : ACode := .seq c_laws_heldBarS_28 c_laws_heldBarS_29
def c_laws_heldBarS_31 : ACode := .seq c_laws_heldBarS_4 c_laws_heldBarS_30
def c_laws_heldBarS_32 : ACode := .loop c_laws_heldBarS_31
def c_laws_heldBarS_33 : ACode := .block 0 c_laws_heldBarS_32
def c_laws_heldBarS_34 : ACode := .seq c_laws_heldBarS_1 c_laws_heldBarS_33
abbrev c_laws_heldBarS_o13 : List AJ := [.o ⟨(some 39), none, false, .mv (.t 1), none⟩, .o ⟨(some 4), none, false, .mv (.t 39), (some [4])⟩]
def c_laws_heldBarS_35 : ACode := .region c_laws_heldBarS_o13
def c_laws_heldBarS_36 : ACode := .seq c_laws_heldBarS_35 .ret
def c_laws_heldBarS_37 : ACode := .seq c_laws_heldBarS_34 c_laws_heldBarS_36
def c_laws_heldBarS_38 : ACode := .seq c_laws_heldBarS_0 c_laws_heldBarS_37
section
variable (C : Cx) (n : Nat) (sk : List AItem) (e : Env) (h : Heap) (R : AV → Heap → Prop)
@[simp, simp ↓] theorem c_laws_heldBarS_0_r : vc2 C (n + 1) [] (.code c_laws_heldBarS_0 :: sk) e h R = (vc2 C n c_laws_heldBarS_o0 sk e h R) := nr rfl
@[simp, simp ↓] theorem c_laws_heldBarS_1_r : vc2 C (n + 1) [] (.code c_laws_heldBarS_1 :: sk) e h R = (vc2 C n c_laws_heldBarS_o1 sk e h R) := nr rfl
@[simp, simp ↓] theorem c_laws_heldBarS_2_r : vc2 C (n + 1) [] (.code c_laws_heldBarS_2 :: sk) e h R = (vc2 C n c_laws_heldBarS_o2 sk e h R) := nr rfl
@[simp, simp ↓] theorem c_laws_heldBarS_3_r : vc2 C (n + 1) [] (.code c_laws_heldBarS_3 :: sk) e h R = (condK (ev e (.t 9)) (vc2 C n [] (.code .skip :: sk) e h R) (vc2 C n [] (.code (.exit 0) :: sk) e h R)) := nr rfl
@[simp, simp ↓] theorem c_laws_heldBarS_4_r : vc2 C (n + 1) [] (.code c_laws_heldBarS_4 :: sk) e h R = (vc2 C n [] (.code c_laws_heldBarS_2 :: .code c_laws_heldBarS_3 :: sk) e h R) := nr rfl
@[simp, simp ↓] theorem c_laws_heldBarS_5_r : vc2 C (n + 1) [] (.code c_laws_heldBarS_5 :: sk) e h R = (vc2 C n c_laws_heldBarS_o3 sk e h R) := nr rfl
@[simp, simp ↓] theorem c_laws_heldBarS_6_r : vc2 C (n + 1) [] (.code c_laws_heldBarS_6 :: sk) e h R = (vc2 C n c_laws_heldBarS_o4 sk e h R) := nr rfl
@[simp, simp ↓] theorem c_laws_heldBarS_7_r : vc2 C (n + 1) [] (.code c_laws_heldBarS_7 :: sk) e h R = (vc2 C n [] (.code c_laws_heldBarS_6 :: .code .ret :: sk) e h R) := nr rfl
@[simp, simp ↓] theorem c_laws_heldBarS_8_r : vc2 C (n + 1) [] (.code c_laws_heldBarS_8 :: sk) e h R = (condK (ev e (.t 18)) (vc2 C n [] (.code c_laws_heldBarS_7 :: sk) e h R) (vc2 C n [] (.code .skip :: sk) e h R)) := nr rfl
@[simp, simp ↓] theorem c_laws_heldBarS_9_r : vc2 C (n + 1) [] (.code c_laws_heldBarS_9 :: sk) e h R = (vc2 C n [] (.code c_laws_heldBarS_5 :: .code c_laws_heldBarS_8 :: sk) e h R) := nr rfl
@[simp, simp ↓] theorem c_laws_heldBarS_10_r : vc2 C (n + 1) [] (.code c_laws_heldBarS_10 :: sk) e h R = (vc2 C n c_laws_heldBarS_o5 sk e h R) := nr rfl
@[simp, simp ↓] theorem c_laws_heldBarS_11_r : vc2 C (n + 1) [] (.code c_laws_heldBarS_11 :: sk) e h R = (vc2 C n c_laws_heldBarS_o6 sk e h R) := nr rfl
@[simp, simp ↓] theorem c_laws_heldBarS_12_r : vc2 C (n + 1) [] (.code c_laws_heldBarS_12 :: sk) e h R = (vc2 C n c_laws_heldBarS_o7 sk e h R) := nr rfl
@[simp, simp ↓] theorem c_laws_heldBarS_13_r : vc2 C (n + 1) [] (.code c_laws_heldBarS_13 :: sk) e h R = (vc2 C n [] (.code c_laws_heldBarS_12 :: .code .ret :: sk) e h R) := nr rfl
@[simp, simp ↓] theorem c_laws_heldBarS_14_r : vc2 C (n + 1) [] (.code c_laws_heldBarS_14 :: sk) e h R = (condK (ev e (.t 27)) (vc2 C n [] (.code c_laws_heldBarS_13 :: sk) e h R) (vc2 C n [] (.code .skip :: sk) e h R)) := nr rfl
@[simp, simp ↓] theorem c_laws_heldBarS_15_r : vc2 C (n + 1) [] (.code c_laws_heldBarS_15 :: sk) e h R = (vc2 C n [] (.code c_laws_heldBarS_11 :: .code c_laws_heldBarS_14 :: sk) e h R) := nr rfl
@[simp, simp ↓] theorem c_laws_heldBarS_16_r : vc2 C (n + 1) [] (.code c_laws_heldBarS_16 :: sk) e h R = (vc2 C n c_laws_heldBarS_o8 sk e h R) := nr rfl
@[simp, simp ↓] theorem c_laws_heldBarS_17_r : vc2 C (n + 1) [] (.code c_laws_heldBarS_17 :: sk) e h R = (vc2 C n c_laws_heldBarS_o9 sk e h R) := nr rfl
@[simp, simp ↓] theorem c_laws_heldBarS_18_r : vc2 C (n + 1) [] (.code c_laws_heldBarS_18 :: sk) e h R = (vc2 C n c_laws_heldBarS_o10 sk e h R) := nr rfl
@[simp, simp ↓] theorem c_laws_heldBarS_19_r : vc2 C (n + 1) [] (.code c_laws_heldBarS_19 :: sk) e h R = (vc2 C n [] (.code c_laws_heldBarS_18 :: .code .ret :: sk) e h R) := nr rfl
@[simp, simp ↓] theorem c_laws_heldBarS_20_r : vc2 C (n + 1) [] (.code c_laws_heldBarS_20 :: sk) e h R = (condK (ev e (.t 36)) (vc2 C n [] (.code c_laws_heldBarS_19 :: sk) e h R) (vc2 C n [] (.code .skip :: sk) e h R)) := nr rfl
@[simp, simp ↓] theorem c_laws_heldBarS_21_r : vc2 C (n + 1) [] (.code c_laws_heldBarS_21 :: sk) e h R = (vc2 C n [] (.code c_laws_heldBarS_17 :: .code c_laws_heldBarS_20 :: sk) e h R) := nr rfl
@[simp, simp ↓] theorem c_laws_heldBarS_22_r : vc2 C (n + 1) [] (.code c_laws_heldBarS_22 :: sk) e h R = (vc2 C n c_laws_heldBarS_o11 sk e h R) := nr rfl
@[simp, simp ↓] theorem c_laws_heldBarS_23_r : vc2 C (n + 1) [] (.code c_laws_heldBarS_23 :: sk) e h R = (vc2 C n [] (.code c_laws_heldBarS_21 :: .code c_laws_heldBarS_22 :: sk) e h R) := nr rfl
@[simp, simp ↓] theorem c_laws_heldBarS_24_r : vc2 C (n + 1) [] (.code c_laws_heldBarS_24 :: sk) e h R = (vc2 C n [] (.code c_laws_heldBarS_16 :: .code c_laws_heldBarS_23 :: sk) e h R) := nr rfl
@[simp, simp ↓] theorem c_laws_heldBarS_25_r : vc2 C (n + 1) [] (.code c_laws_heldBarS_25 :: sk) e h R = (vc2 C n [] (.code c_laws_heldBarS_15 :: .code c_laws_heldBarS_24 :: sk) e h R) := nr rfl
@[simp, simp ↓] theorem c_laws_heldBarS_26_r : vc2 C (n + 1) [] (.code c_laws_heldBarS_26 :: sk) e h R = (vc2 C n [] (.code c_laws_heldBarS_10 :: .code c_laws_heldBarS_25 :: sk) e h R) := nr rfl
@[simp, simp ↓] theorem c_laws_heldBarS_27_r : vc2 C (n + 1) [] (.code c_laws_heldBarS_27 :: sk) e h R = (vc2 C n [] (.code c_laws_heldBarS_9 :: .code c_laws_heldBarS_26 :: sk) e h R) := nr rfl
@[simp, simp ↓] theorem c_laws_heldBarS_28_r : vc2 C (n + 1) [] (.code c_laws_heldBarS_28 :: sk) e h R = (vc2 C n [] (.code c_laws_heldBarS_27 :: .inBlock 1 :: sk) e h R) := nr rfl
@[simp, simp ↓] theorem c_laws_heldBarS_29_r : vc2 C (n + 1) [] (.code c_laws_heldBarS_29 :: sk) e h R = (vc2 C n c_laws_heldBarS_o12 sk e h R) := nr rfl
@[simp, simp ↓] theorem c_laws_heldBarS_30_r : vc2 C (n + 1) [] (.code c_laws_heldBarS_30 :: sk) e h R = (vc2 C n [] (.code c_laws_heldBarS_28 :: .code c_laws_heldBarS_29 :: sk) e h R) := nr rfl
@[simp, simp ↓] theorem c_laws_heldBarS_31_r : vc2 C (n + 1) [] (.code c_laws_heldBarS_31 :: sk) e h R = (vc2 C n [] (.code c_laws_heldBarS_4 :: .code c_laws_heldBarS_30 :: sk) e h R) := nr rfl
@[simp, simp ↓] theorem c_laws_heldBarS_32_r : vc2 C (n + 1) [] (.code c_laws_heldBarS_32 :: sk) e h R = (Run2 C (.code c_laws_heldBarS_31 :: .inLoop c_laws_heldBarS_31 :: sk) e h R) := nr rfl
@[simp, simp ↓] theorem c_laws_heldBarS_33_r : vc2 C (n + 1) [] (.code c_laws_heldBarS_33 :: sk) e h R = (vc2 C n [] (.code c_laws_heldBarS_32 :: .inBlock 0 :: sk) e h R) := nr rfl
@[simp, simp ↓] theorem c_laws_heldBarS_34_r : vc2 C (n + 1) [] (.code c_laws_heldBarS_34 :: sk) e h R = (vc2 C n [] (.code c_laws_heldBarS_1 :: .code c_laws_heldBarS_33 :: sk) e h R) := nr rfl
@[simp, simp ↓] theorem c_laws_heldBarS_35_r : vc2 C (n + 1) [] (.code c_laws_heldBarS_35 :: sk) e h R = (vc2 C n c_laws_heldBarS_o13 sk e h R) := nr rfl
@[simp, simp ↓] theorem c_laws_heldBarS_36_r : vc2 C (n + 1) [] (.code c_laws_heldBarS_36 :: sk) e h R = (vc2 C n [] (.code c_laws_heldBarS_35 :: .code .ret :: sk) e h R) := nr rfl
@[simp, simp ↓] theorem c_laws_heldBarS_37_r : vc2 C (n + 1) [] (.code c_laws_heldBarS_37 :: sk) e h R = (vc2 C n [] (.code c_laws_heldBarS_34 :: .code c_laws_heldBarS_36 :: sk) e h R) := nr rfl
@[simp, simp ↓] theorem c_laws_heldBarS_38_r : vc2 C (n + 1) [] (.code c_laws_heldBarS_38 :: sk) e h R = (vc2 C n [] (.code c_laws_heldBarS_0 :: .code c_laws_heldBarS_37 :: sk) e h R) := nr rfl
end
noncomputable def c_laws_heldBarS_C (orc : Orc) : Cx := ⟨Try.prog, [], 22, 40, [.tmp 4], orc⟩
@[simp] theorem c_laws_heldBarS_C_P (orc : Orc) : (c_laws_heldBarS_C orc).P = Try.prog := nr rfl
@[simp] theorem c_laws_heldBarS_C_o (orc : Orc) : (c_laws_heldBarS_C orc).orc = orc := nr rfl
@[simp] theorem c_laws_heldBarS_C_r (orc : Orc) : (c_laws_heldBarS_C orc).res = [.tmp 4] := nr rfl
theorem c_laws_heldBarS_of {args : List AV} {h : Heap} {R : AV → Heap → Prop} {k : Nat} (ha : args.length = k) {orc : Orc} (hp : Pure Try.prog orc) (hk : Is (c_laws_heldBarS_C orc) Try.f22 → Run2 (c_laws_heldBarS_C orc) [.code c_laws_heldBarS_38] (argEnv 0 args) h (Post R)) (hle : k ≤ 40 := by simp) : ACalls Try.prog 22 args h R :=
  contract2 [] c_laws_heldBarS_38 [.tmp 4] Try.func22 (by decide +kernel) rfl (by kernel_rfl) (by rw [ha]; exact hle) (by kernel_rfl) hp hk
theorem c_laws_heldBarS_of0 {args : List AV} {h : Heap} {R : AV → Heap → Prop} {k : Nat} (ha : args.length = k) {orc : Orc} (hp : Pure Try.prog orc) (hk : Is (c_laws_heldBarS_C orc) Try.f22 → Run2 (c_laws_heldBarS_C orc) [.code c_laws_heldBarS_38] (argEnv 0 args) h R) (hle : k ≤ 40 := by simp) : ACalls Try.prog 22 args h R :=
  contract20 [] c_laws_heldBarS_38 [.tmp 4] Try.func22 (by decide +kernel) rfl (by kernel_rfl) (by rw [ha]; exact hle) (by kernel_rfl) hp hk
theorem heldBarS_s (l : List T) (k : Int) (h : Heap) (hk : 0 ≤ k ∧ k ≤ 1099511627776) (hl : l.length ≤ 1073741824) : ACalls Try.prog 22 [.snap 3 (l.map T.av), .int .i64 k] h (fun v h' => v = .int .i64 (if l = marksT k l.length then k + 3 * l.length else -1) ∧ h' = h) := by
  refine c_laws_heldBarS_of0 rfl noPure fun I => ?_
  refine Run2.of I 1000 ?_
  simp -implicitDefEqProofs
  refine Run2.loopE (fun i => [(0, .snap 3 (l.map T.av)), (1, .int .i64 (k + 3 * (i : Nat))), (5, .int .i64 (i : Nat))]) (fun i => h) (fun i => l.length - i) (fun i => i ≤ l.length ∧ l.take i = marksT k i) 0 (by simp) rfl (by simp [marksT]) fun i hi ih => ?_
  by_cases hlt : i < l.length
  · have hbad : ¬ l[i] = ⟨k + 3 * i, k + 3 * i + 1, k + 3 * i + 1 + 1⟩ → ¬ l = marksT k l.length := fun h1 h2 => h1 (by
      have : l[i] = (marksT k l.length)[i]'(by simpa using hlt) := by congr 1
      rw [this, marksT_get])
    have go := fun (h1 : l[i] = ⟨k + 3 * i, k + 3 * i + 1, k + 3 * i + 1 + 1⟩) => ih (i + 1) ⟨by omega, by rw [List.take_succ_eq_append_getElem hlt, marksT_succ, hi.2, h1]⟩ (by omega)
    have e : k + 3 * ((i + 1 : Nat) : Int) = k + 3 * i + 1 + 1 + 1 := by omega
    rw [e] at go
    clear ih
    refine Run2.of I 1000 ?_
    simp -implicitDefEqProofs [hlt]
    repeat' (first | refine And.intro ?_ ?_ | intro _)
    all_goals first | omega | skip
    · exact absurd ‹l = _› (hbad fun h => by have h1 := congrArg T.f h; have h2 := congrArg T.t h; have h3 := congrArg T.s h; simp only at h1 h2 h3; omega)
    · exact absurd ‹l = _› (hbad fun h => by have h1 := congrArg T.f h; have h2 := congrArg T.t h; have h3 := congrArg T.s h; simp only at h1 h2 h3; omega)
    · exact absurd ‹l = _› (hbad fun h => by have h1 := congrArg T.f h; have h2 := congrArg T.t h; have h3 := congrArg T.s h; simp only at h1 h2 h3; omega)
    · simpa using go (T.ext' ‹_› ‹_› ‹_›)
  · obtain rfl : i = l.length := by omega
    have h2 := hi.2
    rw [List.take_length] at h2
    refine Run2.of I 1000 ?_
    simp -implicitDefEqProofs
    exact fun h => absurd h2 h
theorem heldBarS_c {u : AV} {l : List T} (hu : IsL T.av 3 u l) (k : Int) (h : Heap) (hk : 0 ≤ k ∧ k ≤ 1099511627776) (hl : l.length ≤ 1073741824) : ACalls Try.prog 22 [u, .int .i64 k] h (fun v h' => v = .int .i64 (if l = marksT k l.length then k + 3 * l.length else -1) ∧ h' = h) :=
  (heldBarS_s _ k h hk hl).wk (.cons hu.wk (.refl _))
abbrev c_laws_szBarS_o0 : List AJ := [.o ⟨(some 4), none, false, .mv (.c (.int .i64 0)), (some [0, 1])⟩]
def c_laws_szBarS_0 : ACode := .region c_laws_szBarS_o0
abbrev c_laws_szBarS_o1 : List AJ := [.o ⟨(some 5), none, false, .mv (.t 1), none⟩, .o ⟨(some 6), none, false, .mv (.t 0), none⟩, .o ⟨(some 7), none, false, .len (.t 6), none⟩, .o ⟨(some 8), none, true, .bin .sub (.t 5) (.t 7), none⟩, .o ⟨(some 1), none, false, .mv (.t 8), (some [1])⟩]
def c_laws_szBarS_1 : ACode := .region c_laws_szBarS_o1
abbrev c_laws_szBarS_o2 : List AJ := [.o ⟨(some 9), none, false, .mv (.t 1), none⟩, .o ⟨(some 10), none, false, .bin .lss (.t 9) (.c (.int .i64 0)), (some [1, 10])⟩]
def c_laws_szBarS_2 : ACode := .region c_laws_szBarS_o2
abbrev c_laws_szBarS_o3 : List AJ := [.o ⟨(some 4), none, false, .mv (.c (.int .i64 (-1))), (some [4])⟩]
def c_laws_szBarS_3 : ACode := .region c_laws_szBarS_o3
def c_laws_szBarS_4 : ACode := .seq c_laws_szBarS_3 .ret
def c_laws_szBarS_5 : ACode := .cond (.t 10) c_laws_szBarS_4 .skip
def c_laws_szBarS_6 : ACode := .seq c_laws_szBarS_2 c_laws_szBarS_5
abbrev c_laws_szBarS_o4 : List AJ := [.o ⟨(some 11), none, false, .mv (.t 1), none⟩, .o ⟨(some 4), none, false, .mv (.t 11), (some [4])⟩]
def c_laws_szBarS_7 : ACode := .region c_laws_szBarS_o4
def c_laws_szBarS_8 : ACode := .seq c_laws_szBarS_7 .ret
def c_laws_szBarS_9 : ACode := .seq c_laws_szBarS_6 c_laws_szBarS_8
def c_laws_szBarS_10 : ACode := .seq c_laws_szBarS_1 c_laws_szBarS_9
def c_laws_szBarS_11 : ACode := .seq c_laws_szBarS_0 c_laws_szBarS_10
section
variable (C : Cx) (n : Nat) (sk : List AItem) (e : Env) (h : Heap) (R : AV → Heap → Prop)
@[simp, simp ↓] theorem c_laws_szBarS_0_r : vc2 C (n + 1) [] (.code c_laws_szBarS_0 :: sk) e h R = (vc2 C n c_laws_szBarS_o0 sk e h R) := nr rfl
@[simp, simp ↓] theorem c_laws_szBarS_1_r : vc2 C (n + 1) [] (.code c_laws_szBarS_1 :: sk) e h R = (vc2 C n c_laws_szBarS_o1 sk e h R) := nr rfl
@[simp, simp ↓] theorem c_laws_szBarS_2_r : vc2 C (n + 1) [] (.code c_laws_szBarS_2 :: sk) e h R = (vc2 C n c_laws_szBarS_o2 sk e h R) := nr rfl
@[simp, simp ↓] theorem c_laws_szBarS_3_r : vc2 C (n + 1) [] (.code c_laws_szBarS_3 :: sk) e h R = (vc2 C n c_laws_szBarS_o3 sk e h R) := nr rfl
@[simp, simp ↓] theorem c_laws_szBarS_4_r : vc2 C (n + 1) [] (.code c_laws_szBarS_4 :: sk) e h R = (vc2 C n [] (.code c_laws_szBarS_3 :: .code .ret :: sk) e h R) := nr rfl
@[simp, simp ↓] theorem c_laws_szBarS_5_r : vc2 C (n + 1) [] (.code c_laws_szBarS_5 :: sk) e h R = (condK (ev e (.t 10)) (vc2 C n [] (.code c_laws_szBarS_4 :: sk) e h R) (vc2 C n [] (.code .skip :: sk) e h R)) := nr rfl
@[simp, simp ↓] theorem c_laws_szBarS_6_r : vc2 C (n + 1) [] (.code c_laws_szBarS_6 :: sk) e h R = (vc2 C n [] (.code c_laws_szBarS_2 :: .code c_laws_szBarS_5 :: sk) e h R) := nr rfl
@[simp, simp ↓] theorem c_laws_szBarS_7_r : vc2 C (n + 1) [] (.code c_laws_szBarS_7 :: sk) e h R = (vc2 C n c_laws_szBarS_o4 sk e h R) := nr rfl
@[simp, simp ↓] theorem c_laws_szBarS_8_r : vc2 C (n + 1) [] (.code c_laws_szBarS_8 :: sk) e h R = (vc2 C n [] (.code c_laws_szBarS_7 :: .code .ret :: sk) e h R) := nr rfl
@[simp, simp ↓] theorem c_laws_szBarS_9_r : vc2 C (n + 1) [] (.code c_laws_szBarS_9 :: sk) e h R = (vc2 C n [] (.code c_laws_szBarS_6 :: .code c_laws_szBarS_8 :: sk) e h R) := nr rfl
@[simp, simp ↓] theorem c_laws_szBarS_10_r : vc2 C (n + 1) [] (.code c_laws_szBarS_10 :: sk) e h R = (vc2 C n [] (.code c_laws_szBarS_1 :: .code c_laws_szBarS_9 :: sk) e h R) := nr rfl
@[simp, simp ↓] theorem c_laws_szBarS_11_r : vc2 C (n + 1) [] (.code c_laws_szBarS_11 :: sk) e h R = (vc2 C n [] (.code c_laws_szBarS_0 :: .code c_laws_szBarS_10 :: sk) e h R) := nr rfl
end
noncomputable def c_laws_szBarS_C (orc : Orc) : Cx := ⟨Try.prog, [], 9, 12, [.tmp 4], orc⟩
@[simp] theorem c_laws_szBarS_C_P (orc : Orc) : (c_laws_szBarS_C orc).P = Try.prog := nr rfl
@[simp] theorem c_laws_szBarS_C_o (orc : Orc) : (c_laws_szBarS_C orc).orc = orc := nr rfl
@[simp] theorem c_laws_szBarS_C_r (orc : Orc) : (c_laws_szBarS_C orc).res = [.tmp 4] := nr rfl
theorem c_laws_szBarS_of {args : List AV} {h : Heap} {R : AV → Heap → Prop} {k : Nat} (ha : args.length = k) {orc : Orc} (hp : Pure Try.prog orc) (hk : Is (c_laws_szBarS_C orc) Try.f9 → Run2 (c_laws_szBarS_C orc) [.code c_laws_szBarS_11] (argEnv 0 args) h (Post R)) (hle : k ≤ 12 := by simp) : ACalls Try.prog 9 args h R :=
  contract2 [] c_laws_szBarS_11 [.tmp 4] Try.func9 (by decide +kernel) rfl (by kernel_rfl) (by rw [ha]; exact hle) (by kernel_rfl) hp hk
theorem c_laws_szBarS_of0 {args : List AV} {h : Heap} {R : AV → Heap → Prop} {k : Nat} (ha : args.length = k) {orc : Orc} (hp : Pure Try.prog orc) (hk : Is (c_laws_szBarS_C orc) Try.f9 → Run2 (c_laws_szBarS_C orc) [.code c_laws_szBarS_11] (argEnv 0 args) h R) (hle : k ≤ 12 := by simp) : ACalls Try.prog 9 args h R :=
  contract20 [] c_laws_szBarS_11 [.tmp 4] Try.func9 (by decide +kernel) rfl (by kernel_rfl) (by rw [ha]; exact hle) (by kernel_rfl) hp hk
theorem szBarS_c (l : List T) (n : Int) (h : Heap) (hn : 0 ≤ n ∧ n ≤ 1048576) (hl : l.length ≤ 9223372036854775807) : ACalls Try.prog 9 [.snap 3 (l.map T.av), .int .i64 n] h (fun v h' => v = .int .i64 (if n < l.length then -1 else n - l.length) ∧ h' = h) := by
  refine c_laws_szBarS_of0 rfl noPure fun I => ?_
  refine Run2.of I 1000 ?_
  simp -implicitDefEqProofs
  grind
abbrev c_laws_eqBar_o0 : List AJ := [.o ⟨(some 2), none, false, .box false 3 (.t 0), none⟩, .o ⟨(some 3), none, false, .box false 3 (.t 1), none⟩, .o ⟨(some 4), none, false, .mv (.c (.bool false)), (some [2, 3])⟩]
def c_laws_eqBar_0 : ACode := .region c_laws_eqBar_o0
abbrev c_laws_eqBar_o1 : List AJ := [.o ⟨(some 5), none, false, .fieldA 0 (.t 2), none⟩, .o ⟨(some 6), none, false, .load 1 false (.t 5), none⟩, .o ⟨(some 7), none, false, .fieldA 0 (.t 3), none⟩, .o ⟨(some 8), none, false, .load 1 false (.t 7), none⟩, .o ⟨(some 9), none, false, .bin .neq (.t 6) (.t 8), (some [2, 3, 9])⟩]
def c_laws_eqBar_1 : ACode := .region c_laws_eqBar_o1
abbrev c_laws_eqBar_o2 : List AJ := [.o ⟨(some 4), none, false, .mv (.c (.bool false)), (some [4])⟩]
def c_laws_eqBar_2 : ACode := .region c_laws_eqBar_o2
def c_laws_eqBar_3 : ACode := .seq c_laws_eqBar_2 .ret
def c_laws_eqBar_4 : ACode := .cond (.t 9) c_laws_eqBar_3 .skip
def c_laws_eqBar_5 : ACode := .seq c_laws_eqBar_1 c_laws_eqBar_4
abbrev c_laws_eqBar_o3 : List AJ := [.o ⟨(some 10), none, false, .fieldA 1 (.t 2), none⟩, .o ⟨(some 11), none, false, .load 1 false (.t 10), none⟩, .o ⟨(some 12), none, false, .fieldA 1 (.t 3), none⟩, .o ⟨(some 13), none, false, .load 1 false (.t 12), none⟩, .o ⟨(some 14), none, false, .bin .neq (.t 11) (.t 13), (some [2, 3, 14])⟩]
def c_laws_eqBar_6 : ACode := .region c_laws_eqBar_o3
abbrev c_laws_eqBar_o4 : List AJ := [.o ⟨(some 4), none, false, .mv (.c (.bool false)), (some [4])⟩]
def c_laws_eqBar_7 : ACode := .region c_laws_eqBar_o4
def c_laws_eqBar_8 : ACode := .seq c_laws_eqBar_7 .ret
def c_laws_eqBar_9 : ACode := .cond (.t 14) c_laws_eqBar_8 .skip
def c_laws_eqBar_10 : ACode := .seq c_laws_eqBar_6 c_laws_eqBar_9
abbrev c_laws_eqBar_o5 : List AJ := [.o ⟨(some 15), none, false, .fieldA 2 (.t 2), none⟩, .o ⟨(some 16), none, false, .load 1 false (.t 15), none⟩, .o ⟨(some 17), none, false, .fieldA 2 (.t 3), none⟩, .o ⟨(some 18), none, false, .load 1 false (.t 17), none⟩, .o ⟨(some 19), none, false, .bin .neq (.t 16) (.t 18), (some [19])⟩]
def c_laws_eqBar_11 : ACode := .region c_laws_eqBar_o5
abbrev c_laws_eqBar_o6 : List AJ := [.o ⟨(some 4), none, false, .mv (.c (.bool false)), (some [4])⟩]
def c_laws_eqBar_12 : ACode := .region c_laws_eqBar_o6
def c_laws_eqBar_13 : ACode := .seq c_laws_eqBar_12 .ret
def c_laws_eqBar_14 : ACode := .cond (.t 19) c_laws_eqBar_13 .skip
def c_laws_eqBar_15 : ACode := .seq c_laws_eqBar_11 c_laws_eqBar_14
abbrev c_laws_eqBar_o7 : List AJ := [.o ⟨(some 4), none, false, .mv (.c (.bool true)), (some [4])⟩]
def c_laws_eqBar_16 : ACode := .region c_laws_eqBar_o7
def c_laws_eqBar_17 : ACode := .seq c_laws_eqBar_16 .ret
def c_laws_eqBar_18 : ACode := .seq c_laws_eqBar_15 c_laws_eqBar_17
def c_laws_eqBar_19 : ACode := .seq c_laws_eqBar_10 c_laws_eqBar_18
def c_laws_eqBar_20 : ACode := .seq c_laws_eqBar_5 c_laws_eqBar_19
def c_laws_eqBar_21 : ACode := .seq c_laws_eqBar_0 c_laws_eqBar_20
section
variable (C : Cx) (n : Nat) (sk : List AItem) (e : Env) (h : Heap) (R : AV → Heap → Prop)
@[simp, simp ↓] theorem c_laws_eqBar_0_r : vc2 C (n + 1) [] (.code c_laws_eqBar_0 :: sk) e h R = (vc2 C n c_laws_eqBar_o0 sk e h R) := nr rfl
@[simp, simp ↓] theorem c_laws_eqBar_1_r : vc2 C (n + 1) [] (.code c_laws_eqBar_1 :: sk) e h R = (vc2 C n c_laws_eqBar_o1 sk e h R) := nr rfl
@[simp, simp ↓] theorem c_laws_eqBar_2_r : vc2 C (n + 1) [] (.code c_laws_eqBar_2 :: sk) e h R = (vc2 C n c_laws_eqBar_o2 sk e h R) := nr rfl
@[simp, simp ↓] theorem c_laws_eqBar_3_r : vc2 C (n + 1) [] (.code c_laws_eqBar_3 :: sk) e h R = (vc2 C n [] (.code c_laws_eqBar_2 :: .code .ret :: sk) e h R) := nr rfl
@[simp, simp ↓] theorem c_laws_eqBar_4_r : vc2 C (n + 1) [] (.code c_laws_eqBar_4 :: sk) e h R = (condK (ev e (.t 9)) (vc2 C n [] (.code c_laws_eqBar_3 :: sk) e h R) (vc2 C n [] (.code .skip :: sk) e h R)) := nr rfl
@[simp, simp ↓] theorem c_laws_eqBar_5_r : vc2 C (n + 1) [] (.code c_laws_eqBar_5 :: sk) e h R = (vc2 C n [] (.code c_laws_eqBar_1 :: .code c_laws_eqBar_4 :: sk) e h R) := nr rfl
@[simp, simp ↓] theorem c_laws_eqBar_6_r : vc2 C (n + 1) [] (.code c_laws_eqBar_6 :: sk) e h R = (vc2 C n c_laws_eqBar_o3 sk e h R) := nr rfl
@[simp, simp ↓] theorem c_laws_eqBar_7_r : vc2 C (n + 1) [] (.code c_laws_eqBar_7 :: sk) e h R = (vc2 C n c_laws_eqBar_o4 sk e h R) := nr rfl
@[simp, simp ↓] theorem c_laws_eqBar_8_r : vc2 C (n + 1) [] (.code c_laws_eqBar_8 :: sk) e h R = (vc2 C n [] (.code c_laws_eqBar_7 :: .code .ret :: sk) e h R) := nr rfl
@[simp, simp ↓] theorem c_laws_eqBar_9_r : vc2 C (n + 1) [] (.code c_laws_eqBar_9 :: sk) e h R = (condK (ev e (.t 14)) (vc2 C n [] (.code c_laws_eqBar_8 :: sk) e h R) (vc2 C n [] (.code .skip :: sk) e h R)) := nr rfl
@[simp, simp ↓] theorem c_laws_eqBar_10_r : vc2 C (n + 1) [] (.code c_laws_eqBar_10 :: sk) e h R = (vc2 C n [] (.code c_laws_eqBar_6 :: .code c_laws_eqBar_9 :: sk) e h R) := nr rfl
@[simp, simp ↓] theorem c_laws_eqBar_11_r : vc2 C (n + 1) [] (.code c_laws_eqBar_11 :: sk) e h R = (vc2 C n c_laws_eqBar_o5 sk e h R) := nr rfl
@[simp, simp ↓] theorem c_laws_eqBar_12_r : vc2 C (n + 1) [] (.code c_laws_eqBar_12 :: sk) e h R = (vc2 C n c_laws_eqBar_o6 sk e h R) := nr rfl
@[simp, simp ↓] theorem c_laws_eqBar_13_r : vc2 C (n + 1) [] (.code c_laws_eqBar_13 :: sk) e h R = (vc2 C n [] (.code c_laws_eqBar_12 :: .code .ret :: sk) e h R) := nr rfl
@[simp, simp ↓] theorem c_laws_eqBar_14_r : vc2 C (n + 1) [] (.code c_laws_eqBar_14 :: sk) e h R = (condK (ev e (.t 19)) (vc2 C n [] (.code c_laws_eqBar_13 :: sk) e h R) (vc2 C n [] (.code .skip :: sk) e h R)) := nr rfl
@[simp, simp ↓] theorem c_laws_eqBar_15_r : vc2 C (n + 1) [] (.code c_laws_eqBar_15 :: sk) e h R = (vc2 C n [] (.code c_laws_eqBar_11 :: .code c_laws_eqBar_14 :: sk) e h R) := nr rfl
@[simp, simp ↓] theorem c_laws_eqBar_16_r : vc2 C (n + 1) [] (.code c_laws_eqBar_16 :: sk) e h R = (vc2 C n c_laws_eqBar_o7 sk e h R) := nr rfl
@[simp, simp ↓] theorem c_laws_eqBar_17_r : vc2 C (n + 1) [] (.code c_laws_eqBar_17 :: sk) e h R = (vc2 C n [] (.code c_laws_eqBar_16 :: .code .ret :: sk) e h R) := nr rfl
@[simp, simp ↓] theorem c_laws_eqBar_18_r : vc2 C (n + 1) [] (.code c_laws_eqBar_18 :: sk) e h R = (vc2 C n [] (.code c_laws_eqBar_15 :: .code c_laws_eqBar_17 :: sk) e h R) := nr rfl
@[simp, simp ↓] theorem c_laws_eqBar_19_r : vc2 C (n + 1) [] (.code c_laws_eqBar_19 :: sk) e h R = (vc2 C n [] (.code c_laws_eqBar_10 :: .code c_laws_eqBar_18 :: sk) e h R) := nr rfl
@[simp, simp ↓] theorem c_laws_eqBar_20_r : vc2 C (n + 1) [] (.code c_laws_eqBar_20 :: sk) e h R = (vc2 C n [] (.code c_laws_eqBar_5 :: .code c_laws_eqBar_19 :: sk) e h R) := nr rfl
@[simp, simp ↓] theorem c_laws_eqBar_21_r : vc2 C (n + 1) [] (.code c_laws_eqBar_21 :: sk) e h R = (vc2 C n [] (.code c_laws_eqBar_0 :: .code c_laws_eqBar_20 :: sk) e h R) := nr rfl
end
noncomputable def c_laws_eqBar_C (orc : Orc) : Cx := ⟨Try.prog, [], 18, 20, [.tmp 4], orc⟩
@[simp] theorem c_laws_eqBar_C_P (orc : Orc) : (c_laws_eqBar_C orc).P = Try.prog := nr rfl
@[simp] theorem c_laws_eqBar_C_o (orc : Orc) : (c_laws_eqBar_C orc).orc = orc := nr rfl
@[simp] theorem c_laws_eqBar_C_r (orc : Orc) : (c_laws_eqBar_C orc).res = [.tmp 4] := nr rfl
theorem c_laws_eqBar_of {args : List AV} {h : Heap} {R : AV → Heap → Prop} {k : Nat} (ha : args.length = k) {orc : Orc} (hp : Pure Try.prog orc) (hk : Is (c_laws_eqBar_C orc) Try.f18 → Run2 (c_laws_eqBar_C orc) [.code c_laws_eqBar_21] (argEnv 0 args) h (Post R)) (hle : k ≤ 20 := by simp) : ACalls Try.prog 18 args h R :=
  contract2 [] c_laws_eqBar_21 [.tmp 4] Try.func18 (by decide +kernel) rfl (by kernel_rfl) (by rw [ha]; exact hle) (by kernel_rfl) hp hk
theorem c_laws_eqBar_of0 {args : List AV} {h : Heap} {R : AV → Heap → Prop} {k : Nat} (ha : args.length = k) {orc : Orc} (hp : Pure Try.prog orc) (hk : Is (c_laws_eqBar_C orc) Try.f18 → Run2 (c_laws_eqBar_C orc) [.code c_laws_eqBar_21] (argEnv 0 args) h R) (hle : k ≤ 20 := by simp) : ACalls Try.prog 18 args h R :=
  contract20 [] c_laws_eqBar_21 [.tmp 4] Try.func18 (by decide +kernel) rfl (by kernel_rfl) (by rw [ha]; exact hle) (by kernel_rfl) hp hk
theorem eqBar_c (x y : T) (h : Heap) : ACalls Try.prog 18 [x.av, y.av] h (fun v h' => v = .bool (decide (x = y)) ∧ h' = h) := by
  refine c_laws_eqBar_of0 rfl noPure fun I => ?_
  cases x; cases y
  refine Run2.of I 1000 ?_
  simp -implicitDefEqProofs
  grind
noncomputable def o_eqBar : List AV → Option (Prop × AV) := tab (fun (x : Int × Int × Int × Int × Int × Int) => match x with | (f, t, s, f', t', s') => [.agg [.int .i64 f, .int .i64 t, .int .i64 s], .agg [.int .i64 f', .int .i64 t', .int .i64 s']]) (fun x => match x with | (f, t, s, f', t', s') => True) (fun x => match x with | (f, t, s, f', t', s') => .bool (decide ((⟨f, t, s⟩ : T) = ⟨f', t', s'⟩)))
@[simp] theorem o_eqBar_e (f : Int) (t : Int) (s : Int) (f' : Int) (t' : Int) (s' : Int) : o_eqBar [.agg [.int .i64 f, .int .i64 t, .int .i64 s], .agg [.int .i64 f', .int .i64 t', .int .i64 s']] = some (True, .bool (decide ((⟨f, t, s⟩ : T) = ⟨f', t', s'⟩))) := tab_at (enc := fun (x : Int × Int × Int × Int × Int × Int) => match x with | (f, t, s, f', t', s') => [.agg [.int .i64 f, .int .i64 t, .int .i64 s], .agg [.int .i64 f', .int .i64 t', .int .i64 s']]) (fun x y h => by
  obtain ⟨f1, t1, s1, f'1, t'1, s'1⟩ := x; obtain ⟨f2, t2, s2, f'2, t'2, s'2⟩ := y; simp at h; simp [h]) _ _ (f, t, s, f', t', s')
theorem o_eqBar_k : Knows Try.prog 18 o_eqBar := tab_knows fun x hx h => by
  obtain ⟨f, t, s, f', t', s'⟩ := x; exact eqBar_c ⟨f, t, s⟩ ⟨f', t', s'⟩ h
abbrev c_laws_eqBarS_o0 : List AJ := [.o ⟨(some 4), none, false, .mv (.c (.bool false)), (some [0, 1])⟩]
def c_laws_eqBarS_0 : ACode := .region c_laws_eqBarS_o0
abbrev c_laws_eqBarS_o1 : List AJ := [.o ⟨(some 6), none, false, .mv (.t 0), none⟩, .o ⟨(some 7), none, false, .len (.t 6), none⟩, .o ⟨(some 8), none, false, .mv (.t 1), none⟩, .o ⟨(some 9), none, false, .len (.t 8), none⟩, .o ⟨(some 10), none, false, .bin .neq (.t 7) (.t 9), (some [0, 1, 10])⟩]
def c_laws_eqBarS_1 : ACode := .region c_laws_eqBarS_o1
abbrev c_laws_eqBarS_o2 : List AJ := [.o ⟨(some 4), none, false, .mv (.c (.bool false)), (some [4])⟩]
def c_laws_eqBarS_2 : ACode := .region c_laws_eqBarS_o2
def c_laws_eqBarS_3 : ACode := .seq c_laws_eqBarS_2 .ret
def c_laws_eqBarS_4 : ACode := .cond (.t 10) c_laws_eqBarS_3 .skip
def c_laws_eqBarS_5 : ACode := .seq c_laws_eqBarS_1 c_laws_eqBarS_4
abbrev c_laws_eqBarS_o3 : List AJ := [.o ⟨(some 5), none, false, .mv (.c (.int .i64 0)), (some [0, 1, 5])⟩]
def c_laws_eqBarS_6 : ACode := .region c_laws_eqBarS_o3
abbrev c_laws_eqBarS_o4 : List AJ := [.o ⟨(some 11), none, false, .mv (.t 5), none⟩, .o ⟨(some 12), none, false, .mv (.t 0), none⟩, .o ⟨(some 13), none, false, .len (.t 12), none⟩, .o ⟨(some 14), none, false, .bin .lss (.t 11) (.t 13), (some [0, 1, 5, 14])⟩]
def c_laws_eqBarS_7 : ACode := .region c_laws_eqBarS_o4
def c_laws_eqBarS_8 : ACode := .cond (.t 14) .skip (.exit 0)
def c_laws_eqBarS_9 : ACode := .seq c_laws_eqBarS_7 c_laws_eqBarS_8
abbrev c_laws_eqBarS_o5 : List AI := [⟨(some 17), none, false, .mv (.t 0), none⟩, ⟨(some 18), none, false, .mv (.t 5), none⟩, ⟨(some 19), none, false, .idxA 3 (.t 17) (.t 18), none⟩, ⟨(some 20), none, false, .load 3 true (.t 19), none⟩, ⟨(some 21), none, false, .mv (.t 1), none⟩, ⟨(some 22), none, false, .mv (.t 5), none⟩, ⟨(some 23), none, false, .idxA 3 (.t 21) (.t 22), none⟩, ⟨(some 24), none, false, .load 3 true (.t 23), none⟩, ⟨(some 25), none, false, .call 18 [(.t 20), (.t 24)], none⟩, ⟨(some 26), none, false, .un .not (.t 25), (some [0, 1, 5, 26])⟩]
def c_laws_eqBarS_10 : ACode := .draw c_laws_eqBarS_o5 [] rfl
abbrev c_laws_eqBarS_o6 : List AJ := [.o ⟨(some 4), none, false, .mv (.c (.bool false)), (some [4])⟩]
def c_laws_eqBarS_11 : ACode := .region c_laws_eqBarS_o6
def c_laws_eqBarS_12 : ACode := .seq c_laws_eqBarS_11 .ret
def c_laws_eqBarS_13 : ACode := .cond (.t 26) c_laws_eqBarS_12 .skip
def c_laws_eqBarS_14 : ACode := .seq c_laws_eqBarS_10 c_laws_eqBarS_13
def c_laws_eqBarS_15 : ACode := .block 1 c_laws_eqBarS_14
abbrev c_laws_eqBarS_o7 : List AJ := [.o ⟨(some 15), none, false, .mv (.t 5), none⟩, .o ⟨(some 16), none, true, .bin .add (.t 15) (.c (.int .i64 1)), none⟩, .o ⟨(some 5), none, false, .mv (.t 16), (some [0, 1, 5])⟩]
def c_laws_eqBarS_16 : ACode := .region c_laws_eqBarS_o7
def c_laws_eqBarS_17 : ACode := .seq c_laws_eqBarS_15 c_laws_eqBarS_16
def c_laws_eqBarS_18 : ACode := .seq c_laws_eqBarS_9 c_laws_eqBarS_17
def c_laws_eqBarS_19 : ACode := .loop c_laws_eqBarS_18
def c_laws_eqBarS_20 : ACode := .block 0 c_laws_eqBarS_19
def c_laws_eqBarS_21 : ACode := .seq c_laws_eqBarS_6 c_laws_eqBarS_20
abbrev c_laws_eqBarS_o8 : List AJ := [.o ⟨(some 4), none, false, .mv (.c (.bool true)), (some [4])⟩]
def c_laws_eqBarS_22 : ACode := .region c_laws_eqBarS_o8
def c_laws_eqBarS_23 : ACode := .seq c_laws_eqBarS_22 .ret
def c_laws_eqBarS_24 : ACode := .seq c_laws_eqBarS_21 c_laws_eqBarS_23
def c_laws_eqBarS_25 : ACode := .seq c_laws_eqBarS_5 c_laws_eqBarS_24
def c_laws_eqBarS_26 : ACode := .seq c_laws_eqBarS_0 c_laws_eqBarS_25
section
variable (C : Cx) (n : Nat) (sk : List AItem) (e : Env) (h : Heap) (R : AV → Heap → Prop)
@[simp, simp ↓] theorem c_laws_eqBarS_0_r : vc2 C (n + 1) [] (.code c_laws_eqBarS_0 :: sk) e h R = (vc2 C n c_laws_eqBarS_o0 sk e h R) := nr rfl
@[simp, simp ↓] theorem c_laws_eqBarS_1_r : vc2 C (n + 1) [] (.code c_laws_eqBarS_1 :: sk) e h R = (vc2 C n c_laws_eqBarS_o1 sk e h R) := nr rfl
@[simp, simp ↓] theorem c_laws_eqBarS_2_r : vc2 C (n + 1) [] (.code c_laws_eqBarS_2 :: sk) e h R = (vc2 C n c_laws_eqBarS_o2 sk e h R) := nr rfl
@[simp, simp ↓] theorem c_laws_eqBarS_3_r : vc2 C (n + 1) [] (.code c_laws_eqBarS_3 :: sk) e h R = (vc2 C n [] (.code c_laws_eqBarS_2 :: .code .ret :: sk) e h R) := nr rfl
@[simp, simp ↓] theorem c_laws_eqBarS_4_r : vc2 C (n + 1) [] (.code c_laws_eqBarS_4 :: sk) e h R = (condK (ev e (.t 10)) (vc2 C n [] (.code c_laws_eqBarS_3 :: sk) e h R) (vc2 C n [] (.code .skip :: sk) e h R)) := nr rfl
@[simp, simp ↓] theorem c_laws_eqBarS_5_r : vc2 C (n + 1) [] (.code c_laws_eqBarS_5 :: sk) e h R = (vc2 C n [] (.code c_laws_eqBarS_1 :: .code c_laws_eqBarS_4 :: sk) e h R) := nr rfl
@[simp, simp ↓] theorem c_laws_eqBarS_6_r : vc2 C (n + 1) [] (.code c_laws_eqBarS_6 :: sk) e h R = (vc2 C n c_laws_eqBarS_o3 sk e h R) := nr rfl
@[simp, simp ↓] theorem c_laws_eqBarS_7_r : vc2 C (n + 1) [] (.code c_laws_eqBarS_7 :: sk) e h R = (vc2 C n c_laws_eqBarS_o4 sk e h R) := nr rfl
@[simp, simp ↓] theorem c_laws_eqBarS_8_r : vc2 C (n + 1) [] (.code c_laws_eqBarS_8 :: sk) e h R = (condK (ev e (.t 14)) (vc2 C n [] (.code .skip :: sk) e h R) (vc2 C n [] (.code (.exit 0) :: sk) e h R)) := nr rfl
@[simp, simp ↓] theorem c_laws_eqBarS_9_r : vc2 C (n + 1) [] (.code c_laws_eqBarS_9 :: sk) e h R = (vc2 C n [] (.code c_laws_eqBarS_7 :: .code c_laws_eqBarS_8 :: sk) e h R) := nr rfl
@[simp, simp ↓] theorem c_laws_eqBarS_10_r : vc2 C (n + 1) [] (.code c_laws_eqBarS_10 :: sk) e h R = (draw2 C h (vK C n [] sk R h) c_laws_eqBarS_o5 e) := nr rfl
@[simp, simp ↓] theorem c_laws_eqBarS_11_r : vc2 C (n + 1) [] (.code c_laws_eqBarS_11 :: sk) e h R = (vc2 C n c_laws_eqBarS_o6 sk e h R) := nr rfl
@[simp, simp ↓] theorem c_laws_eqBarS_12_r : vc2 C (n + 1) [] (.code c_laws_eqBarS_12 :: sk) e h R = (vc2 C n [] (.code c_laws_eqBarS_11 :: .code .ret :: sk) e h R) := nr rfl
@[simp, simp ↓] theorem c_laws_eqBarS_13_r : vc2 C (n + 1) [] (.code c_laws_eqBarS_13 :: sk) e h R = (condK (ev e (.t 26)) (vc2 C n [] (.code c_laws_eqBarS_12 :: sk) e h R) (vc2 C n [] (.code .skip :: sk) e h R)) := nr rfl
@[simp, simp ↓] theorem c_laws_eqBarS_14_r : vc2 C (n + 1) [] (.code c_laws_eqBarS_14 :: sk) e h R = (vc2 C n [] (.code c_laws_eqBarS_10 :: .code c_laws_eqBarS_13 :: sk) e h R) := nr rfl
@[simp, simp ↓] theorem c_laws_eqBarS_15_r : vc2 C (n + 1) [] (.code c_laws_eqBarS_15 :: sk) e h R = (vc2 C n [] (.code c_laws_eqBarS_14 :: .inBlock 1 :: sk) e h R) := nr rfl
@[simp, simp ↓] theorem c_laws_eqBarS_16_r : vc2 C (n + 1) [] (.code c_laws_eqBarS_16 :: sk) e h R = (vc2 C n c_laws_eqBarS_o7 sk e h R) := nr rfl
@[simp, simp ↓] theorem c_laws_eqBarS_17_r : vc2 C (n + 1) [] (.code c_laws_eqBarS_17 :: sk) e h R = (vc2 C n [] (.code c_laws_eqBarS_15 :: .code c_laws_eqBarS_16 :: sk) e h R) := nr rfl
@[simp, simp ↓] theorem c_laws_eqBarS_18_r : vc2 C (n + 1) [] (.code c_laws_eqBarS_18 :: sk) e h R = (vc2 C n [] (.code c_laws_eqBarS_9 :: .code c_laws_eqBarS_17 :: sk) e h R) := nr rfl
@[simp, simp ↓] theorem c_laws_eqBarS_19_r : vc2 C (n + 1) [] (.code c_laws_eqBarS_19 :: sk) e h R = (Run2 C (.code c_laws_eqBarS_18 :: .inLoop c_laws_eqBarS_18 :: sk) e h R) := nr rfl
@[simp, simp ↓] theorem c_laws_eqBarS_20_r : vc2 C (n + 1) [] (.code c_laws_eqBarS_20 :: sk) e h R = (vc2 C n [] (.code c_laws_eqBarS_19 :: .inBlock 0 :: sk) e h R) := nr rfl
@[simp, simp ↓] theorem c_laws_eqBarS_21_r : vc2 C (n + 1) [] (.code c_laws_eqBarS_21 :: sk) e h R = (vc2 C n [] (.code c_laws_eqBarS_6 :: .code c_laws_eqBarS_20 :: sk) e h R) := nr rfl
@[simp, simp ↓] theorem c_laws_eqBarS_22_r : vc2 C (n + 1) [] (.code c_laws_eqBarS_22 :: sk) e h R = (vc2 C n c_laws_eqBarS_o8 sk e h R) := nr rfl
@[simp, simp ↓] theorem c_laws_eqBarS_23_r : vc2 C (n + 1) [] (.code c_laws_eqBarS_23 :: sk) e h R = (vc2 C n [] (.code c_laws_eqBarS_22 :: .code .ret :: sk) e h R) := nr rfl
@[simp, simp ↓] theorem c_laws_eqBarS_24_r : vc2 C (n + 1) [] (.code c_laws_eqBarS_24 :: sk) e h R = (vc2 C n [] (.code c_laws_eqBarS_21 :: .code c_laws_eqBarS_23 :: sk) e h R) := nr rfl
@[simp, simp ↓] theorem c_laws_eqBarS_25_r : vc2 C (n + 1) [] (.code c_laws_eqBarS_25 :: sk) e h R = (vc2 C n [] (.code c_laws_eqBarS_5 :: .code c_laws_eqBarS_24 :: sk) e h R) := nr rfl
@[simp, simp ↓] theorem c_laws_eqBarS_26_r : vc2 C (n + 1) [] (.code c_laws_eqBarS_26 :: sk) e h R = (vc2 C n [] (.code c_laws_eqBarS_0 :: .code c_laws_eqBarS_25 :: sk) e h R) := nr rfl
end
noncomputable def c_laws_eqBarS_C (orc : Orc) : Cx := ⟨Try.prog, [], 13, 27, [.tmp 4], orc⟩
@[simp] theorem c_laws_eqBarS_C_P (orc : Orc) : (c_laws_eqBarS_C orc).P = Try.prog := nr rfl
@[simp] theorem c_laws_eqBarS_C_o (orc : Orc) : (c_laws_eqBarS_C orc).orc = orc := nr rfl
@[simp] theorem c_laws_eqBarS_C_r (orc : Orc) : (c_laws_eqBarS_C orc).res = [.tmp 4] := nr rfl
theorem c_laws_eqBarS_of {args : List AV} {h : Heap} {R : AV → Heap → Prop} {k : Nat} (ha : args.length = k) {orc : Orc} (hp : Pure Try.prog orc) (hk : Is (c_laws_eqBarS_C orc) Try.f13 → Run2 (c_laws_eqBarS_C orc) [.code c_laws_eqBarS_26] (argEnv 0 args) h (Post R)) (hle : k ≤ 27 := by simp) : ACalls Try.prog 13 args h R :=
  contract2 [] c_laws_eqBarS_26 [.tmp 4] Try.func13 (by decide +kernel) rfl (by kernel_rfl) (by rw [ha]; exact hle) (by kernel_rfl) hp hk
theorem c_laws_eqBarS_of0 {args : List AV} {h : Heap} {R : AV → Heap → Prop} {k : Nat} (ha : args.length = k) {orc : Orc} (hp : Pure Try.prog orc) (hk : Is (c_laws_eqBarS_C orc) Try.f13 → Run2 (c_laws_eqBarS_C orc) [.code c_laws_eqBarS_26] (argEnv 0 args) h R) (hle : k ≤ 27 := by simp) : ACalls Try.prog 13 args h R :=
  contract20 [] c_laws_eqBarS_26 [.tmp 4] Try.func13 (by decide +kernel) rfl (by kernel_rfl) (by rw [ha]; exact hle) (by kernel_rfl) hp hk
theorem eqBarS_c (l m : List T) (h : Heap) (hl : l.length ≤ 1048576) : ACalls Try.prog 13 [.snap 3 (l.map T.av), .snap 3 (m.map T.av)] h (fun v h' => v = .bool (decide (l = m)) ∧ h' = h) := by
  refine c_laws_eqBarS_of0 rfl (lk_pure o_eqBar_k lk_pure0) fun I => ?_
  refine Run2.of I 1000 ?_
  simp -implicitDefEqProofs
  refine ⟨by rintro hne rfl; exact hne rfl, fun hlen => ?_⟩
  refine Run2.loop (fun i => [(0, .snap 3 (l.map T.av)), (1, .snap 3 (m.map T.av)), (5, .int .i64 (i : Nat))]) (fun i => h) (fun i => l.length - i) (fun i => i ≤ l.length ∧ l.take i = m.take i) 0 (by simp) fun i hi ih => ?_
  by_cases hlt : i < l.length
  · have hlt' : i < m.length := by omega
    refine Run2.of I 1000 ?_
    simp -implicitDefEqProofs [hlt, hlt']
    constructor
    · rintro hne rfl
      exact hne rfl
    · intro he
      refine ⟨by omega, ?_⟩
      have := ih (i + 1) ⟨by omega, by rw [List.take_succ_eq_append_getElem hlt, List.take_succ_eq_append_getElem hlt', hi.2, he]⟩ (by omega)
      simpa using this
  · refine Run2.of I 1000 ?_
    simp -implicitDefEqProofs [hlt]
    have : i = l.length := by omega
    have h2 := hi.2
    rw [List.take_of_length_le (by omega), List.take_of_length_le (by omega)] at h2
    exact h2
theorem toBarS_o (l : List T) (h : Heap) (hl : l.length ≤ 1048576) : ACalls Try.prog 11 [.snap 3 (l.map T.av)] h (fun v h' => ∃ h1, OwnL T.av 3 v l h1 ∧ (∀ i ∈ dom h1, i ∉ dom h) ∧ h' = h1 ++ h) :=
  (toBarS_w l h hl).mono fun v h' ⟨id, h1, h2, h3⟩ => ⟨[(id, ⟨3, l.map T.av ++ []⟩)], h2 ▸ .sl id _ [] rfl, by simpa [dom] using h1, by simpa using h3⟩
/-! ## In the laws: with other memory about -/
theorem eqB_own {w u : AV} {l m : List T} {g h : Heap} (o : OwnL T.av 3 w l g) (hu : IsL T.av 3 u m) (hs : ∀ p ∈ g, p ∈ h) (hl : l.length ≤ 1048576) : ACalls Try.prog 13 [w, u] h (fun r h' => r = .bool (decide (l = m)) ∧ h' = h) := by
  refine ACalls.reads g hs ?_ rfl
  rw [lend_cons, lend_cons, lend_nil', lend1_cold g (hu.cold T.cold)]
  exact ACalls.wk (.cons o.lent.wk (.cons hu.wk .nil)) (eqBarS_c l m [] hl)
theorem heldB_own {w : AV} {l : List T} {g h : Heap} (o : OwnL T.av 3 w l g) (hs : ∀ p ∈ g, p ∈ h) (k : Int) (hk : 0 ≤ k ∧ k ≤ 1099511627776) (hl : l.length ≤ 1073741824) : ACalls Try.prog 22 [w, .int .i64 k] h (fun r h' => r = .int .i64 (if l = marksT k l.length then k + 3 * l.length else -1) ∧ h' = h) := by
  refine ACalls.reads g hs ?_ rfl
  rw [lend_cons, lend_cons, lend_nil', lend1_cold g (x := .int .i64 k) rfl]
  exact ACalls.wk (.cons o.lent.wk (.refl _)) (heldBarS_s l k [] hk hl)
theorem markB_drop {w : AV} {l : List T} {g h : Heap} (o : OwnL T.av 3 w l g) (keep : Heap) (hs : ∀ p ∈ g, p ∈ h) (hk : ∀ p ∈ keep, p ∈ h ∧ p.1 ∉ dom g) (nk : (dom h).Nodup → (dom keep).Nodup) (k : Int) (hk1 : 0 ≤ k ∧ k ≤ 1099511627776) (hl : l.length ≤ 1073741824) : ACalls Try.prog 21 [w, .int .i64 k] h (fun r h' => r = .int .i64 (k + 3 * l.length) ∧ h' = keep) :=
  ACalls.marks g keep o.nodup hs hk nk (S := fun h' => OwnL T.av 3 w (marksT k l.length) h') (markBarS_o o k hk1 hl) ⟨rfl, fun h' ho => (ho.own T.own).2⟩
theorem markB_keep {w : AV} {l : List T} {g h : Heap} (o : OwnL T.av 3 w l g) (keep : Heap) (hs : ∀ p ∈ g, p ∈ h) (hk : ∀ p ∈ keep, p ∈ h ∧ p.1 ∉ dom g) (nk : (dom h).Nodup → (dom keep).Nodup) (k : Int) (hk1 : 0 ≤ k ∧ k ≤ 1099511627776) (hl : l.length ≤ 1073741824) : ACalls Try.prog 21 [w, .int .i64 k] h (fun r h' => ∃ g', r = .int .i64 (k + 3 * l.length) ∧ OwnL T.av 3 w (marksT k l.length) g' ∧ h' = g' ++ keep) :=
  (ACalls.frame g [] keep o.nodup hs (by simp) hk nk (S := fun v h' => v = .int .i64 (k + 3 * l.length) ∧ OwnL T.av 3 w (marksT k l.length) h') (by simpa [lend] using markBarS_o o k hk1 hl) (fun v h' e => by obtain ⟨rfl, e⟩ := e; exact ⟨rfl, (e.own T.own).2⟩)).mono fun v h' ⟨g', ⟨e1, e2⟩, _, e3⟩ => ⟨g', e1, e2, e3⟩
def wfB (l : List T) : Prop := (∀ t ∈ l, t.ok) ∧ l.length ≤ 9223372036854775807
def tyB : Ty := .slice tyT
theorem Bars_of_shape {x : AV} (h : shV tyB x) : ∃ l : List T, x = .snap 3 (l.map T.av) ∧ wfB l := by
  obtain ⟨h1, xs, e1, hlen, r3⟩ := h
  have hm : maxLen ≤ 9223372036854775807 := by decide
  obtain ⟨l, rfl, hl⟩ := Ts_of_shape r3
  cases x <;> simp [isAgg, tyB, Ty.isS, cellsOf] at h1 e1
  rw [e1.1, e1.2]
  exact ⟨l, rfl, hl, by simp only [List.length_map] at hlen; exact Nat.le_trans hlen hm⟩
/-- The bars that a slice holds which nobody writes. -/
def barsOf : AV → List T
  | .snap _ l => l.map fun | .agg [.int _ a, .int _ b, .int _ c] => ⟨a, b, c⟩ | _ => ⟨0, 0, 0⟩
  | _ => []
@[simp] theorem barsOf_snap (s : Nat) (l : List T) : barsOf (.snap s (l.map T.av)) = l := by
  simp only [barsOf, List.map_map]
  exact List.map_id'' (fun n => rfl) l
@[simp] theorem barsOf_nil : barsOf .nilsl = [] := rfl
@[simp] theorem barsOf_emp : barsOf .emp = [] := rfl
@[simp] theorem barsOf_s0 (s : Nat) : barsOf (.snap s []) = [] := rfl
def isBars (v : AV) : Prop := v = .nilsl ∨ v = .emp ∨ ∃ l : List T, v = .snap 3 (l.map T.av)
@[simp] theorem isBars_snap (l : List T) : isBars (.snap 3 (l.map T.av)) := .inr (.inr ⟨l, rfl⟩)
@[simp] theorem isBars_nil : isBars .nilsl := .inl rfl
@[simp] theorem isBars_emp : isBars .emp := .inr (.inl rfl)
@[simp] theorem isBars_s0 : isBars (.snap 3 []) := .inr (.inr ⟨[], rfl⟩)
theorem Wk.bars {v : AV} (h : isBars v) : Wk v (.snap 3 ((barsOf v).map T.av)) := by
  rcases h with rfl | rfl | ⟨l, rfl⟩
  · exact Wk.nil 3
  · exact Wk.emp 3
  · rw [barsOf_snap]; exact Wk.refl _
theorem eqBarS_v (u v : AV) (h : Heap) (hu : isBars u) (hv : isBars v) (hl : (barsOf u).length ≤ 1048576) : ACalls Try.prog 13 [u, v] h (fun r h' => r = .bool (decide (barsOf u = barsOf v)) ∧ h' = h) :=
  (eqBarS_c _ _ h hl).wk (.cons (.bars hu) (.cons (.bars hv) .nil))
noncomputable def o_eqBarS : List AV → Option (Prop × AV) := tab (fun (x : AV × AV) => match x with | (u, v) => [u, v]) (fun x => match x with | (u, v) => ((isBars u ∧ isBars v) ∧ (barsOf u).length ≤ 1048576)) (fun x => match x with | (u, v) => .bool (decide (barsOf u = barsOf v)))
@[simp] theorem o_eqBarS_e (u : AV) (v : AV) : o_eqBarS [u, v] = some (((isBars u ∧ isBars v) ∧ (barsOf u).length ≤ 1048576), .bool (decide (barsOf u = barsOf v))) := tab_at (enc := fun (x : AV × AV) => match x with | (u, v) => [u, v]) (fun x y h => by
  obtain ⟨u1, v1⟩ := x; obtain ⟨u2, v2⟩ := y; simp at h; simp [h]) _ _ (u, v)
theorem o_eqBarS_k : Knows Try.prog 13 o_eqBarS := tab_knows fun x hx h => by
  obtain ⟨u, v⟩ := x; exact eqBarS_v u v h hx.1.1 hx.1.2 hx.2
noncomputable def o_toBarS : List AV → Option (Prop × AV) := tab (fun (x : List T) => match x with | l => [.snap 3 (l.map T.av)]) (fun x => match x with | l => l.length ≤ 1048576) (fun x => match x with | l => .snap 3 (l.map T.av))
@[simp] theorem o_toBarS_e (l : List T) : o_toBarS [.snap 3 (l.map T.av)] = some (l.length ≤ 1048576, .snap 3 (l.map T.av)) := tab_at (enc := fun (x : List T) => match x with | l => [.snap 3 (l.map T.av)]) (fun x y h => by
  simp at h; simp [h]) _ _ l
theorem o_toBarS_k : Knows Try.prog 11 o_toBarS := tab_knows fun x hx h => by
  exact toBarS_c x h hx
noncomputable def o_szBarS : List AV → Option (Prop × AV) := tab (fun (x : List T × Int) => match x with | (l, k) => [.snap 3 (l.map T.av), .int .i64 k]) (fun x => match x with | (l, k) => ((0 ≤ k ∧ k ≤ 1048576) ∧ l.length ≤ 9223372036854775807)) (fun x => match x with | (l, k) => .int .i64 (if k < l.length then -1 else k - l.length))
@[simp] theorem o_szBarS_e (l : List T) (k : Int) : o_szBarS [.snap 3 (l.map T.av), .int .i64 k] = some (((0 ≤ k ∧ k ≤ 1048576) ∧ l.length ≤ 9223372036854775807), .int .i64 (if k < l.length then -1 else k - l.length)) := tab_at (enc := fun (x : List T × Int) => match x with | (l, k) => [.snap 3 (l.map T.av), .int .i64 k]) (fun x y h => by
  obtain ⟨l1, k1⟩ := x; obtain ⟨l2, k2⟩ := y; simp at h; simp [h]) _ _ (l, k)
theorem o_szBarS_k : Knows Try.prog 9 o_szBarS := tab_knows fun x hx h => by
  obtain ⟨l, k⟩ := x; exact szBarS_c l k h hx.1 hx.2
noncomputable def orcA : List (Nat × (List AV → Option (Prop × AV))) := (11, o_toBarS) :: (9, o_szBarS) :: (13, o_eqBarS) :: (18, o_eqBar) :: []
theorem orcA_p : Pure Try.prog (lk orcA) := (lk_pure o_toBarS_k (lk_pure o_szBarS_k (lk_pure o_eqBarS_k (lk_pure o_eqBar_k lk_pure0))))
@[simp] theorem orcA_l (g : FuncId) (l : List AV) : lk orcA g l = if g = 11 then o_toBarS l else if g = 9 then o_szBarS l else if g = 13 then o_eqBarS l else if g = 18 then o_eqBar l else none := nr rfl
end Go.AG
