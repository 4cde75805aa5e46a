/- Graphs as plain data, and what the set's own helpers of graphs do: they copy, compare and count. No statement is made here. -/
import Derived.Test.YtlncpnefkpfojaaRows
import Derived.Test.YtlncpnefkpfojaaAGInts
namespace Go.AG
open Go.Proofs Go.Proofs.Ytlncpnefkpfojaa
set_option linter.unusedSimpArgs false
set_option linter.unusedVariables false
set_option maxRecDepth 4000
theorem Int_of_shape {x : AV} (h : shV (.int .i64) x) : ∃ n : Int, x = .int .i64 n ∧ in64 n := by
  obtain ⟨h1, n, e, r⟩ := h
  cases x <;> simp [isAgg, Ty.isS, cellsOf] at h1 e
  exact ⟨n, by rw [e.1, e.2], r⟩
structure T where
  f : Int
  t : Int
  s : Int
  deriving DecidableEq, Inhabited
@[simp] def T.av (x : T) : AV := .agg [.int .i64 x.f, .int .i64 x.t, .int .i64 x.s]
def T.ok (x : T) : Prop := in64 x.f ∧ in64 x.t ∧ in64 x.s
theorem T.ext' {x y : T} (h1 : x.f = y.f) (h2 : x.t = y.t) (h3 : x.s = y.s) : x = y := by
  cases x; cases y; simp at h1 h2 h3; simp [h1, h2, h3]
theorem T.av_inj {x y : T} (h : x.av = y.av) : x = y := by
  simp at h; exact T.ext' h.1 h.2.1 h.2.2
@[simp] theorem Ts_inj (l m : List T) : (l.map T.av = m.map T.av) ↔ l = m := ⟨fun h => List.map_inj_right (fun _ _ => T.av_inj) |>.1 h, fun h => by rw [h]⟩
@[simp] theorem T_eta (x : T) : (⟨x.f, x.t, x.s⟩ : T) = x := rfl
def tz : AV := .agg [.int .i64 0, .int .i64 0, .int .i64 0]
def tyT : Ty := .struct (.cons (.int .i64) (.cons (.int .i64) (.cons (.int .i64) .nil)))
theorem T_of_shape {x : AV} (h : isAgg x = tyT.isS ∧ shC tyT (cellsOf x)) : ∃ t : T, x = t.av ∧ t.ok := by
  obtain ⟨h1, a1, b1, e1, ⟨n1, rfl, r1⟩, a2, b2, rfl, ⟨n2, rfl, r2⟩, a3, b3, rfl, ⟨n3, rfl, r3⟩, h3⟩ := h
  have h3' : b3 = [] := h3
  subst h3'
  cases x <;> simp [isAgg, tyT, Ty.isS] at h1
  rename_i l
  refine ⟨⟨n1, n2, n3⟩, ?_, r1, r2, r3⟩
  simp only [cellsOf] at e1
  rw [e1]; rfl
theorem Ts_of_shape : ∀ {xs : List AV}, (∀ x ∈ xs, isAgg x = tyT.isS ∧ shC tyT (cellsOf x)) → ∃ ts : List T, xs = ts.map T.av ∧ ∀ t ∈ ts, t.ok
  | [], _ => ⟨[], rfl, by simp⟩
  | x :: xs, h => by
    obtain ⟨t, rfl, ht⟩ := T_of_shape (h x (List.mem_cons_self ..))
    obtain ⟨ts, rfl, hts⟩ := Ts_of_shape (xs := xs) fun y hy => h y (List.mem_cons_of_mem _ hy)
    exact ⟨t :: ts, rfl, by simpa using ⟨ht, hts⟩⟩
abbrev c_laws_toEdge_o0 : List AJ := [.o ⟨(some 1), none, false, .box false 3 (.t 0), none⟩, .o ⟨(some 2), none, false, .alloc true 3 (.agg [(.int .i64 0), (.int .i64 0), (.int .i64 0)]), (some [1, 2])⟩]
def c_laws_toEdge_0 : ACode := .region c_laws_toEdge_o0
abbrev c_laws_toEdge_o1 : List AJ := [.o ⟨(some 3), none, false, .alloc true 3 (.agg [(.int .i64 0), (.int .i64 0), (.int .i64 0)]), (some [1, 2, 3])⟩]
def c_laws_toEdge_1 : ACode := .region c_laws_toEdge_o1
abbrev c_laws_toEdge_o2 : List AJ := [.o ⟨(some 4), none, false, .fieldA 0 (.t 1), none⟩, .o ⟨(some 5), none, false, .load 1 false (.t 4), none⟩, .o ⟨(some 6), none, false, .fieldA 0 (.t 3), none⟩, .o ⟨none, none, false, .store 1 (.t 6) (.t 5), (some [1, 2, 3])⟩]
def c_laws_toEdge_2 : ACode := .region c_laws_toEdge_o2
abbrev c_laws_toEdge_o3 : List AJ := [.o ⟨(some 7), none, false, .fieldA 1 (.t 1), none⟩, .o ⟨(some 8), none, false, .load 1 false (.t 7), none⟩, .o ⟨(some 9), none, false, .fieldA 1 (.t 3), none⟩, .o ⟨none, none, false, .store 1 (.t 9) (.t 8), (some [1, 2, 3])⟩]
def c_laws_toEdge_3 : ACode := .region c_laws_toEdge_o3
abbrev c_laws_toEdge_o4 : List AJ := [.o ⟨(some 10), none, false, .fieldA 2 (.t 1), none⟩, .o ⟨(some 11), none, false, .load 1 false (.t 10), none⟩, .o ⟨(some 12), none, false, .fieldA 2 (.t 3), none⟩, .o ⟨none, none, false, .store 1 (.t 12) (.t 11), (some [2, 3])⟩]
def c_laws_toEdge_4 : ACode := .region c_laws_toEdge_o4
abbrev c_laws_toEdge_o5 : List AJ := [.o ⟨(some 13), none, false, .load 3 true (.t 3), none⟩, .o ⟨none, none, false, .store 3 (.t 2) (.t 13), (some [2])⟩]
def c_laws_toEdge_5 : ACode := .region c_laws_toEdge_o5
def c_laws_toEdge_6 : ACode := .seq c_laws_toEdge_5 .ret
def c_laws_toEdge_7 : ACode := .seq c_laws_toEdge_4 c_laws_toEdge_6
def c_laws_toEdge_8 : ACode := .seq c_laws_toEdge_3 c_laws_toEdge_7
def c_laws_toEdge_9 : ACode := .seq c_laws_toEdge_2 c_laws_toEdge_8
def c_laws_toEdge_10 : ACode := .seq c_laws_toEdge_1 c_laws_toEdge_9
def c_laws_toEdge_11 : ACode := .seq c_laws_toEdge_0 c_laws_toEdge_10
section
variable (C : Cx) (n : Nat) (sk : List AItem) (e : Env) (h : Heap) (R : AV → Heap → Prop)
@[simp, simp ↓] theorem c_laws_toEdge_0_r : vc2 C (n + 1) [] (.code c_laws_toEdge_0 :: sk) e h R = (vc2 C n c_laws_toEdge_o0 sk e h R) := nr rfl
@[simp, simp ↓] theorem c_laws_toEdge_1_r : vc2 C (n + 1) [] (.code c_laws_toEdge_1 :: sk) e h R = (vc2 C n c_laws_toEdge_o1 sk e h R) := nr rfl
@[simp, simp ↓] theorem c_laws_toEdge_2_r : vc2 C (n + 1) [] (.code c_laws_toEdge_2 :: sk) e h R = (vc2 C n c_laws_toEdge_o2 sk e h R) := nr rfl
@[simp, simp ↓] theorem c_laws_toEdge_3_r : vc2 C (n + 1) [] (.code c_laws_toEdge_3 :: sk) e h R = (vc2 C n c_laws_toEdge_o3 sk e h R) := nr rfl
@[simp, simp ↓] theorem c_laws_toEdge_4_r : vc2 C (n + 1) [] (.code c_laws_toEdge_4 :: sk) e h R = (vc2 C n c_laws_toEdge_o4 sk e h R) := nr rfl
@[simp, simp ↓] theorem c_laws_toEdge_5_r : vc2 C (n + 1) [] (.code c_laws_toEdge_5 :: sk) e h R = (vc2 C n c_laws_toEdge_o5 sk e h R) := nr rfl
@[simp, simp ↓] theorem c_laws_toEdge_6_r : vc2 C (n + 1) [] (.code c_laws_toEdge_6 :: sk) e h R = (vc2 C n [] (.code c_laws_toEdge_5 :: .code .ret :: sk) e h R) := nr rfl
@[simp, simp ↓] theorem c_laws_toEdge_7_r : vc2 C (n + 1) [] (.code c_laws_toEdge_7 :: sk) e h R = (vc2 C n [] (.code c_laws_toEdge_4 :: .code c_laws_toEdge_6 :: sk) e h R) := nr rfl
@[simp, simp ↓] theorem c_laws_toEdge_8_r : vc2 C (n + 1) [] (.code c_laws_toEdge_8 :: sk) e h R = (vc2 C n [] (.code c_laws_toEdge_3 :: .code c_laws_toEdge_7 :: sk) e h R) := nr rfl
@[simp, simp ↓] theorem c_laws_toEdge_9_r : vc2 C (n + 1) [] (.code c_laws_toEdge_9 :: sk) e h R = (vc2 C n [] (.code c_laws_toEdge_2 :: .code c_laws_toEdge_8 :: sk) e h R) := nr rfl
@[simp, simp ↓] theorem c_laws_toEdge_10_r : vc2 C (n + 1) [] (.code c_laws_toEdge_10 :: sk) e h R = (vc2 C n [] (.code c_laws_toEdge_1 :: .code c_laws_toEdge_9 :: sk) e h R) := nr rfl
@[simp, simp ↓] theorem c_laws_toEdge_11_r : vc2 C (n + 1) [] (.code c_laws_toEdge_11 :: sk) e h R = (vc2 C n [] (.code c_laws_toEdge_0 :: .code c_laws_toEdge_10 :: sk) e h R) := nr rfl
end
noncomputable def c_laws_toEdge_C (orc : Orc) : Cx := ⟨Try.prog, [2, 3], 103, 14, [.cell 2 3 true], orc⟩
@[simp] theorem c_laws_toEdge_C_P (orc : Orc) : (c_laws_toEdge_C orc).P = Try.prog := nr rfl
@[simp] theorem c_laws_toEdge_C_o (orc : Orc) : (c_laws_toEdge_C orc).orc = orc := nr rfl
@[simp] theorem c_laws_toEdge_C_r (orc : Orc) : (c_laws_toEdge_C orc).res = [.cell 2 3 true] := nr rfl
theorem c_laws_toEdge_of {args : List AV} {h : Heap} {R : AV → Heap → Prop} {k : Nat} (ha : args.length = k) {orc : Orc} (hp : Pure Try.prog orc) (hk : Is (c_laws_toEdge_C orc) Try.f103 → Run2 (c_laws_toEdge_C orc) [.code c_laws_toEdge_11] (argEnv 0 args) h (Post R)) (hle : k ≤ 14 := by simp) : ACalls Try.prog 103 args h R :=
  contract2 [2, 3] c_laws_toEdge_11 [.cell 2 3 true] Try.func103 (by decide +kernel) rfl (by kernel_rfl) (by rw [ha]; exact hle) (by kernel_rfl) hp hk
theorem c_laws_toEdge_of0 {args : List AV} {h : Heap} {R : AV → Heap → Prop} {k : Nat} (ha : args.length = k) {orc : Orc} (hp : Pure Try.prog orc) (hk : Is (c_laws_toEdge_C orc) Try.f103 → Run2 (c_laws_toEdge_C orc) [.code c_laws_toEdge_11] (argEnv 0 args) h R) (hle : k ≤ 14 := by simp) : ACalls Try.prog 103 args h R :=
  contract20 [2, 3] c_laws_toEdge_11 [.cell 2 3 true] Try.func103 (by decide +kernel) rfl (by kernel_rfl) (by rw [ha]; exact hle) (by kernel_rfl) hp hk
theorem toEdge_c (x : T) (h : Heap) : ACalls Try.prog 103 [x.av] h (fun v h' => v = x.av ∧ h' = h) := by
  refine c_laws_toEdge_of rfl noPure fun I => ?_
  refine Run2.of I 1000 ?_
  simp -implicitDefEqProofs
  intro a ha b hb1 hb2
  refine gK.go ?_
  simp -implicitDefEqProofs [hb1]
  refine .drop b (.drop a (.base ?_))
  simp -implicitDefEqProofs [hb1]
noncomputable def o_toEdge : List AV → Option (Prop × AV) := tab (fun (x : Int × Int × Int) => match x with | (f, t, s) => [.agg [.int .i64 f, .int .i64 t, .int .i64 s]]) (fun x => match x with | (f, t, s) => True) (fun x => match x with | (f, t, s) => .agg [.int .i64 f, .int .i64 t, .int .i64 s])
@[simp] theorem o_toEdge_e (f : Int) (t : Int) (s : Int) : o_toEdge [.agg [.int .i64 f, .int .i64 t, .int .i64 s]] = some (True, .agg [.int .i64 f, .int .i64 t, .int .i64 s]) := tab_at (enc := fun (x : Int × Int × Int) => match x with | (f, t, s) => [.agg [.int .i64 f, .int .i64 t, .int .i64 s]]) (fun x y h => by
  obtain ⟨f1, t1, s1⟩ := x; obtain ⟨f2, t2, s2⟩ := y; simp at h; simp [h]) _ _ (f, t, s)
theorem o_toEdge_k : Knows Try.prog 103 o_toEdge := tab_knows fun x hx h => by
  obtain ⟨f, t, s⟩ := x; exact toEdge_c ⟨f, t, s⟩ h
abbrev c_laws_toEdgeS_o0 : List AJ := [.o ⟨(some 2), none, false, .mv (.c .nilsl), (some [0])⟩]
def c_laws_toEdgeS_0 : ACode := .region c_laws_toEdgeS_o0
abbrev c_laws_toEdgeS_o1 : List AJ := [.o ⟨(some 5), none, false, .mv (.t 0), none⟩, .o ⟨(some 6), none, false, .len (.t 5), none⟩, .o ⟨(some 7), none, false, .mksl 3 24 (.agg [(.int .i64 0), (.int .i64 0), (.int .i64 0)]) (.t 6) (.t 6), none⟩, .o ⟨(some 3), none, false, .mv (.t 7), (some [0, 3])⟩]
def c_laws_toEdgeS_1 : ACode := .region c_laws_toEdgeS_o1
abbrev c_laws_toEdgeS_o2 : List AJ := [.o ⟨(some 4), none, false, .mv (.c (.int .i64 0)), (some [0, 3, 4])⟩]
def c_laws_toEdgeS_2 : ACode := .region c_laws_toEdgeS_o2
abbrev c_laws_toEdgeS_o3 : List AJ := [.o ⟨(some 8), none, false, .mv (.t 4), none⟩, .o ⟨(some 9), none, false, .mv (.t 0), none⟩, .o ⟨(some 10), none, false, .len (.t 9), none⟩, .o ⟨(some 11), none, false, .bin .lss (.t 8) (.t 10), (some [0, 3, 4, 11])⟩]
def c_laws_toEdgeS_3 : ACode := .region c_laws_toEdgeS_o3
def c_laws_toEdgeS_4 : ACode := .cond (.t 11) .skip (.exit 0)
def c_laws_toEdgeS_5 : ACode := .seq c_laws_toEdgeS_3 c_laws_toEdgeS_4
abbrev c_laws_toEdgeS_o4 : List AJ := [.o ⟨(some 14), none, false, .mv (.t 3), none⟩, .o ⟨(some 15), none, false, .mv (.t 4), none⟩, .o ⟨(some 16), none, false, .mv (.t 0), none⟩, .o ⟨(some 17), none, false, .mv (.t 4), none⟩, .o ⟨(some 18), none, false, .idxA 3 (.t 16) (.t 17), none⟩, .o ⟨(some 19), none, false, .load 3 true (.t 18), none⟩, .o ⟨(some 20), none, false, .call 103 [(.t 19)], none⟩, .o ⟨(some 21), none, false, .idxA 3 (.t 14) (.t 15), none⟩, .o ⟨none, none, false, .store 3 (.t 21) (.t 20), (some [0, 3, 4])⟩]
def c_laws_toEdgeS_6 : ACode := .region c_laws_toEdgeS_o4
def c_laws_toEdgeS_7 : ACode := .block 1 c_laws_toEdgeS_6
abbrev c_laws_toEdgeS_o5 : List AJ := [.o ⟨(some 12), none, false, .mv (.t 4), none⟩, .o ⟨(some 13), none, true, .bin .add (.t 12) (.c (.int .i64 1)), none⟩, .o ⟨(some 4), none, false, .mv (.t 13), (some [0, 3, 4])⟩]
def c_laws_toEdgeS_8 : ACode := .region c_laws_toEdgeS_o5
def c_laws_toEdgeS_9 : ACode := .seq c_laws_toEdgeS_7 c_laws_toEdgeS_8
def c_laws_toEdgeS_10 : ACode := .seq c_laws_toEdgeS_5 c_laws_toEdgeS_9
def c_laws_toEdgeS_11 : ACode := .loop c_laws_toEdgeS_10
def c_laws_toEdgeS_12 : ACode := .block 0 c_laws_toEdgeS_11
def c_laws_toEdgeS_13 : ACode := .seq c_laws_toEdgeS_2 c_laws_toEdgeS_12
abbrev c_laws_toEdgeS_o6 : List AJ := [.o ⟨(some 22), none, false, .mv (.t 3), none⟩, .o ⟨(some 2), none, false, .mv (.t 22), (some [2])⟩]
def c_laws_toEdgeS_14 : ACode := .region c_laws_toEdgeS_o6
def c_laws_toEdgeS_15 : ACode := .seq c_laws_toEdgeS_14 .ret
def c_laws_toEdgeS_16 : ACode := .seq c_laws_toEdgeS_13 c_laws_toEdgeS_15
def c_laws_toEdgeS_17 : ACode := .seq c_laws_toEdgeS_1 c_laws_toEdgeS_16
def c_laws_toEdgeS_18 : ACode := .seq c_laws_toEdgeS_0 c_laws_toEdgeS_17
section
variable (C : Cx) (n : Nat) (sk : List AItem) (e : Env) (h : Heap) (R : AV → Heap → Prop)
@[simp, simp ↓] theorem c_laws_toEdgeS_0_r : vc2 C (n + 1) [] (.code c_laws_toEdgeS_0 :: sk) e h R = (vc2 C n c_laws_toEdgeS_o0 sk e h R) := nr rfl
@[simp, simp ↓] theorem c_laws_toEdgeS_1_r : vc2 C (n + 1) [] (.code c_laws_toEdgeS_1 :: sk) e h R = (vc2 C n c_laws_toEdgeS_o1 sk e h R) := nr rfl
@[simp, simp ↓] theorem c_laws_toEdgeS_2_r : vc2 C (n + 1) [] (.code c_laws_toEdgeS_2 :: sk) e h R = (vc2 C n c_laws_toEdgeS_o2 sk e h R) := nr rfl
@[simp, simp ↓] theorem c_laws_toEdgeS_3_r : vc2 C (n + 1) [] (.code c_laws_toEdgeS_3 :: sk) e h R = (vc2 C n c_laws_toEdgeS_o3 sk e h R) := nr rfl
@[simp, simp ↓] theorem c_laws_toEdgeS_4_r : vc2 C (n + 1) [] (.code c_laws_toEdgeS_4 :: sk) e h R = (condK (ev e (.t 11)) (vc2 C n [] (.code .skip :: sk) e h R) (vc2 C n [] (.code (.exit 0) :: sk) e h R)) := nr rfl
@[simp, simp ↓] theorem c_laws_toEdgeS_5_r : vc2 C (n + 1) [] (.code c_laws_toEdgeS_5 :: sk) e h R = (vc2 C n [] (.code c_laws_toEdgeS_3 :: .code c_laws_toEdgeS_4 :: sk) e h R) := nr rfl
@[simp, simp ↓] theorem c_laws_toEdgeS_6_r : vc2 C (n + 1) [] (.code c_laws_toEdgeS_6 :: sk) e h R = (vc2 C n c_laws_toEdgeS_o4 sk e h R) := nr rfl
@[simp, simp ↓] theorem c_laws_toEdgeS_7_r : vc2 C (n + 1) [] (.code c_laws_toEdgeS_7 :: sk) e h R = (vc2 C n [] (.code c_laws_toEdgeS_6 :: .inBlock 1 :: sk) e h R) := nr rfl
@[simp, simp ↓] theorem c_laws_toEdgeS_8_r : vc2 C (n + 1) [] (.code c_laws_toEdgeS_8 :: sk) e h R = (vc2 C n c_laws_toEdgeS_o5 sk e h R) := nr rfl
@[simp, simp ↓] theorem c_laws_toEdgeS_9_r : vc2 C (n + 1) [] (.code c_laws_toEdgeS_9 :: sk) e h R = (vc2 C n [] (.code c_laws_toEdgeS_7 :: .code c_laws_toEdgeS_8 :: sk) e h R) := nr rfl
@[simp, simp ↓] theorem c_laws_toEdgeS_10_r : vc2 C (n + 1) [] (.code c_laws_toEdgeS_10 :: sk) e h R = (vc2 C n [] (.code c_laws_toEdgeS_5 :: .code c_laws_toEdgeS_9 :: sk) e h R) := nr rfl
@[simp, simp ↓] theorem c_laws_toEdgeS_11_r : vc2 C (n + 1) [] (.code c_laws_toEdgeS_11 :: sk) e h R = (Run2 C (.code c_laws_toEdgeS_10 :: .inLoop c_laws_toEdgeS_10 :: sk) e h R) := nr rfl
@[simp, simp ↓] theorem c_laws_toEdgeS_12_r : vc2 C (n + 1) [] (.code c_laws_toEdgeS_12 :: sk) e h R = (vc2 C n [] (.code c_laws_toEdgeS_11 :: .inBlock 0 :: sk) e h R) := nr rfl
@[simp, simp ↓] theorem c_laws_toEdgeS_13_r : vc2 C (n + 1) [] (.code c_laws_toEdgeS_13 :: sk) e h R = (vc2 C n [] (.code c_laws_toEdgeS_2 :: .code c_laws_toEdgeS_12 :: sk) e h R) := nr rfl
@[simp, simp ↓] theorem c_laws_toEdgeS_14_r : vc2 C (n + 1) [] (.code c_laws_toEdgeS_14 :: sk) e h R = (vc2 C n c_laws_toEdgeS_o6 sk e h R) := nr rfl
@[simp, simp ↓] theorem c_laws_toEdgeS_15_r : vc2 C (n + 1) [] (.code c_laws_toEdgeS_15 :: sk) e h R = (vc2 C n [] (.code c_laws_toEdgeS_14 :: .code .ret :: sk) e h R) := nr rfl
@[simp, simp ↓] theorem c_laws_toEdgeS_16_r : vc2 C (n + 1) [] (.code c_laws_toEdgeS_16 :: sk) e h R = (vc2 C n [] (.code c_laws_toEdgeS_13 :: .code c_laws_toEdgeS_15 :: sk) e h R) := nr rfl
@[simp, simp ↓] theorem c_laws_toEdgeS_17_r : vc2 C (n + 1) [] (.code c_laws_toEdgeS_17 :: sk) e h R = (vc2 C n [] (.code c_laws_toEdgeS_1 :: .code c_laws_toEdgeS_16 :: sk) e h R) := nr rfl
@[simp, simp ↓] theorem c_laws_toEdgeS_18_r : vc2 C (n + 1) [] (.code c_laws_toEdgeS_18 :: sk) e h R = (vc2 C n [] (.code c_laws_toEdgeS_0 :: .code c_laws_toEdgeS_17 :: sk) e h R) := nr rfl
end
noncomputable def c_laws_toEdgeS_C (orc : Orc) : Cx := ⟨Try.prog, [], 58, 23, [.tmp 2], orc⟩
@[simp] theorem c_laws_toEdgeS_C_P (orc : Orc) : (c_laws_toEdgeS_C orc).P = Try.prog := nr rfl
@[simp] theorem c_laws_toEdgeS_C_o (orc : Orc) : (c_laws_toEdgeS_C orc).orc = orc := nr rfl
@[simp] theorem c_laws_toEdgeS_C_r (orc : Orc) : (c_laws_toEdgeS_C orc).res = [.tmp 2] := nr rfl
theorem c_laws_toEdgeS_of {args : List AV} {h : Heap} {R : AV → Heap → Prop} {k : Nat} (ha : args.length = k) {orc : Orc} (hp : Pure Try.prog orc) (hk : Is (c_laws_toEdgeS_C orc) Try.f58 → Run2 (c_laws_toEdgeS_C orc) [.code c_laws_toEdgeS_18] (argEnv 0 args) h (Post R)) (hle : k ≤ 23 := by simp) : ACalls Try.prog 58 args h R :=
  contract2 [] c_laws_toEdgeS_18 [.tmp 2] Try.func58 (by decide +kernel) rfl (by kernel_rfl) (by rw [ha]; exact hle) (by kernel_rfl) hp hk
theorem c_laws_toEdgeS_of0 {args : List AV} {h : Heap} {R : AV → Heap → Prop} {k : Nat} (ha : args.length = k) {orc : Orc} (hp : Pure Try.prog orc) (hk : Is (c_laws_toEdgeS_C orc) Try.f58 → Run2 (c_laws_toEdgeS_C orc) [.code c_laws_toEdgeS_18] (argEnv 0 args) h R) (hle : k ≤ 23 := by simp) : ACalls Try.prog 58 args h R :=
  contract20 [] c_laws_toEdgeS_18 [.tmp 2] Try.func58 (by decide +kernel) rfl (by kernel_rfl) (by rw [ha]; exact hle) (by kernel_rfl) hp hk
theorem toEdgeS_w (l : List T) (h : Heap) (hl : l.length ≤ 1048576) : ACalls Try.prog 58 [.snap 3 (l.map T.av)] h (fun v h' => ∃ id, id ∉ dom h ∧ v = .sl id 3 0 l.length (some l.length) ∧ h' = (id, ⟨3, l.map T.av⟩) :: h) := by
  refine c_laws_toEdgeS_of0 rfl (lk_pure o_toEdge_k lk_pure0) fun I => ?_
  refine Run2.of I 1000 ?_
  simp -implicitDefEqProofs
  refine ⟨by omega, fun id hid => ?_⟩
  refine Run2.loop (fun i => [(0, .snap 3 (l.map T.av)), (3, .sl id 3 0 l.length (some l.length)), (4, .int .i64 (i : Nat))]) (fun i => (id, ⟨3, (l.map T.av).take i ++ List.replicate (l.length - i) tz⟩) :: h) (fun i => l.length - i) (fun i => i ≤ l.length) 0 (Nat.zero_le _) fun i hi ih => ?_
  by_cases hlt : i < l.length
  · refine Run2.of I 1000 ?_
    simp -implicitDefEqProofs [hlt]
    refine ⟨by omega, by omega, ?_⟩
    have := ih (i + 1) (by omega) (by omega)
    simpa [set_fill (l.map T.av) tz (i := i) (n := l.length) (by simp) (by simpa using hlt)] using this
  · obtain rfl : i = l.length := by omega
    refine Run2.of I 1000 ?_
    simp -implicitDefEqProofs
    refine ⟨id, hid, rfl, ?_⟩
    rw [List.take_of_length_le (by simp)]
theorem toEdgeS_c (l : List T) (h : Heap) (hl : l.length ≤ 1048576) : ACalls Try.prog 58 [.snap 3 (l.map T.av)] h (fun v h' => v = .snap 3 (l.map T.av) ∧ h' = h) := by
  refine ACalls.post ((toEdgeS_w l h hl).mono ?_)
  rintro v h' ⟨id, hid, rfl, rfl⟩
  refine .freeze id (by simp; rfl) (.base ?_)
  simp [List.take_of_length_le]
@[simp] theorem T.cold (x : T) : Go.AG.cold x.av = true := rfl
@[simp] theorem T.own (x : T) : Go.AG.own x.av = true := rfl
structure Gr where
  n : Int
  ts : List T
  deriving DecidableEq
@[simp] def Gr.av (x : Gr) : AV := .agg [.int .i64 x.n, .snap 3 (x.ts.map T.av)]
def Gr.ok (x : Gr) : Prop := in64 x.n ∧ ∀ t ∈ x.ts, t.ok
@[simp] theorem Gr_eta (x : Gr) : (⟨x.n, x.ts⟩ : Gr) = x := rfl
def tyG : Ty := .struct (.cons (.int .i64) (.cons (.slice tyT) .nil))
def Gr.wf (p : Gr) : Prop := p.ok ∧ p.ts.length ≤ 9223372036854775807
theorem Gr_of_shape {x : AV} (h : shV tyG x) : ∃ p : Gr, x = p.av ∧ p.wf := by
  obtain ⟨h1, a1, b1, e1, ⟨n1, rfl, r1⟩, a3, b3, rfl, ⟨xs, rfl, hlen, r3⟩, h3⟩ := h
  have hm : maxLen ≤ 9223372036854775807 := by decide
  have h3' : b3 = [] := h3
  subst h3'
  obtain ⟨ts, rfl, hts⟩ := Ts_of_shape r3
  cases x <;> simp [isAgg, tyG, Ty.isS] at h1
  rename_i l
  refine ⟨⟨n1, ts⟩, ?_, ⟨r1, hts⟩, by simp only [List.length_map] at hlen; exact Nat.le_trans hlen hm⟩
  simp only [cellsOf] at e1
  rw [e1]; rfl
abbrev c_laws_toGraph_o0 : List AJ := [.o ⟨(some 1), none, false, .box false 2 (.t 0), none⟩, .o ⟨(some 2), none, false, .alloc true 2 (.agg [(.int .i64 0), .nilsl]), (some [1, 2])⟩]
def c_laws_toGraph_0 : ACode := .region c_laws_toGraph_o0
abbrev c_laws_toGraph_o1 : List AJ := [.o ⟨(some 3), none, false, .alloc true 2 (.agg [(.int .i64 0), .nilsl]), (some [1, 2, 3])⟩]
def c_laws_toGraph_1 : ACode := .region c_laws_toGraph_o1
abbrev c_laws_toGraph_o2 : List AJ := [.o ⟨(some 4), none, false, .fieldA 0 (.t 1), none⟩, .o ⟨(some 5), none, false, .load 1 false (.t 4), none⟩, .o ⟨(some 6), none, false, .fieldA 0 (.t 3), none⟩, .o ⟨none, none, false, .store 1 (.t 6) (.t 5), (some [1, 2, 3])⟩]
def c_laws_toGraph_2 : ACode := .region c_laws_toGraph_o2
abbrev c_laws_toGraph_o3 : List AJ := [.o ⟨(some 7), none, false, .fieldA 1 (.t 1), none⟩, .o ⟨(some 8), none, false, .load 1 false (.t 7), none⟩, .o ⟨(some 9), none, false, .call 58 [(.t 8)], none⟩, .o ⟨(some 10), none, false, .fieldA 1 (.t 3), none⟩, .o ⟨none, none, false, .store 1 (.t 10) (.t 9), (some [2, 3])⟩]
def c_laws_toGraph_3 : ACode := .region c_laws_toGraph_o3
abbrev c_laws_toGraph_o4 : List AJ := [.o ⟨(some 11), none, false, .load 2 true (.t 3), none⟩, .o ⟨none, none, false, .store 2 (.t 2) (.t 11), (some [2])⟩]
def c_laws_toGraph_4 : ACode := .region c_laws_toGraph_o4
def c_laws_toGraph_5 : ACode := .seq c_laws_toGraph_4 .ret
def c_laws_toGraph_6 : ACode := .seq c_laws_toGraph_3 c_laws_toGraph_5
def c_laws_toGraph_7 : ACode := .seq c_laws_toGraph_2 c_laws_toGraph_6
def c_laws_toGraph_8 : ACode := .seq c_laws_toGraph_1 c_laws_toGraph_7
def c_laws_toGraph_9 : ACode := .seq c_laws_toGraph_0 c_laws_toGraph_8
section
variable (C : Cx) (n : Nat) (sk : List AItem) (e : Env) (h : Heap) (R : AV → Heap → Prop)
@[simp, simp ↓] theorem c_laws_toGraph_0_r : vc2 C (n + 1) [] (.code c_laws_toGraph_0 :: sk) e h R = (vc2 C n c_laws_toGraph_o0 sk e h R) := nr rfl
@[simp, simp ↓] theorem c_laws_toGraph_1_r : vc2 C (n + 1) [] (.code c_laws_toGraph_1 :: sk) e h R = (vc2 C n c_laws_toGraph_o1 sk e h R) := nr rfl
@[simp, simp ↓] theorem c_laws_toGraph_2_r : vc2 C (n + 1) [] (.code c_laws_toGraph_2 :: sk) e h R = (vc2 C n c_laws_toGraph_o2 sk e h R) := nr rfl
@[simp, simp ↓] theorem c_laws_toGraph_3_r : vc2 C (n + 1) [] (.code c_laws_toGraph_3 :: sk) e h R = (vc2 C n c_laws_toGraph_o3 sk e h R) := nr rfl
@[simp, simp ↓] theorem c_laws_toGraph_4_r : vc2 C (n + 1) [] (.code c_laws_toGraph_4 :: sk) e h R = (vc2 C n c_laws_toGraph_o4 sk e h R) := nr rfl
@[simp, simp ↓] theorem c_laws_toGraph_5_r : vc2 C (n + 1) [] (.code c_laws_toGraph_5 :: sk) e h R = (vc2 C n [] (.code c_laws_toGraph_4 :: .code .ret :: sk) e h R) := nr rfl
@[simp, simp ↓] theorem c_laws_toGraph_6_r : vc2 C (n + 1) [] (.code c_laws_toGraph_6 :: sk) e h R = (vc2 C n [] (.code c_laws_toGraph_3 :: .code c_laws_toGraph_5 :: sk) e h R) := nr rfl
@[simp, simp ↓] theorem c_laws_toGraph_7_r : vc2 C (n + 1) [] (.code c_laws_toGraph_7 :: sk) e h R = (vc2 C n [] (.code c_laws_toGraph_2 :: .code c_laws_toGraph_6 :: sk) e h R) := nr rfl
@[simp, simp ↓] theorem c_laws_toGraph_8_r : vc2 C (n + 1) [] (.code c_laws_toGraph_8 :: sk) e h R = (vc2 C n [] (.code c_laws_toGraph_1 :: .code c_laws_toGraph_7 :: sk) e h R) := nr rfl
@[simp, simp ↓] theorem c_laws_toGraph_9_r : vc2 C (n + 1) [] (.code c_laws_toGraph_9 :: sk) e h R = (vc2 C n [] (.code c_laws_toGraph_0 :: .code c_laws_toGraph_8 :: sk) e h R) := nr rfl
end
noncomputable def c_laws_toGraph_C (orc : Orc) : Cx := ⟨Try.prog, [2, 3], 17, 12, [.cell 2 2 true], orc⟩
@[simp] theorem c_laws_toGraph_C_P (orc : Orc) : (c_laws_toGraph_C orc).P = Try.prog := nr rfl
@[simp] theorem c_laws_toGraph_C_o (orc : Orc) : (c_laws_toGraph_C orc).orc = orc := nr rfl
@[simp] theorem c_laws_toGraph_C_r (orc : Orc) : (c_laws_toGraph_C orc).res = [.cell 2 2 true] := nr rfl
theorem c_laws_toGraph_of {args : List AV} {h : Heap} {R : AV → Heap → Prop} {k : Nat} (ha : args.length = k) {orc : Orc} (hp : Pure Try.prog orc) (hk : Is (c_laws_toGraph_C orc) Try.f17 → Run2 (c_laws_toGraph_C orc) [.code c_laws_toGraph_9] (argEnv 0 args) h (Post R)) (hle : k ≤ 12 := by simp) : ACalls Try.prog 17 args h R :=
  contract2 [2, 3] c_laws_toGraph_9 [.cell 2 2 true] Try.func17 (by decide +kernel) rfl (by kernel_rfl) (by rw [ha]; exact hle) (by kernel_rfl) hp hk
theorem c_laws_toGraph_of0 {args : List AV} {h : Heap} {R : AV → Heap → Prop} {k : Nat} (ha : args.length = k) {orc : Orc} (hp : Pure Try.prog orc) (hk : Is (c_laws_toGraph_C orc) Try.f17 → Run2 (c_laws_toGraph_C orc) [.code c_laws_toGraph_9] (argEnv 0 args) h R) (hle : k ≤ 12 := by simp) : ACalls Try.prog 17 args h R :=
  contract20 [2, 3] c_laws_toGraph_9 [.cell 2 2 true] Try.func17 (by decide +kernel) rfl (by kernel_rfl) (by rw [ha]; exact hle) (by kernel_rfl) hp hk
theorem toGraph_c (x : Gr) (h : Heap) (hl : x.ts.length ≤ 1048576) : ACalls Try.prog 17 [x.av] h (fun v h' => v = x.av ∧ h' = h) := by
  refine c_laws_toGraph_of rfl noPure fun I => ?_
  refine Run2.of I 1000 ?_
  simp -implicitDefEqProofs
  intro a ha b hb1 hb2
  refine gK.go ?_
  simp -implicitDefEqProofs [hb1]
  refine (toEdgeS_c x.ts _ hl).mono ?_
  rintro v h' ⟨rfl, rfl⟩
  refine gK.go ?_
  simp -implicitDefEqProofs [hb1]
  refine .drop b (.drop a (.base ?_))
  simp -implicitDefEqProofs [hb1]
/-- v is a graph whose edges stand in a block of its own. -/
def OwnG (v : AV) (x : Gr) (hp : Heap) : Prop := ∃ u, v = .agg [.int .i64 x.n, u] ∧ OwnL T.av 3 u x.ts hp
/-- v is a graph that nobody writes. -/
def IsG (v : AV) (x : Gr) : Prop := ∃ u, v = .agg [.int .i64 x.n, u] ∧ IsL T.av 3 u x.ts
theorem IsG.wk {v : AV} {x : Gr} (h : IsG v x) : Wk v x.av := by
  obtain ⟨u, rfl, hu⟩ := h
  exact Wk.agg (.cons (.refl _) (.cons hu.wk .nil))
theorem IsG.cold {v : AV} {x : Gr} (h : IsG v x) : Go.AG.cold v = true := by
  obtain ⟨u, rfl, hu⟩ := h
  simp [Go.AG.cold, colds, hu.cold T.cold]
theorem lend1_agg2 (L : Heap) (a : Int) (u : AV) : lend1 L (.agg [.int .i64 a, u]) = .agg [.int .i64 a, lend1 L u] := by
  induction L generalizing u with
  | nil => rfl
  | cons p L ih => simp only [lend1, fz, fzs]; exact ih _
theorem OwnG.lent {v : AV} {x : Gr} {hp : Heap} (h : OwnG v x hp) : IsG (lend1 hp v) x := by
  obtain ⟨u, rfl, hu⟩ := h
  exact ⟨_, lend1_agg2 hp _ u, hu.lent⟩
theorem OwnG.lentIn {v : AV} {x : Gr} {hp : Heap} (h : OwnG v x hp) {L : Heap} (hs : ∀ p ∈ hp, p ∈ L) (nd : (dom L).Nodup) : IsG (lend1 L v) x := by
  obtain ⟨u, rfl, hu⟩ := h
  exact ⟨_, lend1_agg2 L _ u, hu.lentIn T.cold hs nd⟩
theorem OwnG.own {v : AV} {x : Gr} {hp : Heap} (h : OwnG v x hp) : Go.AG.own v = true ∧ (hp.all fun p => p.2.l.all Go.AG.own) = true := by
  obtain ⟨u, rfl, hu⟩ := h
  exact ⟨by simp [Go.AG.own, owns, (hu.own T.own).1], (hu.own T.own).2⟩
theorem OwnG.nodup {v : AV} {x : Gr} {hp : Heap} (h : OwnG v x hp) : (dom hp).Nodup := by
  obtain ⟨u, rfl, hu⟩ := h
  exact hu.nodup
theorem toGraph_o (x : Gr) (h : Heap) (hl : x.ts.length ≤ 1048576) : ACalls Try.prog 17 [x.av] h (fun v h' => ∃ h1, OwnG v x h1 ∧ (∀ i ∈ dom h1, i ∉ dom h) ∧ h' = h1 ++ h) := by
  refine c_laws_toGraph_of rfl noPure fun I => ?_
  refine Run2.of I 1000 ?_
  simp -implicitDefEqProofs
  intro a ha b hb1 hb2
  refine gK.go ?_
  simp -implicitDefEqProofs [hb1]
  refine (toEdgeS_w x.ts _ hl).mono ?_
  rintro v h' ⟨id, hid, rfl, rfl⟩
  simp [dom] at hid
  refine gK.go ?_
  simp -implicitDefEqProofs [hb1, hid, Ne.symm hid.1, Ne.symm hid.2.1]
  refine .drop b (.drop a (.base ?_))
  refine ⟨[(id, ⟨3, x.ts.map T.av ++ []⟩)], ⟨_, rfl, .sl id _ [] rfl⟩, ?_, ?_⟩
  · simpa [dom] using hid.2.2
  · simp [hid, Ne.symm hid.1, hb1]
abbrev c_laws_szEdgeS_o0 : List AJ := [.o ⟨(some 4), none, false, .mv (.c (.int .i64 0)), (some [0, 1])⟩]
def c_laws_szEdgeS_0 : ACode := .region c_laws_szEdgeS_o0
abbrev c_laws_szEdgeS_o1 : List AJ := [.o ⟨(some 5), none, false, .mv (.t 1), none⟩, .o ⟨(some 6), none, false, .mv (.t 0), none⟩, .o ⟨(some 7), none, false, .len (.t 6), none⟩, .o ⟨(some 8), none, true, .bin .sub (.t 5) (.t 7), none⟩, .o ⟨(some 1), none, false, .mv (.t 8), (some [1])⟩]
def c_laws_szEdgeS_1 : ACode := .region c_laws_szEdgeS_o1
abbrev c_laws_szEdgeS_o2 : List AJ := [.o ⟨(some 9), none, false, .mv (.t 1), none⟩, .o ⟨(some 10), none, false, .bin .lss (.t 9) (.c (.int .i64 0)), (some [1, 10])⟩]
def c_laws_szEdgeS_2 : ACode := .region c_laws_szEdgeS_o2
abbrev c_laws_szEdgeS_o3 : List AJ := [.o ⟨(some 4), none, false, .mv (.c (.int .i64 (-1))), (some [4])⟩]
def c_laws_szEdgeS_3 : ACode := .region c_laws_szEdgeS_o3
def c_laws_szEdgeS_4 : ACode := .seq c_laws_szEdgeS_3 .ret
def c_laws_szEdgeS_5 : ACode := .cond (.t 10) c_laws_szEdgeS_4 .skip
def c_laws_szEdgeS_6 : ACode := .seq c_laws_szEdgeS_2 c_laws_szEdgeS_5
abbrev c_laws_szEdgeS_o4 : List AJ := [.o ⟨(some 11), none, false, .mv (.t 1), none⟩, .o ⟨(some 4), none, false, .mv (.t 11), (some [4])⟩]
def c_laws_szEdgeS_7 : ACode := .region c_laws_szEdgeS_o4
def c_laws_szEdgeS_8 : ACode := .seq c_laws_szEdgeS_7 .ret
def c_laws_szEdgeS_9 : ACode := .seq c_laws_szEdgeS_6 c_laws_szEdgeS_8
def c_laws_szEdgeS_10 : ACode := .seq c_laws_szEdgeS_1 c_laws_szEdgeS_9
def c_laws_szEdgeS_11 : ACode := .seq c_laws_szEdgeS_0 c_laws_szEdgeS_10
section
variable (C : Cx) (n : Nat) (sk : List AItem) (e : Env) (h : Heap) (R : AV → Heap → Prop)
@[simp, simp ↓] theorem c_laws_szEdgeS_0_r : vc2 C (n + 1) [] (.code c_laws_szEdgeS_0 :: sk) e h R = (vc2 C n c_laws_szEdgeS_o0 sk e h R) := nr rfl
@[simp, simp ↓] theorem c_laws_szEdgeS_1_r : vc2 C (n + 1) [] (.code c_laws_szEdgeS_1 :: sk) e h R = (vc2 C n c_laws_szEdgeS_o1 sk e h R) := nr rfl
@[simp, simp ↓] theorem c_laws_szEdgeS_2_r : vc2 C (n + 1) [] (.code c_laws_szEdgeS_2 :: sk) e h R = (vc2 C n c_laws_szEdgeS_o2 sk e h R) := nr rfl
@[simp, simp ↓] theorem c_laws_szEdgeS_3_r : vc2 C (n + 1) [] (.code c_laws_szEdgeS_3 :: sk) e h R = (vc2 C n c_laws_szEdgeS_o3 sk e h R) := nr rfl
@[simp, simp ↓] theorem c_laws_szEdgeS_4_r : vc2 C (n + 1) [] (.code c_laws_szEdgeS_4 :: sk) e h R = (vc2 C n [] (.code c_laws_szEdgeS_3 :: .code .ret :: sk) e h R) := nr rfl
@[simp, simp ↓] theorem c_laws_szEdgeS_5_r : vc2 C (n + 1) [] (.code c_laws_szEdgeS_5 :: sk) e h R = (condK (ev e (.t 10)) (vc2 C n [] (.code c_laws_szEdgeS_4 :: sk) e h R) (vc2 C n [] (.code .skip :: sk) e h R)) := nr rfl
@[simp, simp ↓] theorem c_laws_szEdgeS_6_r : vc2 C (n + 1) [] (.code c_laws_szEdgeS_6 :: sk) e h R = (vc2 C n [] (.code c_laws_szEdgeS_2 :: .code c_laws_szEdgeS_5 :: sk) e h R) := nr rfl
@[simp, simp ↓] theorem c_laws_szEdgeS_7_r : vc2 C (n + 1) [] (.code c_laws_szEdgeS_7 :: sk) e h R = (vc2 C n c_laws_szEdgeS_o4 sk e h R) := nr rfl
@[simp, simp ↓] theorem c_laws_szEdgeS_8_r : vc2 C (n + 1) [] (.code c_laws_szEdgeS_8 :: sk) e h R = (vc2 C n [] (.code c_laws_szEdgeS_7 :: .code .ret :: sk) e h R) := nr rfl
@[simp, simp ↓] theorem c_laws_szEdgeS_9_r : vc2 C (n + 1) [] (.code c_laws_szEdgeS_9 :: sk) e h R = (vc2 C n [] (.code c_laws_szEdgeS_6 :: .code c_laws_szEdgeS_8 :: sk) e h R) := nr rfl
@[simp, simp ↓] theorem c_laws_szEdgeS_10_r : vc2 C (n + 1) [] (.code c_laws_szEdgeS_10 :: sk) e h R = (vc2 C n [] (.code c_laws_szEdgeS_1 :: .code c_laws_szEdgeS_9 :: sk) e h R) := nr rfl
@[simp, simp ↓] theorem c_laws_szEdgeS_11_r : vc2 C (n + 1) [] (.code c_laws_szEdgeS_11 :: sk) e h R = (vc2 C n [] (.code c_laws_szEdgeS_0 :: .code c_laws_szEdgeS_10 :: sk) e h R) := nr rfl
end
noncomputable def c_laws_szEdgeS_C (orc : Orc) : Cx := ⟨Try.prog, [], 56, 12, [.tmp 4], orc⟩
@[simp] theorem c_laws_szEdgeS_C_P (orc : Orc) : (c_laws_szEdgeS_C orc).P = Try.prog := nr rfl
@[simp] theorem c_laws_szEdgeS_C_o (orc : Orc) : (c_laws_szEdgeS_C orc).orc = orc := nr rfl
@[simp] theorem c_laws_szEdgeS_C_r (orc : Orc) : (c_laws_szEdgeS_C orc).res = [.tmp 4] := nr rfl
theorem c_laws_szEdgeS_of {args : List AV} {h : Heap} {R : AV → Heap → Prop} {k : Nat} (ha : args.length = k) {orc : Orc} (hp : Pure Try.prog orc) (hk : Is (c_laws_szEdgeS_C orc) Try.f56 → Run2 (c_laws_szEdgeS_C orc) [.code c_laws_szEdgeS_11] (argEnv 0 args) h (Post R)) (hle : k ≤ 12 := by simp) : ACalls Try.prog 56 args h R :=
  contract2 [] c_laws_szEdgeS_11 [.tmp 4] Try.func56 (by decide +kernel) rfl (by kernel_rfl) (by rw [ha]; exact hle) (by kernel_rfl) hp hk
theorem c_laws_szEdgeS_of0 {args : List AV} {h : Heap} {R : AV → Heap → Prop} {k : Nat} (ha : args.length = k) {orc : Orc} (hp : Pure Try.prog orc) (hk : Is (c_laws_szEdgeS_C orc) Try.f56 → Run2 (c_laws_szEdgeS_C orc) [.code c_laws_szEdgeS_11] (argEnv 0 args) h R) (hle : k ≤ 12 := by simp) : ACalls Try.prog 56 args h R :=
  contract20 [] c_laws_szEdgeS_11 [.tmp 4] Try.func56 (by decide +kernel) rfl (by kernel_rfl) (by rw [ha]; exact hle) (by kernel_rfl) hp hk
theorem szEdgeS_c (l : List T) (n : Int) (h : Heap) (hn : 0 ≤ n ∧ n ≤ 1048576) (hl : l.length ≤ 9223372036854775807) : ACalls Try.prog 56 [.snap 3 (l.map T.av), .int .i64 n] h (fun v h' => v = .int .i64 (if n < l.length then -1 else n - l.length) ∧ h' = h) := by
  refine c_laws_szEdgeS_of0 rfl noPure fun I => ?_
  refine Run2.of I 1000 ?_
  simp -implicitDefEqProofs
  grind
abbrev c_laws_szGraph_o0 : List AJ := [.o ⟨(some 2), none, false, .box false 2 (.t 0), none⟩, .o ⟨(some 4), none, false, .mv (.c (.int .i64 0)), (some [1, 2])⟩]
def c_laws_szGraph_0 : ACode := .region c_laws_szGraph_o0
abbrev c_laws_szGraph_o1 : List AJ := [.o ⟨(some 5), none, false, .fieldA 1 (.t 2), none⟩, .o ⟨(some 6), none, false, .load 1 false (.t 5), none⟩, .o ⟨(some 7), none, false, .mv (.t 1), none⟩, .o ⟨(some 8), none, false, .call 56 [(.t 6), (.t 7)], none⟩, .o ⟨(some 1), none, false, .mv (.t 8), (some [1])⟩]
def c_laws_szGraph_1 : ACode := .region c_laws_szGraph_o1
abbrev c_laws_szGraph_o2 : List AJ := [.o ⟨(some 9), none, false, .mv (.t 1), none⟩, .o ⟨(some 10), none, false, .bin .lss (.t 9) (.c (.int .i64 0)), (some [1, 10])⟩]
def c_laws_szGraph_2 : ACode := .region c_laws_szGraph_o2
abbrev c_laws_szGraph_o3 : List AJ := [.o ⟨(some 4), none, false, .mv (.c (.int .i64 (-1))), (some [4])⟩]
def c_laws_szGraph_3 : ACode := .region c_laws_szGraph_o3
def c_laws_szGraph_4 : ACode := .seq c_laws_szGraph_3 .ret
def c_laws_szGraph_5 : ACode := .cond (.t 10) c_laws_szGraph_4 .skip
def c_laws_szGraph_6 : ACode := .seq c_laws_szGraph_2 c_laws_szGraph_5
abbrev c_laws_szGraph_o4 : List AJ := [.o ⟨(some 11), none, false, .mv (.t 1), none⟩, .o ⟨(some 4), none, false, .mv (.t 11), (some [4])⟩]
def c_laws_szGraph_7 : ACode := .region c_laws_szGraph_o4
def c_laws_szGraph_8 : ACode := .seq c_laws_szGraph_7 .ret
def c_laws_szGraph_9 : ACode := .seq c_laws_szGraph_6 c_laws_szGraph_8
def c_laws_szGraph_10 : ACode := .seq c_laws_szGraph_1 c_laws_szGraph_9
def c_laws_szGraph_11 : ACode := .seq c_laws_szGraph_0 c_laws_szGraph_10
section
variable (C : Cx) (n : Nat) (sk : List AItem) (e : Env) (h : Heap) (R : AV → Heap → Prop)
@[simp, simp ↓] theorem c_laws_szGraph_0_r : vc2 C (n + 1) [] (.code c_laws_szGraph_0 :: sk) e h R = (vc2 C n c_laws_szGraph_o0 sk e h R) := nr rfl
@[simp, simp ↓] theorem c_laws_szGraph_1_r : vc2 C (n + 1) [] (.code c_laws_szGraph_1 :: sk) e h R = (vc2 C n c_laws_szGraph_o1 sk e h R) := nr rfl
@[simp, simp ↓] theorem c_laws_szGraph_2_r : vc2 C (n + 1) [] (.code c_laws_szGraph_2 :: sk) e h R = (vc2 C n c_laws_szGraph_o2 sk e h R) := nr rfl
@[simp, simp ↓] theorem c_laws_szGraph_3_r : vc2 C (n + 1) [] (.code c_laws_szGraph_3 :: sk) e h R = (vc2 C n c_laws_szGraph_o3 sk e h R) := nr rfl
@[simp, simp ↓] theorem c_laws_szGraph_4_r : vc2 C (n + 1) [] (.code c_laws_szGraph_4 :: sk) e h R = (vc2 C n [] (.code c_laws_szGraph_3 :: .code .ret :: sk) e h R) := nr rfl
@[simp, simp ↓] theorem c_laws_szGraph_5_r : vc2 C (n + 1) [] (.code c_laws_szGraph_5 :: sk) e h R = (condK (ev e (.t 10)) (vc2 C n [] (.code c_laws_szGraph_4 :: sk) e h R) (vc2 C n [] (.code .skip :: sk) e h R)) := nr rfl
@[simp, simp ↓] theorem c_laws_szGraph_6_r : vc2 C (n + 1) [] (.code c_laws_szGraph_6 :: sk) e h R = (vc2 C n [] (.code c_laws_szGraph_2 :: .code c_laws_szGraph_5 :: sk) e h R) := nr rfl
@[simp, simp ↓] theorem c_laws_szGraph_7_r : vc2 C (n + 1) [] (.code c_laws_szGraph_7 :: sk) e h R = (vc2 C n c_laws_szGraph_o4 sk e h R) := nr rfl
@[simp, simp ↓] theorem c_laws_szGraph_8_r : vc2 C (n + 1) [] (.code c_laws_szGraph_8 :: sk) e h R = (vc2 C n [] (.code c_laws_szGraph_7 :: .code .ret :: sk) e h R) := nr rfl
@[simp, simp ↓] theorem c_laws_szGraph_9_r : vc2 C (n + 1) [] (.code c_laws_szGraph_9 :: sk) e h R = (vc2 C n [] (.code c_laws_szGraph_6 :: .code c_laws_szGraph_8 :: sk) e h R) := nr rfl
@[simp, simp ↓] theorem c_laws_szGraph_10_r : vc2 C (n + 1) [] (.code c_laws_szGraph_10 :: sk) e h R = (vc2 C n [] (.code c_laws_szGraph_1 :: .code c_laws_szGraph_9 :: sk) e h R) := nr rfl
@[simp, simp ↓] theorem c_laws_szGraph_11_r : vc2 C (n + 1) [] (.code c_laws_szGraph_11 :: sk) e h R = (vc2 C n [] (.code c_laws_szGraph_0 :: .code c_laws_szGraph_10 :: sk) e h R) := nr rfl
end
noncomputable def c_laws_szGraph_C (orc : Orc) : Cx := ⟨Try.prog, [], 15, 12, [.tmp 4], orc⟩
@[simp] theorem c_laws_szGraph_C_P (orc : Orc) : (c_laws_szGraph_C orc).P = Try.prog := nr rfl
@[simp] theorem c_laws_szGraph_C_o (orc : Orc) : (c_laws_szGraph_C orc).orc = orc := nr rfl
@[simp] theorem c_laws_szGraph_C_r (orc : Orc) : (c_laws_szGraph_C orc).res = [.tmp 4] := nr rfl
theorem c_laws_szGraph_of {args : List AV} {h : Heap} {R : AV → Heap → Prop} {k : Nat} (ha : args.length = k) {orc : Orc} (hp : Pure Try.prog orc) (hk : Is (c_laws_szGraph_C orc) Try.f15 → Run2 (c_laws_szGraph_C orc) [.code c_laws_szGraph_11] (argEnv 0 args) h (Post R)) (hle : k ≤ 12 := by simp) : ACalls Try.prog 15 args h R :=
  contract2 [] c_laws_szGraph_11 [.tmp 4] Try.func15 (by decide +kernel) rfl (by kernel_rfl) (by rw [ha]; exact hle) (by kernel_rfl) hp hk
theorem c_laws_szGraph_of0 {args : List AV} {h : Heap} {R : AV → Heap → Prop} {k : Nat} (ha : args.length = k) {orc : Orc} (hp : Pure Try.prog orc) (hk : Is (c_laws_szGraph_C orc) Try.f15 → Run2 (c_laws_szGraph_C orc) [.code c_laws_szGraph_11] (argEnv 0 args) h R) (hle : k ≤ 12 := by simp) : ACalls Try.prog 15 args h R :=
  contract20 [] c_laws_szGraph_11 [.tmp 4] Try.func15 (by decide +kernel) rfl (by kernel_rfl) (by rw [ha]; exact hle) (by kernel_rfl) hp hk
theorem szGraph_c (x : Gr) (n : Int) (h : Heap) (hn : 0 ≤ n ∧ n ≤ 1048576) (hl : x.ts.length ≤ 9223372036854775807) : ACalls Try.prog 15 [x.av, .int .i64 n] h (fun v h' => v = .int .i64 (if n < x.ts.length then -1 else n - x.ts.length) ∧ h' = h) := by
  refine c_laws_szGraph_of0 rfl noPure fun I => ?_
  refine Run2.of I 1000 ?_
  simp -implicitDefEqProofs
  refine (szEdgeS_c x.ts n _ hn hl).mono ?_
  rintro v h' ⟨rfl, rfl⟩
  refine gK.go ?_
  simp -implicitDefEqProofs
  grind
abbrev c_laws_eqEdge_o0 : List AJ := [.o ⟨(some 2), none, false, .box false 3 (.t 0), none⟩, .o ⟨(some 3), none, false, .box false 3 (.t 1), none⟩, .o ⟨(some 4), none, false, .mv (.c (.bool false)), (some [2, 3])⟩]
def c_laws_eqEdge_0 : ACode := .region c_laws_eqEdge_o0
abbrev c_laws_eqEdge_o1 : List AJ := [.o ⟨(some 5), none, false, .fieldA 0 (.t 2), none⟩, .o ⟨(some 6), none, false, .load 1 false (.t 5), none⟩, .o ⟨(some 7), none, false, .fieldA 0 (.t 3), none⟩, .o ⟨(some 8), none, false, .load 1 false (.t 7), none⟩, .o ⟨(some 9), none, false, .bin .neq (.t 6) (.t 8), (some [2, 3, 9])⟩]
def c_laws_eqEdge_1 : ACode := .region c_laws_eqEdge_o1
abbrev c_laws_eqEdge_o2 : List AJ := [.o ⟨(some 4), none, false, .mv (.c (.bool false)), (some [4])⟩]
def c_laws_eqEdge_2 : ACode := .region c_laws_eqEdge_o2
def c_laws_eqEdge_3 : ACode := .seq c_laws_eqEdge_2 .ret
def c_laws_eqEdge_4 : ACode := .cond (.t 9) c_laws_eqEdge_3 .skip
def c_laws_eqEdge_5 : ACode := .seq c_laws_eqEdge_1 c_laws_eqEdge_4
abbrev c_laws_eqEdge_o3 : List AJ := [.o ⟨(some 10), none, false, .fieldA 1 (.t 2), none⟩, .o ⟨(some 11), none, false, .load 1 false (.t 10), none⟩, .o ⟨(some 12), none, false, .fieldA 1 (.t 3), none⟩, .o ⟨(some 13), none, false, .load 1 false (.t 12), none⟩, .o ⟨(some 14), none, false, .bin .neq (.t 11) (.t 13), (some [2, 3, 14])⟩]
def c_laws_eqEdge_6 : ACode := .region c_laws_eqEdge_o3
abbrev c_laws_eqEdge_o4 : List AJ := [.o ⟨(some 4), none, false, .mv (.c (.bool false)), (some [4])⟩]
def c_laws_eqEdge_7 : ACode := .region c_laws_eqEdge_o4
def c_laws_eqEdge_8 : ACode := .seq c_laws_eqEdge_7 .ret
def c_laws_eqEdge_9 : ACode := .cond (.t 14) c_laws_eqEdge_8 .skip
def c_laws_eqEdge_10 : ACode := .seq c_laws_eqEdge_6 c_laws_eqEdge_9
abbrev c_laws_eqEdge_o5 : List AJ := [.o ⟨(some 15), none, false, .fieldA 2 (.t 2), none⟩, .o ⟨(some 16), none, false, .load 1 false (.t 15), none⟩, .o ⟨(some 17), none, false, .fieldA 2 (.t 3), none⟩, .o ⟨(some 18), none, false, .load 1 false (.t 17), none⟩, .o ⟨(some 19), none, false, .bin .neq (.t 16) (.t 18), (some [19])⟩]
def c_laws_eqEdge_11 : ACode := .region c_laws_eqEdge_o5
abbrev c_laws_eqEdge_o6 : List AJ := [.o ⟨(some 4), none, false, .mv (.c (.bool false)), (some [4])⟩]
def c_laws_eqEdge_12 : ACode := .region c_laws_eqEdge_o6
def c_laws_eqEdge_13 : ACode := .seq c_laws_eqEdge_12 .ret
def c_laws_eqEdge_14 : ACode := .cond (.t 19) c_laws_eqEdge_13 .skip
def c_laws_eqEdge_15 : ACode := .seq c_laws_eqEdge_11 c_laws_eqEdge_14
abbrev c_laws_eqEdge_o7 : List AJ := [.o ⟨(some 4), none, false, .mv (.c (.bool true)), (some [4])⟩]
def c_laws_eqEdge_16 : ACode := .region c_laws_eqEdge_o7
def c_laws_eqEdge_17 : ACode := .seq c_laws_eqEdge_16 .ret
def c_laws_eqEdge_18 : ACode := .seq c_laws_eqEdge_15 c_laws_eqEdge_17
def c_laws_eqEdge_19 : ACode := .seq c_laws_eqEdge_10 c_laws_eqEdge_18
def c_laws_eqEdge_20 : ACode := .seq c_laws_eqEdge_5 c_laws_eqEdge_19
def c_laws_eqEdge_21 : ACode := .seq c_laws_eqEdge_0 c_laws_eqEdge_20
section
variable (C : Cx) (n : Nat) (sk : List AItem) (e : Env) (h : Heap) (R : AV → Heap → Prop)
@[simp, simp ↓] theorem c_laws_eqEdge_0_r : vc2 C (n + 1) [] (.code c_laws_eqEdge_0 :: sk) e h R = (vc2 C n c_laws_eqEdge_o0 sk e h R) := nr rfl
@[simp, simp ↓] theorem c_laws_eqEdge_1_r : vc2 C (n + 1) [] (.code c_laws_eqEdge_1 :: sk) e h R = (vc2 C n c_laws_eqEdge_o1 sk e h R) := nr rfl
@[simp, simp ↓] theorem c_laws_eqEdge_2_r : vc2 C (n + 1) [] (.code c_laws_eqEdge_2 :: sk) e h R = (vc2 C n c_laws_eqEdge_o2 sk e h R) := nr rfl
@[simp, simp ↓] theorem c_laws_eqEdge_3_r : vc2 C (n + 1) [] (.code c_laws_eqEdge_3 :: sk) e h R = (vc2 C n [] (.code c_laws_eqEdge_2 :: .code .ret :: sk) e h R) := nr rfl
@[simp, simp ↓] theorem c_laws_eqEdge_4_r : vc2 C (n + 1) [] (.code c_laws_eqEdge_4 :: sk) e h R = (condK (ev e (.t 9)) (vc2 C n [] (.code c_laws_eqEdge_3 :: sk) e h R) (vc2 C n [] (.code .skip :: sk) e h R)) := nr rfl
@[simp, simp ↓] theorem c_laws_eqEdge_5_r : vc2 C (n + 1) [] (.code c_laws_eqEdge_5 :: sk) e h R = (vc2 C n [] (.code c_laws_eqEdge_1 :: .code c_laws_eqEdge_4 :: sk) e h R) := nr rfl
@[simp, simp ↓] theorem c_laws_eqEdge_6_r : vc2 C (n + 1) [] (.code c_laws_eqEdge_6 :: sk) e h R = (vc2 C n c_laws_eqEdge_o3 sk e h R) := nr rfl
@[simp, simp ↓] theorem c_laws_eqEdge_7_r : vc2 C (n + 1) [] (.code c_laws_eqEdge_7 :: sk) e h R = (vc2 C n c_laws_eqEdge_o4 sk e h R) := nr rfl
@[simp, simp ↓] theorem c_laws_eqEdge_8_r : vc2 C (n + 1) [] (.code c_laws_eqEdge_8 :: sk) e h R = (vc2 C n [] (.code c_laws_eqEdge_7 :: .code .ret :: sk) e h R) := nr rfl
@[simp, simp ↓] theorem c_laws_eqEdge_9_r : vc2 C (n + 1) [] (.code c_laws_eqEdge_9 :: sk) e h R = (condK (ev e (.t 14)) (vc2 C n [] (.code c_laws_eqEdge_8 :: sk) e h R) (vc2 C n [] (.code .skip :: sk) e h R)) := nr rfl
@[simp, simp ↓] theorem c_laws_eqEdge_10_r : vc2 C (n + 1) [] (.code c_laws_eqEdge_10 :: sk) e h R = (vc2 C n [] (.code c_laws_eqEdge_6 :: .code c_laws_eqEdge_9 :: sk) e h R) := nr rfl
@[simp, simp ↓] theorem c_laws_eqEdge_11_r : vc2 C (n + 1) [] (.code c_laws_eqEdge_11 :: sk) e h R = (vc2 C n c_laws_eqEdge_o5 sk e h R) := nr rfl
@[simp, simp ↓] theorem c_laws_eqEdge_12_r : vc2 C (n + 1) [] (.code c_laws_eqEdge_12 :: sk) e h R = (vc2 C n c_laws_eqEdge_o6 sk e h R) := nr rfl
@[simp, simp ↓] theorem c_laws_eqEdge_13_r : vc2 C (n + 1) [] (.code c_laws_eqEdge_13 :: sk) e h R = (vc2 C n [] (.code c_laws_eqEdge_12 :: .code .ret :: sk) e h R) := nr rfl
@[simp, simp ↓] theorem c_laws_eqEdge_14_r : vc2 C (n + 1) [] (.code c_laws_eqEdge_14 :: sk) e h R = (condK (ev e (.t 19)) (vc2 C n [] (.code c_laws_eqEdge_13 :: sk) e h R) (vc2 C n [] (.code .skip :: sk) e h R)) := nr rfl
@[simp, simp ↓] theorem c_laws_eqEdge_15_r : vc2 C (n + 1) [] (.code c_laws_eqEdge_15 :: sk) e h R = (vc2 C n [] (.code c_laws_eqEdge_11 :: .code c_laws_eqEdge_14 :: sk) e h R) := nr rfl
@[simp, simp ↓] theorem c_laws_eqEdge_16_r : vc2 C (n + 1) [] (.code c_laws_eqEdge_16 :: sk) e h R = (vc2 C n c_laws_eqEdge_o7 sk e h R) := nr rfl
@[simp, simp ↓] theorem c_laws_eqEdge_17_r : vc2 C (n + 1) [] (.code c_laws_eqEdge_17 :: sk) e h R = (vc2 C n [] (.code c_laws_eqEdge_16 :: .code .ret :: sk) e h R) := nr rfl
@[simp, simp ↓] theorem c_laws_eqEdge_18_r : vc2 C (n + 1) [] (.code c_laws_eqEdge_18 :: sk) e h R = (vc2 C n [] (.code c_laws_eqEdge_15 :: .code c_laws_eqEdge_17 :: sk) e h R) := nr rfl
@[simp, simp ↓] theorem c_laws_eqEdge_19_r : vc2 C (n + 1) [] (.code c_laws_eqEdge_19 :: sk) e h R = (vc2 C n [] (.code c_laws_eqEdge_10 :: .code c_laws_eqEdge_18 :: sk) e h R) := nr rfl
@[simp, simp ↓] theorem c_laws_eqEdge_20_r : vc2 C (n + 1) [] (.code c_laws_eqEdge_20 :: sk) e h R = (vc2 C n [] (.code c_laws_eqEdge_5 :: .code c_laws_eqEdge_19 :: sk) e h R) := nr rfl
@[simp, simp ↓] theorem c_laws_eqEdge_21_r : vc2 C (n + 1) [] (.code c_laws_eqEdge_21 :: sk) e h R = (vc2 C n [] (.code c_laws_eqEdge_0 :: .code c_laws_eqEdge_20 :: sk) e h R) := nr rfl
end
noncomputable def c_laws_eqEdge_C (orc : Orc) : Cx := ⟨Try.prog, [], 106, 20, [.tmp 4], orc⟩
@[simp] theorem c_laws_eqEdge_C_P (orc : Orc) : (c_laws_eqEdge_C orc).P = Try.prog := nr rfl
@[simp] theorem c_laws_eqEdge_C_o (orc : Orc) : (c_laws_eqEdge_C orc).orc = orc := nr rfl
@[simp] theorem c_laws_eqEdge_C_r (orc : Orc) : (c_laws_eqEdge_C orc).res = [.tmp 4] := nr rfl
theorem c_laws_eqEdge_of {args : List AV} {h : Heap} {R : AV → Heap → Prop} {k : Nat} (ha : args.length = k) {orc : Orc} (hp : Pure Try.prog orc) (hk : Is (c_laws_eqEdge_C orc) Try.f106 → Run2 (c_laws_eqEdge_C orc) [.code c_laws_eqEdge_21] (argEnv 0 args) h (Post R)) (hle : k ≤ 20 := by simp) : ACalls Try.prog 106 args h R :=
  contract2 [] c_laws_eqEdge_21 [.tmp 4] Try.func106 (by decide +kernel) rfl (by kernel_rfl) (by rw [ha]; exact hle) (by kernel_rfl) hp hk
theorem c_laws_eqEdge_of0 {args : List AV} {h : Heap} {R : AV → Heap → Prop} {k : Nat} (ha : args.length = k) {orc : Orc} (hp : Pure Try.prog orc) (hk : Is (c_laws_eqEdge_C orc) Try.f106 → Run2 (c_laws_eqEdge_C orc) [.code c_laws_eqEdge_21] (argEnv 0 args) h R) (hle : k ≤ 20 := by simp) : ACalls Try.prog 106 args h R :=
  contract20 [] c_laws_eqEdge_21 [.tmp 4] Try.func106 (by decide +kernel) rfl (by kernel_rfl) (by rw [ha]; exact hle) (by kernel_rfl) hp hk
theorem eqEdge_c (x y : T) (h : Heap) : ACalls Try.prog 106 [x.av, y.av] h (fun v h' => v = .bool (decide (x = y)) ∧ h' = h) := by
  refine c_laws_eqEdge_of0 rfl noPure fun I => ?_
  cases x; cases y
  refine Run2.of I 1000 ?_
  simp -implicitDefEqProofs
  grind
noncomputable def o_eqEdge : List AV → Option (Prop × AV) := tab (fun (x : Int × Int × Int × Int × Int × Int) => match x with | (f, t, s, f', t', s') => [.agg [.int .i64 f, .int .i64 t, .int .i64 s], .agg [.int .i64 f', .int .i64 t', .int .i64 s']]) (fun x => match x with | (f, t, s, f', t', s') => True) (fun x => match x with | (f, t, s, f', t', s') => .bool (decide ((⟨f, t, s⟩ : T) = ⟨f', t', s'⟩)))
@[simp] theorem o_eqEdge_e (f : Int) (t : Int) (s : Int) (f' : Int) (t' : Int) (s' : Int) : o_eqEdge [.agg [.int .i64 f, .int .i64 t, .int .i64 s], .agg [.int .i64 f', .int .i64 t', .int .i64 s']] = some (True, .bool (decide ((⟨f, t, s⟩ : T) = ⟨f', t', s'⟩))) := tab_at (enc := fun (x : Int × Int × Int × Int × Int × Int) => match x with | (f, t, s, f', t', s') => [.agg [.int .i64 f, .int .i64 t, .int .i64 s], .agg [.int .i64 f', .int .i64 t', .int .i64 s']]) (fun x y h => by
  obtain ⟨f1, t1, s1, f'1, t'1, s'1⟩ := x; obtain ⟨f2, t2, s2, f'2, t'2, s'2⟩ := y; simp at h; simp [h]) _ _ (f, t, s, f', t', s')
theorem o_eqEdge_k : Knows Try.prog 106 o_eqEdge := tab_knows fun x hx h => by
  obtain ⟨f, t, s, f', t', s'⟩ := x; exact eqEdge_c ⟨f, t, s⟩ ⟨f', t', s'⟩ h
abbrev c_laws_eqEdgeS_o0 : List AJ := [.o ⟨(some 4), none, false, .mv (.c (.bool false)), (some [0, 1])⟩]
def c_laws_eqEdgeS_0 : ACode := .region c_laws_eqEdgeS_o0
abbrev c_laws_eqEdgeS_o1 : List AJ := [.o ⟨(some 6), none, false, .mv (.t 0), none⟩, .o ⟨(some 7), none, false, .len (.t 6), none⟩, .o ⟨(some 8), none, false, .mv (.t 1), none⟩, .o ⟨(some 9), none, false, .len (.t 8), none⟩, .o ⟨(some 10), none, false, .bin .neq (.t 7) (.t 9), (some [0, 1, 10])⟩]
def c_laws_eqEdgeS_1 : ACode := .region c_laws_eqEdgeS_o1
abbrev c_laws_eqEdgeS_o2 : List AJ := [.o ⟨(some 4), none, false, .mv (.c (.bool false)), (some [4])⟩]
def c_laws_eqEdgeS_2 : ACode := .region c_laws_eqEdgeS_o2
def c_laws_eqEdgeS_3 : ACode := .seq c_laws_eqEdgeS_2 .ret
def c_laws_eqEdgeS_4 : ACode := .cond (.t 10) c_laws_eqEdgeS_3 .skip
def c_laws_eqEdgeS_5 : ACode := .seq c_laws_eqEdgeS_1 c_laws_eqEdgeS_4
abbrev c_laws_eqEdgeS_o3 : List AJ := [.o ⟨(some 5), none, false, .mv (.c (.int .i64 0)), (some [0, 1, 5])⟩]
def c_laws_eqEdgeS_6 : ACode := .region c_laws_eqEdgeS_o3
abbrev c_laws_eqEdgeS_o4 : List AJ := [.o ⟨(some 11), none, false, .mv (.t 5), none⟩, .o ⟨(some 12), none, false, .mv (.t 0), none⟩, .o ⟨(some 13), none, false, .len (.t 12), none⟩, .o ⟨(some 14), none, false, .bin .lss (.t 11) (.t 13), (some [0, 1, 5, 14])⟩]
def c_laws_eqEdgeS_7 : ACode := .region c_laws_eqEdgeS_o4
def c_laws_eqEdgeS_8 : ACode := .cond (.t 14) .skip (.exit 0)
def c_laws_eqEdgeS_9 : ACode := .seq c_laws_eqEdgeS_7 c_laws_eqEdgeS_8
abbrev c_laws_eqEdgeS_o5 : List AI := [⟨(some 17), none, false, .mv (.t 0), none⟩, ⟨(some 18), none, false, .mv (.t 5), none⟩, ⟨(some 19), none, false, .idxA 3 (.t 17) (.t 18), none⟩, ⟨(some 20), none, false, .load 3 true (.t 19), none⟩, ⟨(some 21), none, false, .mv (.t 1), none⟩, ⟨(some 22), none, false, .mv (.t 5), none⟩, ⟨(some 23), none, false, .idxA 3 (.t 21) (.t 22), none⟩, ⟨(some 24), none, false, .load 3 true (.t 23), none⟩, ⟨(some 25), none, false, .call 106 [(.t 20), (.t 24)], none⟩, ⟨(some 26), none, false, .un .not (.t 25), (some [0, 1, 5, 26])⟩]
def c_laws_eqEdgeS_10 : ACode := .draw c_laws_eqEdgeS_o5 [] rfl
abbrev c_laws_eqEdgeS_o6 : List AJ := [.o ⟨(some 4), none, false, .mv (.c (.bool false)), (some [4])⟩]
def c_laws_eqEdgeS_11 : ACode := .region c_laws_eqEdgeS_o6
def c_laws_eqEdgeS_12 : ACode := .seq c_laws_eqEdgeS_11 .ret
def c_laws_eqEdgeS_13 : ACode := .cond (.t 26) c_laws_eqEdgeS_12 .skip
def c_laws_eqEdgeS_14 : ACode := .seq c_laws_eqEdgeS_10 c_laws_eqEdgeS_13
def c_laws_eqEdgeS_15 : ACode := .block 1 c_laws_eqEdgeS_14
abbrev c_laws_eqEdgeS_o7 : List AJ := [.o ⟨(some 15), none, false, .mv (.t 5), none⟩, .o ⟨(some 16), none, true, .bin .add (.t 15) (.c (.int .i64 1)), none⟩, .o ⟨(some 5), none, false, .mv (.t 16), (some [0, 1, 5])⟩]
def c_laws_eqEdgeS_16 : ACode := .region c_laws_eqEdgeS_o7
def c_laws_eqEdgeS_17 : ACode := .seq c_laws_eqEdgeS_15 c_laws_eqEdgeS_16
def c_laws_eqEdgeS_18 : ACode := .seq c_laws_eqEdgeS_9 c_laws_eqEdgeS_17
def c_laws_eqEdgeS_19 : ACode := .loop c_laws_eqEdgeS_18
def c_laws_eqEdgeS_20 : ACode := .block 0 c_laws_eqEdgeS_19
def c_laws_eqEdgeS_21 : ACode := .seq c_laws_eqEdgeS_6 c_laws_eqEdgeS_20
abbrev c_laws_eqEdgeS_o8 : List AJ := [.o ⟨(some 4), none, false, .mv (.c (.bool true)), (some [4])⟩]
def c_laws_eqEdgeS_22 : ACode := .region c_laws_eqEdgeS_o8
def c_laws_eqEdgeS_23 : ACode := .seq c_laws_eqEdgeS_22 .ret
def c_laws_eqEdgeS_24 : ACode := .seq c_laws_eqEdgeS_21 c_laws_eqEdgeS_23
def c_laws_eqEdgeS_25 : ACode := .seq c_laws_eqEdgeS_5 c_laws_eqEdgeS_24
def c_laws_eqEdgeS_26 : ACode := .seq c_laws_eqEdgeS_0 c_laws_eqEdgeS_25
section
variable (C : Cx) (n : Nat) (sk : List AItem) (e : Env) (h : Heap) (R : AV → Heap → Prop)
@[simp, simp ↓] theorem c_laws_eqEdgeS_0_r : vc2 C (n + 1) [] (.code c_laws_eqEdgeS_0 :: sk) e h R = (vc2 C n c_laws_eqEdgeS_o0 sk e h R) := nr rfl
@[simp, simp ↓] theorem c_laws_eqEdgeS_1_r : vc2 C (n + 1) [] (.code c_laws_eqEdgeS_1 :: sk) e h R = (vc2 C n c_laws_eqEdgeS_o1 sk e h R) := nr rfl
@[simp, simp ↓] theorem c_laws_eqEdgeS_2_r : vc2 C (n + 1) [] (.code c_laws_eqEdgeS_2 :: sk) e h R = (vc2 C n c_laws_eqEdgeS_o2 sk e h R) := nr rfl
@[simp, simp ↓] theorem c_laws_eqEdgeS_3_r : vc2 C (n + 1) [] (.code c_laws_eqEdgeS_3 :: sk) e h R = (vc2 C n [] (.code c_laws_eqEdgeS_2 :: .code .ret :: sk) e h R) := nr rfl
@[simp, simp ↓] theorem c_laws_eqEdgeS_4_r : vc2 C (n + 1) [] (.code c_laws_eqEdgeS_4 :: sk) e h R = (condK (ev e (.t 10)) (vc2 C n [] (.code c_laws_eqEdgeS_3 :: sk) e h R) (vc2 C n [] (.code .skip :: sk) e h R)) := nr rfl
@[simp, simp ↓] theorem c_laws_eqEdgeS_5_r : vc2 C (n + 1) [] (.code c_laws_eqEdgeS_5 :: sk) e h R = (vc2 C n [] (.code c_laws_eqEdgeS_1 :: .code c_laws_eqEdgeS_4 :: sk) e h R) := nr rfl
@[simp, simp ↓] theorem c_laws_eqEdgeS_6_r : vc2 C (n + 1) [] (.code c_laws_eqEdgeS_6 :: sk) e h R = (vc2 C n c_laws_eqEdgeS_o3 sk e h R) := nr rfl
@[simp, simp ↓] theorem c_laws_eqEdgeS_7_r : vc2 C (n + 1) [] (.code c_laws_eqEdgeS_7 :: sk) e h R = (vc2 C n c_laws_eqEdgeS_o4 sk e h R) := nr rfl
@[simp, simp ↓] theorem c_laws_eqEdgeS_8_r : vc2 C (n + 1) [] (.code c_laws_eqEdgeS_8 :: sk) e h R = (condK (ev e (.t 14)) (vc2 C n [] (.code .skip :: sk) e h R) (vc2 C n [] (.code (.exit 0) :: sk) e h R)) := nr rfl
@[simp, simp ↓] theorem c_laws_eqEdgeS_9_r : vc2 C (n + 1) [] (.code c_laws_eqEdgeS_9 :: sk) e h R = (vc2 C n [] (.code c_laws_eqEdgeS_7 :: .code c_laws_eqEdgeS_8 :: sk) e h R) := nr rfl
@[simp, simp ↓] theorem c_laws_eqEdgeS_10_r : vc2 C (n + 1) [] (.code c_laws_eqEdgeS_10 :: sk) e h R = (draw2 C h (vK C n [] sk R h) c_laws_eqEdgeS_o5 e) := nr rfl
@[simp, simp ↓] theorem c_laws_eqEdgeS_11_r : vc2 C (n + 1) [] (.code c_laws_eqEdgeS_11 :: sk) e h R = (vc2 C n c_laws_eqEdgeS_o6 sk e h R) := nr rfl
@[simp, simp ↓] theorem c_laws_eqEdgeS_12_r : vc2 C (n + 1) [] (.code c_laws_eqEdgeS_12 :: sk) e h R = (vc2 C n [] (.code c_laws_eqEdgeS_11 :: .code .ret :: sk) e h R) := nr rfl
@[simp, simp ↓] theorem c_laws_eqEdgeS_13_r : vc2 C (n + 1) [] (.code c_laws_eqEdgeS_13 :: sk) e h R = (condK (ev e (.t 26)) (vc2 C n [] (.code c_laws_eqEdgeS_12 :: sk) e h R) (vc2 C n [] (.code .skip :: sk) e h R)) := nr rfl
@[simp, simp ↓] theorem c_laws_eqEdgeS_14_r : vc2 C (n + 1) [] (.code c_laws_eqEdgeS_14 :: sk) e h R = (vc2 C n [] (.code c_laws_eqEdgeS_10 :: .code c_laws_eqEdgeS_13 :: sk) e h R) := nr rfl
@[simp, simp ↓] theorem c_laws_eqEdgeS_15_r : vc2 C (n + 1) [] (.code c_laws_eqEdgeS_15 :: sk) e h R = (vc2 C n [] (.code c_laws_eqEdgeS_14 :: .inBlock 1 :: sk) e h R) := nr rfl
@[simp, simp ↓] theorem c_laws_eqEdgeS_16_r : vc2 C (n + 1) [] (.code c_laws_eqEdgeS_16 :: sk) e h R = (vc2 C n c_laws_eqEdgeS_o7 sk e h R) := nr rfl
@[simp, simp ↓] theorem c_laws_eqEdgeS_17_r : vc2 C (n + 1) [] (.code c_laws_eqEdgeS_17 :: sk) e h R = (vc2 C n [] (.code c_laws_eqEdgeS_15 :: .code c_laws_eqEdgeS_16 :: sk) e h R) := nr rfl
@[simp, simp ↓] theorem c_laws_eqEdgeS_18_r : vc2 C (n + 1) [] (.code c_laws_eqEdgeS_18 :: sk) e h R = (vc2 C n [] (.code c_laws_eqEdgeS_9 :: .code c_laws_eqEdgeS_17 :: sk) e h R) := nr rfl
@[simp, simp ↓] theorem c_laws_eqEdgeS_19_r : vc2 C (n + 1) [] (.code c_laws_eqEdgeS_19 :: sk) e h R = (Run2 C (.code c_laws_eqEdgeS_18 :: .inLoop c_laws_eqEdgeS_18 :: sk) e h R) := nr rfl
@[simp, simp ↓] theorem c_laws_eqEdgeS_20_r : vc2 C (n + 1) [] (.code c_laws_eqEdgeS_20 :: sk) e h R = (vc2 C n [] (.code c_laws_eqEdgeS_19 :: .inBlock 0 :: sk) e h R) := nr rfl
@[simp, simp ↓] theorem c_laws_eqEdgeS_21_r : vc2 C (n + 1) [] (.code c_laws_eqEdgeS_21 :: sk) e h R = (vc2 C n [] (.code c_laws_eqEdgeS_6 :: .code c_laws_eqEdgeS_20 :: sk) e h R) := nr rfl
@[simp, simp ↓] theorem c_laws_eqEdgeS_22_r : vc2 C (n + 1) [] (.code c_laws_eqEdgeS_22 :: sk) e h R = (vc2 C n c_laws_eqEdgeS_o8 sk e h R) := nr rfl
@[simp, simp ↓] theorem c_laws_eqEdgeS_23_r : vc2 C (n + 1) [] (.code c_laws_eqEdgeS_23 :: sk) e h R = (vc2 C n [] (.code c_laws_eqEdgeS_22 :: .code .ret :: sk) e h R) := nr rfl
@[simp, simp ↓] theorem c_laws_eqEdgeS_24_r : vc2 C (n + 1) [] (.code c_laws_eqEdgeS_24 :: sk) e h R = (vc2 C n [] (.code c_laws_eqEdgeS_21 :: .code c_laws_eqEdgeS_23 :: sk) e h R) := nr rfl
@[simp, simp ↓] theorem c_laws_eqEdgeS_25_r : vc2 C (n + 1) [] (.code c_laws_eqEdgeS_25 :: sk) e h R = (vc2 C n [] (.code c_laws_eqEdgeS_5 :: .code c_laws_eqEdgeS_24 :: sk) e h R) := nr rfl
@[simp, simp ↓] theorem c_laws_eqEdgeS_26_r : vc2 C (n + 1) [] (.code c_laws_eqEdgeS_26 :: sk) e h R = (vc2 C n [] (.code c_laws_eqEdgeS_0 :: .code c_laws_eqEdgeS_25 :: sk) e h R) := nr rfl
end
noncomputable def c_laws_eqEdgeS_C (orc : Orc) : Cx := ⟨Try.prog, [], 62, 27, [.tmp 4], orc⟩
@[simp] theorem c_laws_eqEdgeS_C_P (orc : Orc) : (c_laws_eqEdgeS_C orc).P = Try.prog := nr rfl
@[simp] theorem c_laws_eqEdgeS_C_o (orc : Orc) : (c_laws_eqEdgeS_C orc).orc = orc := nr rfl
@[simp] theorem c_laws_eqEdgeS_C_r (orc : Orc) : (c_laws_eqEdgeS_C orc).res = [.tmp 4] := nr rfl
theorem c_laws_eqEdgeS_of {args : List AV} {h : Heap} {R : AV → Heap → Prop} {k : Nat} (ha : args.length = k) {orc : Orc} (hp : Pure Try.prog orc) (hk : Is (c_laws_eqEdgeS_C orc) Try.f62 → Run2 (c_laws_eqEdgeS_C orc) [.code c_laws_eqEdgeS_26] (argEnv 0 args) h (Post R)) (hle : k ≤ 27 := by simp) : ACalls Try.prog 62 args h R :=
  contract2 [] c_laws_eqEdgeS_26 [.tmp 4] Try.func62 (by decide +kernel) rfl (by kernel_rfl) (by rw [ha]; exact hle) (by kernel_rfl) hp hk
theorem c_laws_eqEdgeS_of0 {args : List AV} {h : Heap} {R : AV → Heap → Prop} {k : Nat} (ha : args.length = k) {orc : Orc} (hp : Pure Try.prog orc) (hk : Is (c_laws_eqEdgeS_C orc) Try.f62 → Run2 (c_laws_eqEdgeS_C orc) [.code c_laws_eqEdgeS_26] (argEnv 0 args) h R) (hle : k ≤ 27 := by simp) : ACalls Try.prog 62 args h R :=
  contract20 [] c_laws_eqEdgeS_26 [.tmp 4] Try.func62 (by decide +kernel) rfl (by kernel_rfl) (by rw [ha]; exact hle) (by kernel_rfl) hp hk
theorem eqEdgeS_c (l m : List T) (h : Heap) (hl : l.length ≤ 1048576) : ACalls Try.prog 62 [.snap 3 (l.map T.av), .snap 3 (m.map T.av)] h (fun v h' => v = .bool (decide (l = m)) ∧ h' = h) := by
  refine c_laws_eqEdgeS_of0 rfl (lk_pure o_eqEdge_k lk_pure0) fun I => ?_
  refine Run2.of I 1000 ?_
  simp -implicitDefEqProofs
  refine ⟨by rintro hne rfl; exact hne rfl, fun hlen => ?_⟩
  refine Run2.loop (fun i => [(0, .snap 3 (l.map T.av)), (1, .snap 3 (m.map T.av)), (5, .int .i64 (i : Nat))]) (fun i => h) (fun i => l.length - i) (fun i => i ≤ l.length ∧ l.take i = m.take i) 0 (by simp) fun i hi ih => ?_
  by_cases hlt : i < l.length
  · have hlt' : i < m.length := by omega
    refine Run2.of I 1000 ?_
    simp -implicitDefEqProofs [hlt, hlt']
    constructor
    · rintro hne rfl
      exact hne rfl
    · intro he
      refine ⟨by omega, ?_⟩
      have := ih (i + 1) ⟨by omega, by rw [List.take_succ_eq_append_getElem hlt, List.take_succ_eq_append_getElem hlt', hi.2, he]⟩ (by omega)
      simpa using this
  · refine Run2.of I 1000 ?_
    simp -implicitDefEqProofs [hlt]
    have : i = l.length := by omega
    have h2 := hi.2
    rw [List.take_of_length_le (by omega), List.take_of_length_le (by omega)] at h2
    exact h2
abbrev c_laws_eqGraph_o0 : List AJ := [.o ⟨(some 2), none, false, .box false 2 (.t 0), none⟩, .o ⟨(some 3), none, false, .box false 2 (.t 1), none⟩, .o ⟨(some 4), none, false, .mv (.c (.bool false)), (some [2, 3])⟩]
def c_laws_eqGraph_0 : ACode := .region c_laws_eqGraph_o0
abbrev c_laws_eqGraph_o1 : List AJ := [.o ⟨(some 5), none, false, .fieldA 0 (.t 2), none⟩, .o ⟨(some 6), none, false, .load 1 false (.t 5), none⟩, .o ⟨(some 7), none, false, .fieldA 0 (.t 3), none⟩, .o ⟨(some 8), none, false, .load 1 false (.t 7), none⟩, .o ⟨(some 9), none, false, .bin .neq (.t 6) (.t 8), (some [2, 3, 9])⟩]
def c_laws_eqGraph_1 : ACode := .region c_laws_eqGraph_o1
abbrev c_laws_eqGraph_o2 : List AJ := [.o ⟨(some 4), none, false, .mv (.c (.bool false)), (some [4])⟩]
def c_laws_eqGraph_2 : ACode := .region c_laws_eqGraph_o2
def c_laws_eqGraph_3 : ACode := .seq c_laws_eqGraph_2 .ret
def c_laws_eqGraph_4 : ACode := .cond (.t 9) c_laws_eqGraph_3 .skip
def c_laws_eqGraph_5 : ACode := .seq c_laws_eqGraph_1 c_laws_eqGraph_4
abbrev c_laws_eqGraph_o3 : List AJ := [.o ⟨(some 10), none, false, .fieldA 1 (.t 2), none⟩, .o ⟨(some 11), none, false, .load 1 false (.t 10), none⟩, .o ⟨(some 12), none, false, .fieldA 1 (.t 3), none⟩, .o ⟨(some 13), none, false, .load 1 false (.t 12), none⟩, .o ⟨(some 14), none, false, .call 62 [(.t 11), (.t 13)], none⟩, .o ⟨(some 15), none, false, .un .not (.t 14), (some [15])⟩]
def c_laws_eqGraph_6 : ACode := .region c_laws_eqGraph_o3
abbrev c_laws_eqGraph_o4 : List AJ := [.o ⟨(some 4), none, false, .mv (.c (.bool false)), (some [4])⟩]
def c_laws_eqGraph_7 : ACode := .region c_laws_eqGraph_o4
def c_laws_eqGraph_8 : ACode := .seq c_laws_eqGraph_7 .ret
def c_laws_eqGraph_9 : ACode := .cond (.t 15) c_laws_eqGraph_8 .skip
def c_laws_eqGraph_10 : ACode := .seq c_laws_eqGraph_6 c_laws_eqGraph_9
abbrev c_laws_eqGraph_o5 : List AJ := [.o ⟨(some 4), none, false, .mv (.c (.bool true)), (some [4])⟩]
def c_laws_eqGraph_11 : ACode := .region c_laws_eqGraph_o5
def c_laws_eqGraph_12 : ACode := .seq c_laws_eqGraph_11 .ret
def c_laws_eqGraph_13 : ACode := .seq c_laws_eqGraph_10 c_laws_eqGraph_12
def c_laws_eqGraph_14 : ACode := .seq c_laws_eqGraph_5 c_laws_eqGraph_13
def c_laws_eqGraph_15 : ACode := .seq c_laws_eqGraph_0 c_laws_eqGraph_14
section
variable (C : Cx) (n : Nat) (sk : List AItem) (e : Env) (h : Heap) (R : AV → Heap → Prop)
@[simp, simp ↓] theorem c_laws_eqGraph_0_r : vc2 C (n + 1) [] (.code c_laws_eqGraph_0 :: sk) e h R = (vc2 C n c_laws_eqGraph_o0 sk e h R) := nr rfl
@[simp, simp ↓] theorem c_laws_eqGraph_1_r : vc2 C (n + 1) [] (.code c_laws_eqGraph_1 :: sk) e h R = (vc2 C n c_laws_eqGraph_o1 sk e h R) := nr rfl
@[simp, simp ↓] theorem c_laws_eqGraph_2_r : vc2 C (n + 1) [] (.code c_laws_eqGraph_2 :: sk) e h R = (vc2 C n c_laws_eqGraph_o2 sk e h R) := nr rfl
@[simp, simp ↓] theorem c_laws_eqGraph_3_r : vc2 C (n + 1) [] (.code c_laws_eqGraph_3 :: sk) e h R = (vc2 C n [] (.code c_laws_eqGraph_2 :: .code .ret :: sk) e h R) := nr rfl
@[simp, simp ↓] theorem c_laws_eqGraph_4_r : vc2 C (n + 1) [] (.code c_laws_eqGraph_4 :: sk) e h R = (condK (ev e (.t 9)) (vc2 C n [] (.code c_laws_eqGraph_3 :: sk) e h R) (vc2 C n [] (.code .skip :: sk) e h R)) := nr rfl
@[simp, simp ↓] theorem c_laws_eqGraph_5_r : vc2 C (n + 1) [] (.code c_laws_eqGraph_5 :: sk) e h R = (vc2 C n [] (.code c_laws_eqGraph_1 :: .code c_laws_eqGraph_4 :: sk) e h R) := nr rfl
@[simp, simp ↓] theorem c_laws_eqGraph_6_r : vc2 C (n + 1) [] (.code c_laws_eqGraph_6 :: sk) e h R = (vc2 C n c_laws_eqGraph_o3 sk e h R) := nr rfl
@[simp, simp ↓] theorem c_laws_eqGraph_7_r : vc2 C (n + 1) [] (.code c_laws_eqGraph_7 :: sk) e h R = (vc2 C n c_laws_eqGraph_o4 sk e h R) := nr rfl
@[simp, simp ↓] theorem c_laws_eqGraph_8_r : vc2 C (n + 1) [] (.code c_laws_eqGraph_8 :: sk) e h R = (vc2 C n [] (.code c_laws_eqGraph_7 :: .code .ret :: sk) e h R) := nr rfl
@[simp, simp ↓] theorem c_laws_eqGraph_9_r : vc2 C (n + 1) [] (.code c_laws_eqGraph_9 :: sk) e h R = (condK (ev e (.t 15)) (vc2 C n [] (.code c_laws_eqGraph_8 :: sk) e h R) (vc2 C n [] (.code .skip :: sk) e h R)) := nr rfl
@[simp, simp ↓] theorem c_laws_eqGraph_10_r : vc2 C (n + 1) [] (.code c_laws_eqGraph_10 :: sk) e h R = (vc2 C n [] (.code c_laws_eqGraph_6 :: .code c_laws_eqGraph_9 :: sk) e h R) := nr rfl
@[simp, simp ↓] theorem c_laws_eqGraph_11_r : vc2 C (n + 1) [] (.code c_laws_eqGraph_11 :: sk) e h R = (vc2 C n c_laws_eqGraph_o5 sk e h R) := nr rfl
@[simp, simp ↓] theorem c_laws_eqGraph_12_r : vc2 C (n + 1) [] (.code c_laws_eqGraph_12 :: sk) e h R = (vc2 C n [] (.code c_laws_eqGraph_11 :: .code .ret :: sk) e h R) := nr rfl
@[simp, simp ↓] theorem c_laws_eqGraph_13_r : vc2 C (n + 1) [] (.code c_laws_eqGraph_13 :: sk) e h R = (vc2 C n [] (.code c_laws_eqGraph_10 :: .code c_laws_eqGraph_12 :: sk) e h R) := nr rfl
@[simp, simp ↓] theorem c_laws_eqGraph_14_r : vc2 C (n + 1) [] (.code c_laws_eqGraph_14 :: sk) e h R = (vc2 C n [] (.code c_laws_eqGraph_5 :: .code c_laws_eqGraph_13 :: sk) e h R) := nr rfl
@[simp, simp ↓] theorem c_laws_eqGraph_15_r : vc2 C (n + 1) [] (.code c_laws_eqGraph_15 :: sk) e h R = (vc2 C n [] (.code c_laws_eqGraph_0 :: .code c_laws_eqGraph_14 :: sk) e h R) := nr rfl
end
noncomputable def c_laws_eqGraph_C (orc : Orc) : Cx := ⟨Try.prog, [], 19, 16, [.tmp 4], orc⟩
@[simp] theorem c_laws_eqGraph_C_P (orc : Orc) : (c_laws_eqGraph_C orc).P = Try.prog := nr rfl
@[simp] theorem c_laws_eqGraph_C_o (orc : Orc) : (c_laws_eqGraph_C orc).orc = orc := nr rfl
@[simp] theorem c_laws_eqGraph_C_r (orc : Orc) : (c_laws_eqGraph_C orc).res = [.tmp 4] := nr rfl
theorem c_laws_eqGraph_of {args : List AV} {h : Heap} {R : AV → Heap → Prop} {k : Nat} (ha : args.length = k) {orc : Orc} (hp : Pure Try.prog orc) (hk : Is (c_laws_eqGraph_C orc) Try.f19 → Run2 (c_laws_eqGraph_C orc) [.code c_laws_eqGraph_15] (argEnv 0 args) h (Post R)) (hle : k ≤ 16 := by simp) : ACalls Try.prog 19 args h R :=
  contract2 [] c_laws_eqGraph_15 [.tmp 4] Try.func19 (by decide +kernel) rfl (by kernel_rfl) (by rw [ha]; exact hle) (by kernel_rfl) hp hk
theorem c_laws_eqGraph_of0 {args : List AV} {h : Heap} {R : AV → Heap → Prop} {k : Nat} (ha : args.length = k) {orc : Orc} (hp : Pure Try.prog orc) (hk : Is (c_laws_eqGraph_C orc) Try.f19 → Run2 (c_laws_eqGraph_C orc) [.code c_laws_eqGraph_15] (argEnv 0 args) h R) (hle : k ≤ 16 := by simp) : ACalls Try.prog 19 args h R :=
  contract20 [] c_laws_eqGraph_15 [.tmp 4] Try.func19 (by decide +kernel) rfl (by kernel_rfl) (by rw [ha]; exact hle) (by kernel_rfl) hp hk
theorem eqGraph_c (x y : Gr) (h : Heap) (hl : x.ts.length ≤ 1048576) : ACalls Try.prog 19 [x.av, y.av] h (fun v h' => v = .bool (decide (x = y)) ∧ h' = h) := by
  refine c_laws_eqGraph_of0 rfl noPure fun I => ?_
  cases x; cases y
  refine Run2.of I 1000 ?_
  simp -implicitDefEqProofs
  refine ⟨by grind, fun h1 => ?_⟩
  refine (eqEdgeS_c _ _ _ hl).mono ?_
  rintro v h' ⟨rfl, rfl⟩
  refine gK.go ?_
  simp -implicitDefEqProofs [h1]
/-! ## In the laws: with other memory about -/
theorem eqG_own {w u : AV} {x y : Gr} {g h : Heap} (o : OwnG w x g) (hu : IsG u y) (hs : ∀ p ∈ g, p ∈ h) (hl : x.ts.length ≤ 1048576) : ACalls Try.prog 19 [w, u] h (fun r h' => r = .bool (decide (x = y)) ∧ h' = h) := by
  refine ACalls.reads g hs ?_ rfl
  rw [lend_cons, lend_cons, lend_nil', lend1_cold g hu.cold]
  exact ACalls.wk (.cons o.lent.wk (.cons hu.wk .nil)) (eqGraph_c x y [] hl)
theorem Gr.is (x : Gr) : IsG x.av x := ⟨_, rfl, .snap _⟩
noncomputable def o_toGraph : List AV → Option (Prop × AV) := tab (fun (x : Int × List T) => match x with | (n, ts) => [.agg [.int .i64 n, .snap 3 (ts.map T.av)]]) (fun x => match x with | (n, ts) => ts.length ≤ 1048576) (fun x => match x with | (n, ts) => .agg [.int .i64 n, .snap 3 (ts.map T.av)])
@[simp] theorem o_toGraph_e (n : Int) (ts : List T) : o_toGraph [.agg [.int .i64 n, .snap 3 (ts.map T.av)]] = some (ts.length ≤ 1048576, .agg [.int .i64 n, .snap 3 (ts.map T.av)]) := tab_at (enc := fun (x : Int × List T) => match x with | (n, ts) => [.agg [.int .i64 n, .snap 3 (ts.map T.av)]]) (fun x y h => by
  obtain ⟨n1, ts1⟩ := x; obtain ⟨n2, ts2⟩ := y; simp at h; simp [h]) _ _ (n, ts)
theorem o_toGraph_k : Knows Try.prog 17 o_toGraph := tab_knows fun x hx h => by
  obtain ⟨n, ts⟩ := x; exact toGraph_c ⟨n, ts⟩ h hx
noncomputable def o_szGraph : List AV → Option (Prop × AV) := tab (fun (x : Int × List T × Int) => match x with | (n, ts, k) => [.agg [.int .i64 n, .snap 3 (ts.map T.av)], .int .i64 k]) (fun x => match x with | (n, ts, k) => ((0 ≤ k ∧ k ≤ 1048576) ∧ ts.length ≤ 9223372036854775807)) (fun x => match x with | (n, ts, k) => .int .i64 (if k < ts.length then -1 else k - ts.length))
@[simp] theorem o_szGraph_e (n : Int) (ts : List T) (k : Int) : o_szGraph [.agg [.int .i64 n, .snap 3 (ts.map T.av)], .int .i64 k] = some (((0 ≤ k ∧ k ≤ 1048576) ∧ ts.length ≤ 9223372036854775807), .int .i64 (if k < ts.length then -1 else k - ts.length)) := tab_at (enc := fun (x : Int × List T × Int) => match x with | (n, ts, k) => [.agg [.int .i64 n, .snap 3 (ts.map T.av)], .int .i64 k]) (fun x y h => by
  obtain ⟨n1, ts1, k1⟩ := x; obtain ⟨n2, ts2, k2⟩ := y; simp at h; simp [h]) _ _ (n, ts, k)
theorem o_szGraph_k : Knows Try.prog 15 o_szGraph := tab_knows fun x hx h => by
  obtain ⟨n, ts, k⟩ := x; exact szGraph_c ⟨n, ts⟩ k h hx.1 hx.2
noncomputable def o_eqGraph : List AV → Option (Prop × AV) := tab (fun (x : Int × List T × Int × List T) => match x with | (n, ts, n', ts') => [.agg [.int .i64 n, .snap 3 (ts.map T.av)], .agg [.int .i64 n', .snap 3 (ts'.map T.av)]]) (fun x => match x with | (n, ts, n', ts') => ts.length ≤ 1048576) (fun x => match x with | (n, ts, n', ts') => .bool (decide ((⟨n, ts⟩ : Gr) = ⟨n', ts'⟩)))
@[simp] theorem o_eqGraph_e (n : Int) (ts : List T) (n' : Int) (ts' : List T) : o_eqGraph [.agg [.int .i64 n, .snap 3 (ts.map T.av)], .agg [.int .i64 n', .snap 3 (ts'.map T.av)]] = some (ts.length ≤ 1048576, .bool (decide ((⟨n, ts⟩ : Gr) = ⟨n', ts'⟩))) := tab_at (enc := fun (x : Int × List T × Int × List T) => match x with | (n, ts, n', ts') => [.agg [.int .i64 n, .snap 3 (ts.map T.av)], .agg [.int .i64 n', .snap 3 (ts'.map T.av)]]) (fun x y h => by
  obtain ⟨n1, ts1, n'1, ts'1⟩ := x; obtain ⟨n2, ts2, n'2, ts'2⟩ := y; simp at h; simp [h]) _ _ (n, ts, n', ts')
theorem o_eqGraph_k : Knows Try.prog 19 o_eqGraph := tab_knows fun x hx h => by
  obtain ⟨n, ts, n', ts'⟩ := x; exact eqGraph_c ⟨n, ts⟩ ⟨n', ts'⟩ h hx
noncomputable def orcA : List (Nat × (List AV → Option (Prop × AV))) := (17, o_toGraph) :: (15, o_szGraph) :: (19, o_eqGraph) :: []
theorem orcA_p : Pure Try.prog (lk orcA) := (lk_pure o_toGraph_k (lk_pure o_szGraph_k (lk_pure o_eqGraph_k lk_pure0)))
@[simp] theorem orcA_l (g : FuncId) (l : List AV) : lk orcA g l = if g = 17 then o_toGraph l else if g = 15 then o_szGraph l else if g = 19 then o_eqGraph l else none := nr rfl
end Go.AG
