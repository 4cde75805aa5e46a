/- Bars as plain data, and what the set's own helpers of bars do: they copy, compare and count. No statement is made here. -/
import Derived.Test.YtebkdegjiollbaaRows
import Derived.Test.YtebkdegjiollbaaAGInts
namespace Go.AG
open Go.Proofs Go.Proofs.Ytebkdegjiollbaa
set_option linter.unusedSimpArgs false
set_option linter.unusedVariables false
set_option maxRecDepth 4000
theorem Int_of_shape {x : AV} (h : shV (.int .i64) x) : ∃ n : Int, x = .int .i64 n ∧ in64 n := by
  obtain ⟨h1, n, e, r⟩ := h
  cases x <;> simp [isAgg, Ty.isS, cellsOf] at h1 e
  exact ⟨n, by rw [e.1, e.2], r⟩
structure T where
  f : Int
  t : Int
  s : Int
  deriving DecidableEq, Inhabited
@[simp] def T.av (x : T) : AV := .agg [.int .i64 x.f, .int .i64 x.t, .int .i64 x.s]
def T.ok (x : T) : Prop := in64 x.f ∧ in64 x.t ∧ in64 x.s
theorem T.ext' {x y : T} (h1 : x.f = y.f) (h2 : x.t = y.t) (h3 : x.s = y.s) : x = y := by
  cases x; cases y; simp at h1 h2 h3; simp [h1, h2, h3]
theorem T.av_inj {x y : T} (h : x.av = y.av) : x = y := by
  simp at h; exact T.ext' h.1 h.2.1 h.2.2
@[simp] theorem Ts_inj (l m : List T) : (l.map T.av = m.map T.av) ↔ l = m := ⟨fun h => List.map_inj_right (fun _ _ => T.av_inj) |>.1 h, fun h => by rw [h]⟩
@[simp] theorem T_eta (x : T) : (⟨x.f, x.t, x.s⟩ : T) = x := rfl
def tz : AV := .agg [.int .i64 0, .int .i64 0, .int .i64 0]
def tyT : Ty := .struct (.cons (.int .i64) (.cons (.int .i64) (.cons (.int .i64) .nil)))
theorem T_of_shape {x : AV} (h : isAgg x = tyT.isS ∧ shC tyT (cellsOf x)) : ∃ t : T, x = t.av ∧ t.ok := by
  obtain ⟨h1, a1, b1, e1, ⟨n1, rfl, r1⟩, a2, b2, rfl, ⟨n2, rfl, r2⟩, a3, b3, rfl, ⟨n3, rfl, r3⟩, h3⟩ := h
  have h3' : b3 = [] := h3
  subst h3'
  cases x <;> simp [isAgg, tyT, Ty.isS] at h1
  rename_i l
  refine ⟨⟨n1, n2, n3⟩, ?_, r1, r2, r3⟩
  simp only [cellsOf] at e1
  rw [e1]; rfl
theorem Ts_of_shape : ∀ {xs : List AV}, (∀ x ∈ xs, isAgg x = tyT.isS ∧ shC tyT (cellsOf x)) → ∃ ts : List T, xs = ts.map T.av ∧ ∀ t ∈ ts, t.ok
  | [], _ => ⟨[], rfl, by simp⟩
  | x :: xs, h => by
    obtain ⟨t, rfl, ht⟩ := T_of_shape (h x (List.mem_cons_self ..))
    obtain ⟨ts, rfl, hts⟩ := Ts_of_shape (xs := xs) fun y hy => h y (List.mem_cons_of_mem _ hy)
    exact ⟨t :: ts, rfl, by simpa using ⟨ht, hts⟩⟩
abbrev k70_o0 : List AJ := [.o ⟨(some 1), none, false, .box false 3 (.t 0), none⟩, .o ⟨(some 2), none, false, .alloc true 3 (.agg [(.int .i64 0), (.int .i64 0), (.int .i64 0)]), (some [1, 2])⟩]
abbrev k70_o1 : List AJ := [.o ⟨(some 3), none, false, .alloc true 3 (.agg [(.int .i64 0), (.int .i64 0), (.int .i64 0)]), (some [1, 2, 3])⟩]
abbrev k70_o2 : List AJ := [.o ⟨(some 4), none, false, .fieldA 0 (.t 1), none⟩, .o ⟨(some 5), none, false, .load 1 false (.t 4), none⟩, .o ⟨(some 6), none, false, .fieldA 0 (.t 3), none⟩, .o ⟨none, none, false, .store 1 (.t 6) (.t 5), (some [1, 2, 3])⟩]
abbrev k70_o3 : List AJ := [.o ⟨(some 7), none, false, .fieldA 1 (.t 1), none⟩, .o ⟨(some 8), none, false, .load 1 false (.t 7), none⟩, .o ⟨(some 9), none, false, .fieldA 1 (.t 3), none⟩, .o ⟨none, none, false, .store 1 (.t 9) (.t 8), (some [1, 2, 3])⟩]
abbrev k70_o4 : List AJ := [.o ⟨(some 10), none, false, .fieldA 2 (.t 1), none⟩, .o ⟨(some 11), none, false, .load 1 false (.t 10), none⟩, .o ⟨(some 12), none, false, .fieldA 2 (.t 3), none⟩, .o ⟨none, none, false, .store 1 (.t 12) (.t 11), (some [2, 3])⟩]
abbrev k70_o5 : List AJ := [.o ⟨(some 13), none, false, .load 3 true (.t 3), none⟩, .o ⟨none, none, false, .store 3 (.t 2) (.t 13), (some [2])⟩]
def k70_6 : ACode := .seq (.region k70_o5) .ret
def k70_7 : ACode := .seq (.region k70_o4) k70_6
def k70_8 : ACode := .seq (.region k70_o3) k70_7
def k70_9 : ACode := .seq (.region k70_o2) k70_8
def k70_10 : ACode := .seq (.region k70_o1) k70_9
def k70_11 : ACode := .seq (.region k70_o0) k70_10
@[simp, simp ↓] theorem k70_6r : sR k70_6 k70_o5 .ret := yR rfl
@[simp, simp ↓] theorem k70_7r : sR k70_7 k70_o4 k70_6 := yR rfl
@[simp, simp ↓] theorem k70_8r : sR k70_8 k70_o3 k70_7 := yR rfl
@[simp, simp ↓] theorem k70_9r : sR k70_9 k70_o2 k70_8 := yR rfl
@[simp, simp ↓] theorem k70_10r : sR k70_10 k70_o1 k70_9 := yR rfl
@[simp, simp ↓] theorem k70_11r : sR k70_11 k70_o0 k70_10 := yR rfl
noncomputable abbrev k70_C : Orc → Cx := mkC Try.prog [2, 3] 70 14 [.cell 2 3 true]
theorem k70_of : OfP Try.prog Try.f70 70 14 k70_C k70_11 := @ofP _ _ _ _ _ _ _ _ Try.func70 (by decide +kernel) rfl (by kernel_rfl) rfl (by kernel_rfl)
theorem toBar_c (x : T) (h : Heap) : ACalls Try.prog 70 [x.av] h (fun v h' => v = x.av ∧ h' = h) := by
  refine k70_of rfl noPure fun I => ?_
  refine Run2.of I 1000 ?_
  simp -implicitDefEqProofs
  intro a ha b hb1 hb2
  refine gK.go ?_
  simp -implicitDefEqProofs [hb1]
  refine .drop b (.drop a (.base ?_))
  simp -implicitDefEqProofs [hb1]
noncomputable def o_toBar : List AV → Option (Prop × AV) := tab (fun (x : Int × Int × Int) => match x with | (f, t, s) => [.agg [.int .i64 f, .int .i64 t, .int .i64 s]]) (fun x => match x with | (f, t, s) => True) (fun x => match x with | (f, t, s) => .agg [.int .i64 f, .int .i64 t, .int .i64 s])
@[simp] theorem o_toBar_e (f : Int) (t : Int) (s : Int) : o_toBar [.agg [.int .i64 f, .int .i64 t, .int .i64 s]] = some (True, .agg [.int .i64 f, .int .i64 t, .int .i64 s]) := tab_at (enc := fun (x : Int × Int × Int) => match x with | (f, t, s) => [.agg [.int .i64 f, .int .i64 t, .int .i64 s]]) (fun x y h => by
  obtain ⟨f1, t1, s1⟩ := x; obtain ⟨f2, t2, s2⟩ := y; simp at h; simp [h] <;> omega) _ _ (f, t, s)
theorem o_toBar_k : Knows Try.prog 70 o_toBar := tab_knows fun x hx h => by
  obtain ⟨f, t, s⟩ := x; exact toBar_c ⟨f, t, s⟩ h
abbrev k33_o0 : List AJ := [.o ⟨(some 2), none, false, .mv (.c .nilsl), (some [0])⟩]
abbrev k33_o1 : List AJ := [.o ⟨(some 5), none, false, .mv (.t 0), none⟩, .o ⟨(some 6), none, false, .len (.t 5), none⟩, .o ⟨(some 7), none, false, .mksl 3 24 (.agg [(.int .i64 0), (.int .i64 0), (.int .i64 0)]) (.t 6) (.t 6), none⟩, .o ⟨(some 3), none, false, .mv (.t 7), (some [0, 3])⟩]
abbrev k33_o2 : List AJ := [.o ⟨(some 4), none, false, .mv (.c (.int .i64 0)), (some [0, 3, 4])⟩]
abbrev k33_o3 : List AJ := [.o ⟨(some 8), none, false, .mv (.t 4), none⟩, .o ⟨(some 9), none, false, .mv (.t 0), none⟩, .o ⟨(some 10), none, false, .len (.t 9), none⟩, .o ⟨(some 11), none, false, .bin .lss (.t 8) (.t 10), (some [0, 3, 4, 11])⟩]
def k33_4 : ACode := .cond (.t 11) .skip (.exit 0)
def k33_5 : ACode := .seq (.region k33_o3) k33_4
abbrev k33_o4 : List AJ := [.o ⟨(some 14), none, false, .mv (.t 3), none⟩, .o ⟨(some 15), none, false, .mv (.t 4), none⟩, .o ⟨(some 16), none, false, .mv (.t 0), none⟩, .o ⟨(some 17), none, false, .mv (.t 4), none⟩, .o ⟨(some 18), none, false, .idxA 3 (.t 16) (.t 17), none⟩, .o ⟨(some 19), none, false, .load 3 true (.t 18), none⟩, .o ⟨(some 20), none, false, .call 70 [(.t 19)], none⟩, .o ⟨(some 21), none, false, .idxA 3 (.t 14) (.t 15), none⟩, .o ⟨none, none, false, .store 3 (.t 21) (.t 20), (some [0, 3, 4])⟩]
def k33_6 : ACode := .region k33_o4
abbrev k33_o5 : List AJ := [.o ⟨(some 12), none, false, .mv (.t 4), none⟩, .o ⟨(some 13), none, true, .bin .add (.t 12) (.c (.int .i64 1)), none⟩, .o ⟨(some 4), none, false, .mv (.t 13), (some [0, 3, 4])⟩]
def k33_8 : ACode := .region k33_o5
def k33_9 : ACode := .seq (.block 1 k33_6) k33_8
def k33_10 : ACode := .seq k33_5 k33_9
def k33_11 : ACode := .loop k33_10
def k33_12 : ACode := .block 0 k33_11
def k33_13 : ACode := .seq (.region k33_o2) k33_12
abbrev k33_o6 : List AJ := [.o ⟨(some 22), none, false, .mv (.t 3), none⟩, .o ⟨(some 2), none, false, .mv (.t 22), (some [2])⟩]
def k33_15 : ACode := .seq (.region k33_o6) .ret
def k33_16 : ACode := .seq k33_13 k33_15
def k33_17 : ACode := .seq (.region k33_o1) k33_16
def k33_18 : ACode := .seq (.region k33_o0) k33_17
@[simp, simp ↓] theorem k33_4r : rC k33_4 (.t 11) .skip (.exit 0) := zC rfl
@[simp, simp ↓] theorem k33_5r : sR k33_5 k33_o3 k33_4 := yR rfl
@[simp, simp ↓] theorem k33_6r : rR k33_6 k33_o4 := zR rfl
@[simp, simp ↓] theorem k33_8r : rR k33_8 k33_o5 := zR rfl
@[simp, simp ↓] theorem k33_9r : sB k33_9 1 k33_6 k33_8 := yB rfl
@[simp, simp ↓] theorem k33_10r : rS k33_10 k33_5 k33_9 := zS rfl
@[simp, simp ↓] theorem k33_11r : rL k33_11 k33_10 := zL rfl
@[simp, simp ↓] theorem k33_12r : rB k33_12 0 k33_11 := zB rfl
@[simp, simp ↓] theorem k33_13r : sR k33_13 k33_o2 k33_12 := yR rfl
@[simp, simp ↓] theorem k33_15r : sR k33_15 k33_o6 .ret := yR rfl
@[simp, simp ↓] theorem k33_16r : rS k33_16 k33_13 k33_15 := zS rfl
@[simp, simp ↓] theorem k33_17r : sR k33_17 k33_o1 k33_16 := yR rfl
@[simp, simp ↓] theorem k33_18r : sR k33_18 k33_o0 k33_17 := yR rfl
noncomputable abbrev k33_C : Orc → Cx := mkC Try.prog [] 33 23 [.tmp 2]
theorem k33_of0 : OfP0 Try.prog Try.f33 33 23 k33_C k33_18 := @ofP0 _ _ _ _ _ _ _ _ Try.func33 (by decide +kernel) rfl (by kernel_rfl) rfl (by kernel_rfl)
theorem toBarS_w (l : List T) (h : Heap) (hl : l.length ≤ 1048576) : ACalls Try.prog 33 [.snap 3 (l.map T.av)] h (fun v h' => ∃ id, id ∉ dom h ∧ v = .sl id 3 0 l.length (some l.length) ∧ h' = (id, ⟨3, l.map T.av⟩) :: h) := by
  refine k33_of0 rfl (lk_pure o_toBar_k lk_pure0) fun I => ?_
  refine Run2.of I 1000 ?_
  simp -implicitDefEqProofs
  refine ⟨by omega, fun id hid => ?_⟩
  refine Run2.loop (fun i => [(0, .snap 3 (l.map T.av)), (3, .sl id 3 0 l.length (some l.length)), (4, .int .i64 (i : Nat))]) (fun i => (id, ⟨3, (l.map T.av).take i ++ List.replicate (l.length - i) tz⟩) :: h) (fun i => l.length - i) (fun i => i ≤ l.length) 0 (Nat.zero_le _) fun i hi ih => ?_
  by_cases hlt : i < l.length
  · refine Run2.of I 1000 ?_
    simp -implicitDefEqProofs [hlt]
    refine ⟨by omega, by omega, ?_⟩
    have := ih (i + 1) (by omega) (by omega)
    simpa [set_fill (l.map T.av) tz (i := i) (n := l.length) (by simp) (by simpa using hlt)] using this
  · obtain rfl : i = l.length := by omega
    refine Run2.of I 1000 ?_
    simp -implicitDefEqProofs
    refine ⟨id, hid, rfl, ?_⟩
    rw [List.take_of_length_le (by simp)]
theorem toBarS_c (l : List T) (h : Heap) (hl : l.length ≤ 1048576) : ACalls Try.prog 33 [.snap 3 (l.map T.av)] h (fun v h' => v = .snap 3 (l.map T.av) ∧ h' = h) := by
  refine ACalls.post ((toBarS_w l h hl).mono ?_)
  rintro v h' ⟨id, hid, rfl, rfl⟩
  refine .freeze id (by simp; rfl) (.base ?_)
  simp [List.take_of_length_le]
@[simp] theorem T.cold (x : T) : Go.AG.cold x.av = true := rfl
@[simp] theorem T.own (x : T) : Go.AG.own x.av = true := rfl
def marksT (k : Int) (n : Nat) : List T := (List.range n).map fun i => ⟨k + 3 * (i : Nat), k + 3 * (i : Nat) + 1, k + 3 * (i : Nat) + 1 + 1⟩
@[simp] theorem marksT_length (k : Int) (n : Nat) : (marksT k n).length = n := by simp [marksT]
theorem marksT_succ (k : Int) (n : Nat) : marksT k (n + 1) = marksT k n ++ [⟨k + 3 * n, k + 3 * n + 1, k + 3 * n + 1 + 1⟩] := by simp [marksT, List.range_succ]
theorem marksT_get (k : Int) (n i : Nat) (h : i < (marksT k n).length) : (marksT k n)[i] = ⟨k + 3 * i, k + 3 * i + 1, k + 3 * i + 1 + 1⟩ := by simp [marksT]
theorem markT_step (l : List T) (ex : List AV) (k : Int) (i : Nat) (hi : i < l.length) : ((marksT k i).map T.av ++ (l.drop i).map T.av ++ ex).set i (T.av ⟨k + 3 * i, k + 3 * i + 1, k + 3 * i + 1 + 1⟩) = (marksT k (i + 1)).map T.av ++ (l.drop (i + 1)).map T.av ++ ex := by
  rw [List.drop_eq_getElem_cons hi, marksT_succ]
  simp only [List.map_cons, List.map_append, List.map_nil, List.append_assoc, List.cons_append, List.nil_append]
  rw [List.set_append_right _ _ (by simp)]
  simp
abbrev k31_o0 : List AJ := [.o ⟨(some 4), none, false, .mv (.c (.int .i64 0)), (some [0, 1])⟩]
abbrev k31_o1 : List AJ := [.o ⟨(some 5), none, false, .mv (.t 1), none⟩, .o ⟨(some 6), none, false, .mv (.t 0), none⟩, .o ⟨(some 7), none, false, .len (.t 6), none⟩, .o ⟨(some 8), none, true, .bin .sub (.t 5) (.t 7), none⟩, .o ⟨(some 1), none, false, .mv (.t 8), (some [1])⟩]
abbrev k31_o2 : List AJ := [.o ⟨(some 9), none, false, .mv (.t 1), none⟩, .o ⟨(some 10), none, false, .bin .lss (.t 9) (.c (.int .i64 0)), (some [1, 10])⟩]
abbrev k31_o3 : List AJ := [.o ⟨(some 4), none, false, .mv (.c (.int .i64 (-1))), (some [4])⟩]
def k31_4 : ACode := .seq (.region k31_o3) .ret
def k31_5 : ACode := .cond (.t 10) k31_4 .skip
def k31_6 : ACode := .seq (.region k31_o2) k31_5
abbrev k31_o4 : List AJ := [.o ⟨(some 11), none, false, .mv (.t 1), none⟩, .o ⟨(some 4), none, false, .mv (.t 11), (some [4])⟩]
def k31_8 : ACode := .seq (.region k31_o4) .ret
def k31_9 : ACode := .seq k31_6 k31_8
def k31_10 : ACode := .seq (.region k31_o1) k31_9
def k31_11 : ACode := .seq (.region k31_o0) k31_10
@[simp, simp ↓] theorem k31_4r : sR k31_4 k31_o3 .ret := yR rfl
@[simp, simp ↓] theorem k31_5r : rC k31_5 (.t 10) k31_4 .skip := zC rfl
@[simp, simp ↓] theorem k31_6r : sR k31_6 k31_o2 k31_5 := yR rfl
@[simp, simp ↓] theorem k31_8r : sR k31_8 k31_o4 .ret := yR rfl
@[simp, simp ↓] theorem k31_9r : rS k31_9 k31_6 k31_8 := zS rfl
@[simp, simp ↓] theorem k31_10r : sR k31_10 k31_o1 k31_9 := yR rfl
@[simp, simp ↓] theorem k31_11r : sR k31_11 k31_o0 k31_10 := yR rfl
noncomputable abbrev k31_C : Orc → Cx := mkC Try.prog [] 31 12 [.tmp 4]
theorem k31_of0 : OfP0 Try.prog Try.f31 31 12 k31_C k31_11 := @ofP0 _ _ _ _ _ _ _ _ Try.func31 (by decide +kernel) rfl (by kernel_rfl) rfl (by kernel_rfl)
theorem szBarS_c (l : List T) (n : Int) (h : Heap) (hn : 0 ≤ n ∧ n ≤ 1048576) (hl : l.length ≤ 9223372036854775807) : ACalls Try.prog 31 [.snap 3 (l.map T.av), .int .i64 n] h (fun v h' => v = .int .i64 (if n < l.length then -1 else n - l.length) ∧ h' = h) := by
  refine k31_of0 rfl noPure fun I => ?_
  refine Run2.of I 1000 ?_
  simp -implicitDefEqProofs
  grind
abbrev k78_o0 : List AJ := [.o ⟨(some 2), none, false, .box false 3 (.t 0), none⟩, .o ⟨(some 3), none, false, .box false 3 (.t 1), none⟩, .o ⟨(some 4), none, false, .mv (.c (.bool false)), (some [2, 3])⟩]
abbrev k78_o1 : List AJ := [.o ⟨(some 5), none, false, .fieldA 0 (.t 2), none⟩, .o ⟨(some 6), none, false, .load 1 false (.t 5), none⟩, .o ⟨(some 7), none, false, .fieldA 0 (.t 3), none⟩, .o ⟨(some 8), none, false, .load 1 false (.t 7), none⟩, .o ⟨(some 9), none, false, .bin .neq (.t 6) (.t 8), (some [2, 3, 9])⟩]
abbrev k78_o2 : List AJ := [.o ⟨(some 4), none, false, .mv (.c (.bool false)), (some [4])⟩]
def k78_3 : ACode := .seq (.region k78_o2) .ret
def k78_4 : ACode := .cond (.t 9) k78_3 .skip
def k78_5 : ACode := .seq (.region k78_o1) k78_4
abbrev k78_o3 : List AJ := [.o ⟨(some 10), none, false, .fieldA 1 (.t 2), none⟩, .o ⟨(some 11), none, false, .load 1 false (.t 10), none⟩, .o ⟨(some 12), none, false, .fieldA 1 (.t 3), none⟩, .o ⟨(some 13), none, false, .load 1 false (.t 12), none⟩, .o ⟨(some 14), none, false, .bin .neq (.t 11) (.t 13), (some [2, 3, 14])⟩]
abbrev k78_o4 : List AJ := [.o ⟨(some 4), none, false, .mv (.c (.bool false)), (some [4])⟩]
def k78_8 : ACode := .seq (.region k78_o4) .ret
def k78_9 : ACode := .cond (.t 14) k78_8 .skip
def k78_10 : ACode := .seq (.region k78_o3) k78_9
abbrev k78_o5 : List AJ := [.o ⟨(some 15), none, false, .fieldA 2 (.t 2), none⟩, .o ⟨(some 16), none, false, .load 1 false (.t 15), none⟩, .o ⟨(some 17), none, false, .fieldA 2 (.t 3), none⟩, .o ⟨(some 18), none, false, .load 1 false (.t 17), none⟩, .o ⟨(some 19), none, false, .bin .neq (.t 16) (.t 18), (some [19])⟩]
abbrev k78_o6 : List AJ := [.o ⟨(some 4), none, false, .mv (.c (.bool false)), (some [4])⟩]
def k78_13 : ACode := .seq (.region k78_o6) .ret
def k78_14 : ACode := .cond (.t 19) k78_13 .skip
def k78_15 : ACode := .seq (.region k78_o5) k78_14
abbrev k78_o7 : List AJ := [.o ⟨(some 4), none, false, .mv (.c (.bool true)), (some [4])⟩]
def k78_17 : ACode := .seq (.region k78_o7) .ret
def k78_18 : ACode := .seq k78_15 k78_17
def k78_19 : ACode := .seq k78_10 k78_18
def k78_20 : ACode := .seq k78_5 k78_19
def k78_21 : ACode := .seq (.region k78_o0) k78_20
@[simp, simp ↓] theorem k78_3r : sR k78_3 k78_o2 .ret := yR rfl
@[simp, simp ↓] theorem k78_4r : rC k78_4 (.t 9) k78_3 .skip := zC rfl
@[simp, simp ↓] theorem k78_5r : sR k78_5 k78_o1 k78_4 := yR rfl
@[simp, simp ↓] theorem k78_8r : sR k78_8 k78_o4 .ret := yR rfl
@[simp, simp ↓] theorem k78_9r : rC k78_9 (.t 14) k78_8 .skip := zC rfl
@[simp, simp ↓] theorem k78_10r : sR k78_10 k78_o3 k78_9 := yR rfl
@[simp, simp ↓] theorem k78_13r : sR k78_13 k78_o6 .ret := yR rfl
@[simp, simp ↓] theorem k78_14r : rC k78_14 (.t 19) k78_13 .skip := zC rfl
@[simp, simp ↓] theorem k78_15r : sR k78_15 k78_o5 k78_14 := yR rfl
@[simp, simp ↓] theorem k78_17r : sR k78_17 k78_o7 .ret := yR rfl
@[simp, simp ↓] theorem k78_18r : rS k78_18 k78_15 k78_17 := zS rfl
@[simp, simp ↓] theorem k78_19r : rS k78_19 k78_10 k78_18 := zS rfl
@[simp, simp ↓] theorem k78_20r : rS k78_20 k78_5 k78_19 := zS rfl
@[simp, simp ↓] theorem k78_21r : sR k78_21 k78_o0 k78_20 := yR rfl
noncomputable abbrev k78_C : Orc → Cx := mkC Try.prog [] 78 20 [.tmp 4]
theorem k78_of0 : OfP0 Try.prog Try.f78 78 20 k78_C k78_21 := @ofP0 _ _ _ _ _ _ _ _ Try.func78 (by decide +kernel) rfl (by kernel_rfl) rfl (by kernel_rfl)
theorem eqBar_c (x y : T) (h : Heap) : ACalls Try.prog 78 [x.av, y.av] h (fun v h' => v = .bool (decide (x = y)) ∧ h' = h) := by
  refine k78_of0 rfl noPure fun I => ?_
  cases x; cases y
  refine Run2.of I 1000 ?_
  simp -implicitDefEqProofs
  grind
noncomputable def o_eqBar : List AV → Option (Prop × AV) := tab (fun (x : Int × Int × Int × Int × Int × Int) => match x with | (f, t, s, f', t', s') => [.agg [.int .i64 f, .int .i64 t, .int .i64 s], .agg [.int .i64 f', .int .i64 t', .int .i64 s']]) (fun x => match x with | (f, t, s, f', t', s') => True) (fun x => match x with | (f, t, s, f', t', s') => .bool (decide ((⟨f, t, s⟩ : T) = ⟨f', t', s'⟩)))
@[simp] theorem o_eqBar_e (f : Int) (t : Int) (s : Int) (f' : Int) (t' : Int) (s' : Int) : o_eqBar [.agg [.int .i64 f, .int .i64 t, .int .i64 s], .agg [.int .i64 f', .int .i64 t', .int .i64 s']] = some (True, .bool (decide ((⟨f, t, s⟩ : T) = ⟨f', t', s'⟩))) := tab_at (enc := fun (x : Int × Int × Int × Int × Int × Int) => match x with | (f, t, s, f', t', s') => [.agg [.int .i64 f, .int .i64 t, .int .i64 s], .agg [.int .i64 f', .int .i64 t', .int .i64 s']]) (fun x y h => by
  obtain ⟨f1, t1, s1, f'1, t'1, s'1⟩ := x; obtain ⟨f2, t2, s2, f'2, t'2, s'2⟩ := y; simp at h; simp [h] <;> omega) _ _ (f, t, s, f', t', s')
theorem o_eqBar_k : Knows Try.prog 78 o_eqBar := tab_knows fun x hx h => by
  obtain ⟨f, t, s, f', t', s'⟩ := x; exact eqBar_c ⟨f, t, s⟩ ⟨f', t', s'⟩ h
abbrev k35_o0 : List AJ := [.o ⟨(some 4), none, false, .mv (.c (.bool false)), (some [0, 1])⟩]
abbrev k35_o1 : List AJ := [.o ⟨(some 6), none, false, .mv (.t 0), none⟩, .o ⟨(some 7), none, false, .len (.t 6), none⟩, .o ⟨(some 8), none, false, .mv (.t 1), none⟩, .o ⟨(some 9), none, false, .len (.t 8), none⟩, .o ⟨(some 10), none, false, .bin .neq (.t 7) (.t 9), (some [0, 1, 10])⟩]
abbrev k35_o2 : List AJ := [.o ⟨(some 4), none, false, .mv (.c (.bool false)), (some [4])⟩]
def k35_3 : ACode := .seq (.region k35_o2) .ret
def k35_4 : ACode := .cond (.t 10) k35_3 .skip
def k35_5 : ACode := .seq (.region k35_o1) k35_4
abbrev k35_o3 : List AJ := [.o ⟨(some 5), none, false, .mv (.c (.int .i64 0)), (some [0, 1, 5])⟩]
abbrev k35_o4 : List AJ := [.o ⟨(some 11), none, false, .mv (.t 5), none⟩, .o ⟨(some 12), none, false, .mv (.t 0), none⟩, .o ⟨(some 13), none, false, .len (.t 12), none⟩, .o ⟨(some 14), none, false, .bin .lss (.t 11) (.t 13), (some [0, 1, 5, 14])⟩]
def k35_8 : ACode := .cond (.t 14) .skip (.exit 0)
def k35_9 : ACode := .seq (.region k35_o4) k35_8
abbrev k35_o5 : List AI := [⟨(some 17), none, false, .mv (.t 0), none⟩, ⟨(some 18), none, false, .mv (.t 5), none⟩, ⟨(some 19), none, false, .idxA 3 (.t 17) (.t 18), none⟩, ⟨(some 20), none, false, .load 3 true (.t 19), none⟩, ⟨(some 21), none, false, .mv (.t 1), none⟩, ⟨(some 22), none, false, .mv (.t 5), none⟩, ⟨(some 23), none, false, .idxA 3 (.t 21) (.t 22), none⟩, ⟨(some 24), none, false, .load 3 true (.t 23), none⟩, ⟨(some 25), none, false, .call 78 [(.t 20), (.t 24)], none⟩, ⟨(some 26), none, false, .un .not (.t 25), (some [0, 1, 5, 26])⟩]
abbrev k35_o6 : List AJ := [.o ⟨(some 4), none, false, .mv (.c (.bool false)), (some [4])⟩]
def k35_12 : ACode := .seq (.region k35_o6) .ret
def k35_13 : ACode := .cond (.t 26) k35_12 .skip
def k35_14 : ACode := .seq (.draw k35_o5 [] rfl) k35_13
abbrev k35_o7 : List AJ := [.o ⟨(some 15), none, false, .mv (.t 5), none⟩, .o ⟨(some 16), none, true, .bin .add (.t 15) (.c (.int .i64 1)), none⟩, .o ⟨(some 5), none, false, .mv (.t 16), (some [0, 1, 5])⟩]
def k35_16 : ACode := .region k35_o7
def k35_17 : ACode := .seq (.block 1 k35_14) k35_16
def k35_18 : ACode := .seq k35_9 k35_17
def k35_19 : ACode := .loop k35_18
def k35_20 : ACode := .block 0 k35_19
def k35_21 : ACode := .seq (.region k35_o3) k35_20
abbrev k35_o8 : List AJ := [.o ⟨(some 4), none, false, .mv (.c (.bool true)), (some [4])⟩]
def k35_23 : ACode := .seq (.region k35_o8) .ret
def k35_24 : ACode := .seq k35_21 k35_23
def k35_25 : ACode := .seq k35_5 k35_24
def k35_26 : ACode := .seq (.region k35_o0) k35_25
@[simp, simp ↓] theorem k35_3r : sR k35_3 k35_o2 .ret := yR rfl
@[simp, simp ↓] theorem k35_4r : rC k35_4 (.t 10) k35_3 .skip := zC rfl
@[simp, simp ↓] theorem k35_5r : sR k35_5 k35_o1 k35_4 := yR rfl
@[simp, simp ↓] theorem k35_8r : rC k35_8 (.t 14) .skip (.exit 0) := zC rfl
@[simp, simp ↓] theorem k35_9r : sR k35_9 k35_o4 k35_8 := yR rfl
@[simp, simp ↓] theorem k35_12r : sR k35_12 k35_o6 .ret := yR rfl
@[simp, simp ↓] theorem k35_13r : rC k35_13 (.t 26) k35_12 .skip := zC rfl
@[simp, simp ↓] theorem k35_14r : sD k35_14 k35_o5 [] k35_13 := yD rfl
@[simp, simp ↓] theorem k35_16r : rR k35_16 k35_o7 := zR rfl
@[simp, simp ↓] theorem k35_17r : sB k35_17 1 k35_14 k35_16 := yB rfl
@[simp, simp ↓] theorem k35_18r : rS k35_18 k35_9 k35_17 := zS rfl
@[simp, simp ↓] theorem k35_19r : rL k35_19 k35_18 := zL rfl
@[simp, simp ↓] theorem k35_20r : rB k35_20 0 k35_19 := zB rfl
@[simp, simp ↓] theorem k35_21r : sR k35_21 k35_o3 k35_20 := yR rfl
@[simp, simp ↓] theorem k35_23r : sR k35_23 k35_o8 .ret := yR rfl
@[simp, simp ↓] theorem k35_24r : rS k35_24 k35_21 k35_23 := zS rfl
@[simp, simp ↓] theorem k35_25r : rS k35_25 k35_5 k35_24 := zS rfl
@[simp, simp ↓] theorem k35_26r : sR k35_26 k35_o0 k35_25 := yR rfl
noncomputable abbrev k35_C : Orc → Cx := mkC Try.prog [] 35 27 [.tmp 4]
theorem k35_of0 : OfP0 Try.prog Try.f35 35 27 k35_C k35_26 := @ofP0 _ _ _ _ _ _ _ _ Try.func35 (by decide +kernel) rfl (by kernel_rfl) rfl (by kernel_rfl)
theorem eqBarS_c (l m : List T) (h : Heap) (hl : l.length ≤ 1048576) : ACalls Try.prog 35 [.snap 3 (l.map T.av), .snap 3 (m.map T.av)] h (fun v h' => v = .bool (decide (l = m)) ∧ h' = h) := by
  refine k35_of0 rfl (lk_pure o_eqBar_k lk_pure0) fun I => ?_
  refine Run2.of I 1000 ?_
  simp -implicitDefEqProofs
  refine ⟨by rintro hne rfl; exact hne rfl, fun hlen => ?_⟩
  refine Run2.loop (fun i => [(0, .snap 3 (l.map T.av)), (1, .snap 3 (m.map T.av)), (5, .int .i64 (i : Nat))]) (fun i => h) (fun i => l.length - i) (fun i => i ≤ l.length ∧ l.take i = m.take i) 0 (by simp) fun i hi ih => ?_
  by_cases hlt : i < l.length
  · have hlt' : i < m.length := by omega
    refine Run2.of I 1000 ?_
    simp -implicitDefEqProofs [hlt, hlt']
    constructor
    · rintro hne rfl
      exact hne rfl
    · intro he
      refine ⟨by omega, ?_⟩
      have := ih (i + 1) ⟨by omega, by rw [List.take_succ_eq_append_getElem hlt, List.take_succ_eq_append_getElem hlt', hi.2, he]⟩ (by omega)
      simpa using this
  · refine Run2.of I 1000 ?_
    simp -implicitDefEqProofs [hlt]
    have : i = l.length := by omega
    have h2 := hi.2
    rw [List.take_of_length_le (by omega), List.take_of_length_le (by omega)] at h2
    exact h2
theorem toBarS_o (l : List T) (h : Heap) (hl : l.length ≤ 1048576) : ACalls Try.prog 33 [.snap 3 (l.map T.av)] h (fun v h' => ∃ h1, OwnL T.av 3 v l h1 ∧ (∀ i ∈ dom h1, i ∉ dom h) ∧ h' = h1 ++ h) :=
  (toBarS_w l h hl).mono fun v h' ⟨id, h1, h2, h3⟩ => ⟨[(id, ⟨3, l.map T.av ++ []⟩)], h2 ▸ .sl id _ [] rfl, by simpa [dom] using h1, by simpa using h3⟩
/-! ## In the laws: with other memory about -/
theorem eqB_own {w u : AV} {l m : List T} {g h : Heap} (o : OwnL T.av 3 w l g) (hu : IsL T.av 3 u m) (hs : ∀ p ∈ g, p ∈ h) (hl : l.length ≤ 1048576) : ACalls Try.prog 35 [w, u] h (fun r h' => r = .bool (decide (l = m)) ∧ h' = h) := by
  refine ACalls.reads g hs ?_ rfl
  rw [lend_cons, lend_cons, lend_nil', lend1_cold g (hu.cold T.cold)]
  exact ACalls.wk (.cons o.lent.wk (.cons hu.wk .nil)) (eqBarS_c l m [] hl)
def wfB (l : List T) : Prop := (∀ t ∈ l, t.ok) ∧ l.length ≤ 9223372036854775807
def tyB : Ty := .slice tyT
theorem Bars_of_shape {x : AV} (h : shV tyB x) : ∃ l : List T, x = .snap 3 (l.map T.av) ∧ wfB l := by
  obtain ⟨h1, xs, e1, hlen, r3⟩ := h
  have hm : maxLen ≤ 9223372036854775807 := by decide
  obtain ⟨l, rfl, hl⟩ := Ts_of_shape r3
  cases x <;> simp [isAgg, tyB, Ty.isS, cellsOf] at h1 e1
  rw [e1.1, e1.2]
  exact ⟨l, rfl, hl, by simp only [List.length_map] at hlen; exact Nat.le_trans hlen hm⟩
/-- The bars that a slice holds which nobody writes. -/
def barsOf : AV → List T
  | .snap _ l => l.map fun | .agg [.int _ a, .int _ b, .int _ c] => ⟨a, b, c⟩ | _ => ⟨0, 0, 0⟩
  | _ => []
@[simp] theorem barsOf_snap (s : Nat) (l : List T) : barsOf (.snap s (l.map T.av)) = l := by
  simp only [barsOf, List.map_map]
  exact List.map_id'' (fun n => rfl) l
@[simp] theorem barsOf_nil : barsOf .nilsl = [] := rfl
@[simp] theorem barsOf_emp : barsOf .emp = [] := rfl
@[simp] theorem barsOf_s0 (s : Nat) : barsOf (.snap s []) = [] := rfl
def isBars (v : AV) : Prop := v = .nilsl ∨ v = .emp ∨ ∃ l : List T, v = .snap 3 (l.map T.av)
@[simp] theorem isBars_snap (l : List T) : isBars (.snap 3 (l.map T.av)) := .inr (.inr ⟨l, rfl⟩)
@[simp] theorem isBars_nil : isBars .nilsl := .inl rfl
@[simp] theorem isBars_emp : isBars .emp := .inr (.inl rfl)
@[simp] theorem isBars_s0 : isBars (.snap 3 []) := .inr (.inr ⟨[], rfl⟩)
theorem Wk.bars {v : AV} (h : isBars v) : Wk v (.snap 3 ((barsOf v).map T.av)) := by
  rcases h with rfl | rfl | ⟨l, rfl⟩
  · exact Wk.nil 3
  · exact Wk.emp 3
  · rw [barsOf_snap]; exact Wk.refl _
theorem eqBarS_v (u v : AV) (h : Heap) (hu : isBars u) (hv : isBars v) (hl : (barsOf u).length ≤ 1048576) : ACalls Try.prog 35 [u, v] h (fun r h' => r = .bool (decide (barsOf u = barsOf v)) ∧ h' = h) :=
  (eqBarS_c _ _ h hl).wk (.cons (Wk.bars hu) (.cons (Wk.bars hv) .nil))
noncomputable def o_eqBarS : List AV → Option (Prop × AV) := tab (fun (x : AV × AV) => match x with | (u, v) => [u, v]) (fun x => match x with | (u, v) => ((isBars u ∧ isBars v) ∧ (barsOf u).length ≤ 1048576)) (fun x => match x with | (u, v) => .bool (decide (barsOf u = barsOf v)))
@[simp] theorem o_eqBarS_e (u : AV) (v : AV) : o_eqBarS [u, v] = some (((isBars u ∧ isBars v) ∧ (barsOf u).length ≤ 1048576), .bool (decide (barsOf u = barsOf v))) := tab_at (enc := fun (x : AV × AV) => match x with | (u, v) => [u, v]) (fun x y h => by
  obtain ⟨u1, v1⟩ := x; obtain ⟨u2, v2⟩ := y; simp at h; simp [h] <;> omega) _ _ (u, v)
theorem o_eqBarS_k : Knows Try.prog 35 o_eqBarS := tab_knows fun x hx h => by
  obtain ⟨u, v⟩ := x; exact eqBarS_v u v h hx.1.1 hx.1.2 hx.2
noncomputable def o_toBarS : List AV → Option (Prop × AV) := tab (fun (x : List T) => match x with | l => [.snap 3 (l.map T.av)]) (fun x => match x with | l => l.length ≤ 1048576) (fun x => match x with | l => .snap 3 (l.map T.av))
@[simp] theorem o_toBarS_e (l : List T) : o_toBarS [.snap 3 (l.map T.av)] = some (l.length ≤ 1048576, .snap 3 (l.map T.av)) := tab_at (enc := fun (x : List T) => match x with | l => [.snap 3 (l.map T.av)]) (fun x y h => by
  simp at h; simp [h] <;> omega) _ _ l
theorem o_toBarS_k : Knows Try.prog 33 o_toBarS := tab_knows fun x hx h => by
  exact toBarS_c x h hx
noncomputable def o_szBarS : List AV → Option (Prop × AV) := tab (fun (x : List T × Int) => match x with | (l, k) => [.snap 3 (l.map T.av), .int .i64 k]) (fun x => match x with | (l, k) => ((0 ≤ k ∧ k ≤ 1048576) ∧ l.length ≤ 9223372036854775807)) (fun x => match x with | (l, k) => .int .i64 (if k < l.length then -1 else k - l.length))
@[simp] theorem o_szBarS_e (l : List T) (k : Int) : o_szBarS [.snap 3 (l.map T.av), .int .i64 k] = some (((0 ≤ k ∧ k ≤ 1048576) ∧ l.length ≤ 9223372036854775807), .int .i64 (if k < l.length then -1 else k - l.length)) := tab_at (enc := fun (x : List T × Int) => match x with | (l, k) => [.snap 3 (l.map T.av), .int .i64 k]) (fun x y h => by
  obtain ⟨l1, k1⟩ := x; obtain ⟨l2, k2⟩ := y; simp at h; simp [h] <;> omega) _ _ (l, k)
theorem o_szBarS_k : Knows Try.prog 31 o_szBarS := tab_knows fun x hx h => by
  obtain ⟨l, k⟩ := x; exact szBarS_c l k h hx.1 hx.2
noncomputable def orcA : List (Nat × (List AV → Option (Prop × AV))) := (33, o_toBarS) :: (31, o_szBarS) :: (35, o_eqBarS) :: (78, o_eqBar) :: []
theorem orcA_p : Pure Try.prog (lk orcA) := (lk_pure o_toBarS_k (lk_pure o_szBarS_k (lk_pure o_eqBarS_k (lk_pure o_eqBar_k lk_pure0))))
@[simp] theorem orcA_l (b : Bool) (g : FuncId) (l : List AV) : lk orcA b g l = if g = 33 then o_toBarS l else if g = 31 then o_szBarS l else if g = 35 then o_eqBarS l else if g = 78 then o_eqBar l else none := nr rfl
end Go.AG
