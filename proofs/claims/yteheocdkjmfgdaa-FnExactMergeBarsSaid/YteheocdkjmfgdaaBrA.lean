/- Bars as plain data, and what the set's own helpers of bars do: they copy, compare and count. No statement is made here. -/
import Derived.Test.YteheocdkjmfgdaaRows
import Derived.Test.YteheocdkjmfgdaaAGInts
namespace Go.AG
open Go.Proofs Go.Proofs.Yteheocdkjmfgdaa
set_option linter.unusedSimpArgs false
set_option linter.unusedVariables false
set_option maxRecDepth 4000
theorem Int_of_shape {x : AV} (h : shV (.int .i64) x) : ∃ n : Int, x = .int .i64 n ∧ in64 n := by
  obtain ⟨h1, n, e, r⟩ := h
  cases x <;> simp [isAgg, Ty.isS, cellsOf] at h1 e
  exact ⟨n, by rw [e.1, e.2], r⟩
structure T where
  f : Int
  t : Int
  s : Int
  deriving DecidableEq, Inhabited
@[simp] def T.av (x : T) : AV := .agg [.int .i64 x.f, .int .i64 x.t, .int .i64 x.s]
def T.ok (x : T) : Prop := in64 x.f ∧ in64 x.t ∧ in64 x.s
theorem T.ext' {x y : T} (h1 : x.f = y.f) (h2 : x.t = y.t) (h3 : x.s = y.s) : x = y := by
  cases x; cases y; simp at h1 h2 h3; simp [h1, h2, h3]
theorem T.av_inj {x y : T} (h : x.av = y.av) : x = y := by
  simp at h; exact T.ext' h.1 h.2.1 h.2.2
@[simp] theorem Ts_inj (l m : List T) : (l.map T.av = m.map T.av) ↔ l = m := ⟨fun h => List.map_inj_right (fun _ _ => T.av_inj) |>.1 h, fun h => by rw [h]⟩
@[simp] theorem T_eta (x : T) : (⟨x.f, x.t, x.s⟩ : T) = x := rfl
def tz : AV := .agg [.int .i64 0, .int .i64 0, .int .i64 0]
def tyT : Ty := .struct (.cons (.int .i64) (.cons (.int .i64) (.cons (.int .i64) .nil)))
theorem T_of_shape {x : AV} (h : isAgg x = tyT.isS ∧ shC tyT (cellsOf x)) : ∃ t : T, x = t.av ∧ t.ok := by
  obtain ⟨h1, a1, b1, e1, ⟨n1, rfl, r1⟩, a2, b2, rfl, ⟨n2, rfl, r2⟩, a3, b3, rfl, ⟨n3, rfl, r3⟩, h3⟩ := h
  have h3' : b3 = [] := h3
  subst h3'
  cases x <;> simp [isAgg, tyT, Ty.isS] at h1
  rename_i l
  refine ⟨⟨n1, n2, n3⟩, ?_, r1, r2, r3⟩
  simp only [cellsOf] at e1
  rw [e1]; rfl
theorem Ts_of_shape : ∀ {xs : List AV}, (∀ x ∈ xs, isAgg x = tyT.isS ∧ shC tyT (cellsOf x)) → ∃ ts : List T, xs = ts.map T.av ∧ ∀ t ∈ ts, t.ok
  | [], _ => ⟨[], rfl, by simp⟩
  | x :: xs, h => by
    obtain ⟨t, rfl, ht⟩ := T_of_shape (h x (List.mem_cons_self ..))
    obtain ⟨ts, rfl, hts⟩ := Ts_of_shape (xs := xs) fun y hy => h y (List.mem_cons_of_mem _ hy)
    exact ⟨t :: ts, rfl, by simpa using ⟨ht, hts⟩⟩
abbrev k13_o0 : List AJ := [.o ⟨(some 1), none, false, .box false 3 (.t 0), none⟩, .o ⟨(some 2), none, false, .alloc true 3 (.agg [(.int .i64 0), (.int .i64 0), (.int .i64 0)]), (some [1, 2])⟩]
abbrev k13_o1 : List AJ := [.o ⟨(some 3), none, false, .alloc true 3 (.agg [(.int .i64 0), (.int .i64 0), (.int .i64 0)]), (some [1, 2, 3])⟩]
abbrev k13_o2 : List AJ := [.o ⟨(some 4), none, false, .fieldA 0 (.t 1), none⟩, .o ⟨(some 5), none, false, .load 1 false (.t 4), none⟩, .o ⟨(some 6), none, false, .fieldA 0 (.t 3), none⟩, .o ⟨none, none, false, .store 1 (.t 6) (.t 5), (some [1, 2, 3])⟩]
abbrev k13_o3 : List AJ := [.o ⟨(some 7), none, false, .fieldA 1 (.t 1), none⟩, .o ⟨(some 8), none, false, .load 1 false (.t 7), none⟩, .o ⟨(some 9), none, false, .fieldA 1 (.t 3), none⟩, .o ⟨none, none, false, .store 1 (.t 9) (.t 8), (some [1, 2, 3])⟩]
abbrev k13_o4 : List AJ := [.o ⟨(some 10), none, false, .fieldA 2 (.t 1), none⟩, .o ⟨(some 11), none, false, .load 1 false (.t 10), none⟩, .o ⟨(some 12), none, false, .fieldA 2 (.t 3), none⟩, .o ⟨none, none, false, .store 1 (.t 12) (.t 11), (some [2, 3])⟩]
abbrev k13_o5 : List AJ := [.o ⟨(some 13), none, false, .load 3 true (.t 3), none⟩, .o ⟨none, none, false, .store 3 (.t 2) (.t 13), (some [2])⟩]
def k13_6 : ACode := .seq (.region k13_o5) .ret
def k13_7 : ACode := .seq (.region k13_o4) k13_6
def k13_8 : ACode := .seq (.region k13_o3) k13_7
def k13_9 : ACode := .seq (.region k13_o2) k13_8
def k13_10 : ACode := .seq (.region k13_o1) k13_9
def k13_11 : ACode := .seq (.region k13_o0) k13_10
@[simp, simp ↓] theorem k13_6r : sR k13_6 k13_o5 .ret := yR rfl
@[simp, simp ↓] theorem k13_7r : sR k13_7 k13_o4 k13_6 := yR rfl
@[simp, simp ↓] theorem k13_8r : sR k13_8 k13_o3 k13_7 := yR rfl
@[simp, simp ↓] theorem k13_9r : sR k13_9 k13_o2 k13_8 := yR rfl
@[simp, simp ↓] theorem k13_10r : sR k13_10 k13_o1 k13_9 := yR rfl
@[simp, simp ↓] theorem k13_11r : sR k13_11 k13_o0 k13_10 := yR rfl
noncomputable abbrev k13_C : Orc → Cx := mkC Try.prog [2, 3] 13 14 [.cell 2 3 true]
theorem k13_of : OfP Try.prog Try.f13 13 14 k13_C k13_11 := @ofP _ _ _ _ _ _ _ _ Try.func13 (by decide +kernel) rfl (by kernel_rfl) rfl (by kernel_rfl)
theorem toBar_c (x : T) (h : Heap) : ACalls Try.prog 13 [x.av] h (fun v h' => v = x.av ∧ h' = h) := by
  refine k13_of rfl noPure fun I => ?_
  refine Run2.of I 1000 ?_
  simp -implicitDefEqProofs
  intro a ha b hb1 hb2
  refine gK.go ?_
  simp -implicitDefEqProofs [hb1]
  refine .drop b (.drop a (.base ?_))
  simp -implicitDefEqProofs [hb1]
noncomputable def o_toBar : List AV → Option (Prop × AV) := tab (fun (x : Int × Int × Int) => match x with | (f, t, s) => [.agg [.int .i64 f, .int .i64 t, .int .i64 s]]) (fun x => match x with | (f, t, s) => True) (fun x => match x with | (f, t, s) => .agg [.int .i64 f, .int .i64 t, .int .i64 s])
@[simp] theorem o_toBar_e (f : Int) (t : Int) (s : Int) : o_toBar [.agg [.int .i64 f, .int .i64 t, .int .i64 s]] = some (True, .agg [.int .i64 f, .int .i64 t, .int .i64 s]) := tab_at (enc := fun (x : Int × Int × Int) => match x with | (f, t, s) => [.agg [.int .i64 f, .int .i64 t, .int .i64 s]]) (fun x y h => by
  obtain ⟨f1, t1, s1⟩ := x; obtain ⟨f2, t2, s2⟩ := y; simp at h; simp [h] <;> omega) _ _ (f, t, s)
theorem o_toBar_k : Knows Try.prog 13 o_toBar := tab_knows fun x hx h => by
  obtain ⟨f, t, s⟩ := x; exact toBar_c ⟨f, t, s⟩ h
abbrev k6_o0 : List AJ := [.o ⟨(some 2), none, false, .mv (.c .nilsl), (some [0])⟩]
abbrev k6_o1 : List AJ := [.o ⟨(some 5), none, false, .mv (.t 0), none⟩, .o ⟨(some 6), none, false, .len (.t 5), none⟩, .o ⟨(some 7), none, false, .mksl 3 24 (.agg [(.int .i64 0), (.int .i64 0), (.int .i64 0)]) (.t 6) (.t 6), none⟩, .o ⟨(some 3), none, false, .mv (.t 7), (some [0, 3])⟩]
abbrev k6_o2 : List AJ := [.o ⟨(some 4), none, false, .mv (.c (.int .i64 0)), (some [0, 3, 4])⟩]
abbrev k6_o3 : List AJ := [.o ⟨(some 8), none, false, .mv (.t 4), none⟩, .o ⟨(some 9), none, false, .mv (.t 0), none⟩, .o ⟨(some 10), none, false, .len (.t 9), none⟩, .o ⟨(some 11), none, false, .bin .lss (.t 8) (.t 10), (some [0, 3, 4, 11])⟩]
def k6_4 : ACode := .cond (.t 11) .skip (.exit 0)
def k6_5 : ACode := .seq (.region k6_o3) k6_4
abbrev k6_o4 : List AJ := [.o ⟨(some 14), none, false, .mv (.t 3), none⟩, .o ⟨(some 15), none, false, .mv (.t 4), none⟩, .o ⟨(some 16), none, false, .mv (.t 0), none⟩, .o ⟨(some 17), none, false, .mv (.t 4), none⟩, .o ⟨(some 18), none, false, .idxA 3 (.t 16) (.t 17), none⟩, .o ⟨(some 19), none, false, .load 3 true (.t 18), none⟩, .o ⟨(some 20), none, false, .call 13 [(.t 19)], none⟩, .o ⟨(some 21), none, false, .idxA 3 (.t 14) (.t 15), none⟩, .o ⟨none, none, false, .store 3 (.t 21) (.t 20), (some [0, 3, 4])⟩]
def k6_6 : ACode := .region k6_o4
abbrev k6_o5 : List AJ := [.o ⟨(some 12), none, false, .mv (.t 4), none⟩, .o ⟨(some 13), none, true, .bin .add (.t 12) (.c (.int .i64 1)), none⟩, .o ⟨(some 4), none, false, .mv (.t 13), (some [0, 3, 4])⟩]
def k6_8 : ACode := .region k6_o5
def k6_9 : ACode := .seq (.block 1 k6_6) k6_8
def k6_10 : ACode := .seq k6_5 k6_9
def k6_11 : ACode := .loop k6_10
def k6_12 : ACode := .block 0 k6_11
def k6_13 : ACode := .seq (.region k6_o2) k6_12
abbrev k6_o6 : List AJ := [.o ⟨(some 22), none, false, .mv (.t 3), none⟩, .o ⟨(some 2), none, false, .mv (.t 22), (some [2])⟩]
def k6_15 : ACode := .seq (.region k6_o6) .ret
def k6_16 : ACode := .seq k6_13 k6_15
def k6_17 : ACode := .seq (.region k6_o1) k6_16
def k6_18 : ACode := .seq (.region k6_o0) k6_17
@[simp, simp ↓] theorem k6_4r : rC k6_4 (.t 11) .skip (.exit 0) := zC rfl
@[simp, simp ↓] theorem k6_5r : sR k6_5 k6_o3 k6_4 := yR rfl
@[simp, simp ↓] theorem k6_6r : rR k6_6 k6_o4 := zR rfl
@[simp, simp ↓] theorem k6_8r : rR k6_8 k6_o5 := zR rfl
@[simp, simp ↓] theorem k6_9r : sB k6_9 1 k6_6 k6_8 := yB rfl
@[simp, simp ↓] theorem k6_10r : rS k6_10 k6_5 k6_9 := zS rfl
@[simp, simp ↓] theorem k6_11r : rL k6_11 k6_10 := zL rfl
@[simp, simp ↓] theorem k6_12r : rB k6_12 0 k6_11 := zB rfl
@[simp, simp ↓] theorem k6_13r : sR k6_13 k6_o2 k6_12 := yR rfl
@[simp, simp ↓] theorem k6_15r : sR k6_15 k6_o6 .ret := yR rfl
@[simp, simp ↓] theorem k6_16r : rS k6_16 k6_13 k6_15 := zS rfl
@[simp, simp ↓] theorem k6_17r : sR k6_17 k6_o1 k6_16 := yR rfl
@[simp, simp ↓] theorem k6_18r : sR k6_18 k6_o0 k6_17 := yR rfl
noncomputable abbrev k6_C : Orc → Cx := mkC Try.prog [] 6 23 [.tmp 2]
theorem k6_of0 : OfP0 Try.prog Try.f6 6 23 k6_C k6_18 := @ofP0 _ _ _ _ _ _ _ _ Try.func6 (by decide +kernel) rfl (by kernel_rfl) rfl (by kernel_rfl)
theorem toBarS_w (l : List T) (h : Heap) (hl : l.length ≤ 1048576) : ACalls Try.prog 6 [.snap 3 (l.map T.av)] h (fun v h' => ∃ id, id ∉ dom h ∧ v = .sl id 3 0 l.length (some l.length) ∧ h' = (id, ⟨3, l.map T.av⟩) :: h) := by
  refine k6_of0 rfl (lk_pure o_toBar_k lk_pure0) fun I => ?_
  refine Run2.of I 1000 ?_
  simp -implicitDefEqProofs
  refine ⟨by omega, fun id hid => ?_⟩
  refine Run2.loop (fun i => [(0, .snap 3 (l.map T.av)), (3, .sl id 3 0 l.length (some l.length)), (4, .int .i64 (i : Nat))]) (fun i => (id, ⟨3, (l.map T.av).take i ++ List.replicate (l.length - i) tz⟩) :: h) (fun i => l.length - i) (fun i => i ≤ l.length) 0 (Nat.zero_le _) fun i hi ih => ?_
  by_cases hlt : i < l.length
  · refine Run2.of I 1000 ?_
    simp -implicitDefEqProofs [hlt]
    refine ⟨by omega, by omega, ?_⟩
    have := ih (i + 1) (by omega) (by omega)
    simpa [set_fill (l.map T.av) tz (i := i) (n := l.length) (by simp) (by simpa using hlt)] using this
  · obtain rfl : i = l.length := by omega
    refine Run2.of I 1000 ?_
    simp -implicitDefEqProofs
    refine ⟨id, hid, rfl, ?_⟩
    rw [List.take_of_length_le (by simp)]
theorem toBarS_c (l : List T) (h : Heap) (hl : l.length ≤ 1048576) : ACalls Try.prog 6 [.snap 3 (l.map T.av)] h (fun v h' => v = .snap 3 (l.map T.av) ∧ h' = h) := by
  refine ACalls.post ((toBarS_w l h hl).mono ?_)
  rintro v h' ⟨id, hid, rfl, rfl⟩
  refine .freeze id (by simp; rfl) (.base ?_)
  simp [List.take_of_length_le]
@[simp] theorem T.cold (x : T) : Go.AG.cold x.av = true := rfl
@[simp] theorem T.own (x : T) : Go.AG.own x.av = true := rfl
def marksT (k : Int) (n : Nat) : List T := (List.range n).map fun i => ⟨k + 3 * (i : Nat), k + 3 * (i : Nat) + 1, k + 3 * (i : Nat) + 1 + 1⟩
@[simp] theorem marksT_length (k : Int) (n : Nat) : (marksT k n).length = n := by simp [marksT]
theorem marksT_succ (k : Int) (n : Nat) : marksT k (n + 1) = marksT k n ++ [⟨k + 3 * n, k + 3 * n + 1, k + 3 * n + 1 + 1⟩] := by simp [marksT, List.range_succ]
theorem marksT_get (k : Int) (n i : Nat) (h : i < (marksT k n).length) : (marksT k n)[i] = ⟨k + 3 * i, k + 3 * i + 1, k + 3 * i + 1 + 1⟩ := by simp [marksT]
theorem markT_step (l : List T) (ex : List AV) (k : Int) (i : Nat) (hi : i < l.length) : ((marksT k i).map T.av ++ (l.drop i).map T.av ++ ex).set i (T.av ⟨k + 3 * i, k + 3 * i + 1, k + 3 * i + 1 + 1⟩) = (marksT k (i + 1)).map T.av ++ (l.drop (i + 1)).map T.av ++ ex := by
  rw [List.drop_eq_getElem_cons hi, marksT_succ]
  simp only [List.map_cons, List.map_append, List.map_nil, List.append_assoc, List.cons_append, List.nil_append]
  rw [List.set_append_right _ _ (by simp)]
  simp
abbrev k9_o0 : List AJ := [.o ⟨(some 4), none, false, .mv (.c (.int .i64 0)), (some [0, 1])⟩]
abbrev k9_o1 : List AJ := [.o ⟨(some 5), none, false, .mv (.c (.int .i64 0)), (some [0, 1, 5])⟩]
abbrev k9_o2 : List AJ := [.o ⟨(some 6), none, false, .mv (.t 5), none⟩, .o ⟨(some 7), none, false, .mv (.t 0), none⟩, .o ⟨(some 8), none, false, .len (.t 7), none⟩, .o ⟨(some 9), none, false, .bin .lss (.t 6) (.t 8), (some [0, 1, 5, 9])⟩]
def k9_3 : ACode := .cond (.t 9) .skip (.exit 0)
def k9_4 : ACode := .seq (.region k9_o2) k9_3
abbrev k9_o3 : List AJ := [.o ⟨(some 12), none, false, .mv (.t 0), none⟩, .o ⟨(some 13), none, false, .mv (.t 5), none⟩, .o ⟨(some 14), none, false, .mv (.t 1), none⟩, .o ⟨(some 15), none, false, .idxA 3 (.t 12) (.t 13), none⟩, .o ⟨(some 16), none, false, .fieldA 0 (.t 15), none⟩, .o ⟨none, none, false, .store 1 (.t 16) (.t 14), (some [0, 1, 5])⟩]
abbrev k9_o4 : List AJ := [.o ⟨(some 17), none, false, .mv (.t 1), none⟩, .o ⟨(some 18), none, true, .bin .add (.t 17) (.c (.int .i64 1)), none⟩, .o ⟨(some 1), none, false, .mv (.t 18), (some [0, 1, 5])⟩]
abbrev k9_o5 : List AJ := [.o ⟨(some 19), none, false, .mv (.t 0), none⟩, .o ⟨(some 20), none, false, .mv (.t 5), none⟩, .o ⟨(some 21), none, false, .mv (.t 1), none⟩, .o ⟨(some 22), none, false, .idxA 3 (.t 19) (.t 20), none⟩, .o ⟨(some 23), none, false, .fieldA 1 (.t 22), none⟩, .o ⟨none, none, false, .store 1 (.t 23) (.t 21), (some [0, 1, 5])⟩]
abbrev k9_o6 : List AJ := [.o ⟨(some 24), none, false, .mv (.t 1), none⟩, .o ⟨(some 25), none, true, .bin .add (.t 24) (.c (.int .i64 1)), none⟩, .o ⟨(some 1), none, false, .mv (.t 25), (some [0, 1, 5])⟩]
abbrev k9_o7 : List AJ := [.o ⟨(some 26), none, false, .mv (.t 0), none⟩, .o ⟨(some 27), none, false, .mv (.t 5), none⟩, .o ⟨(some 28), none, false, .mv (.t 1), none⟩, .o ⟨(some 29), none, false, .idxA 3 (.t 26) (.t 27), none⟩, .o ⟨(some 30), none, false, .fieldA 2 (.t 29), none⟩, .o ⟨none, none, false, .store 1 (.t 30) (.t 28), (some [0, 1, 5])⟩]
abbrev k9_o8 : List AJ := [.o ⟨(some 31), none, false, .mv (.t 1), none⟩, .o ⟨(some 32), none, true, .bin .add (.t 31) (.c (.int .i64 1)), none⟩, .o ⟨(some 1), none, false, .mv (.t 32), (some [0, 1, 5])⟩]
def k9_10 : ACode := .region k9_o8
def k9_11 : ACode := .seq (.region k9_o7) k9_10
def k9_12 : ACode := .seq (.region k9_o6) k9_11
def k9_13 : ACode := .seq (.region k9_o5) k9_12
def k9_14 : ACode := .seq (.region k9_o4) k9_13
def k9_15 : ACode := .seq (.region k9_o3) k9_14
abbrev k9_o9 : List AJ := [.o ⟨(some 10), none, false, .mv (.t 5), none⟩, .o ⟨(some 11), none, true, .bin .add (.t 10) (.c (.int .i64 1)), none⟩, .o ⟨(some 5), none, false, .mv (.t 11), (some [0, 1, 5])⟩]
def k9_17 : ACode := .region k9_o9
def k9_18 : ACode := .seq (.block 1 k9_15) k9_17
def k9_19 : ACode := .seq k9_4 k9_18
def k9_20 : ACode := .loop k9_19
def k9_21 : ACode := .block 0 k9_20
def k9_22 : ACode := .seq (.region k9_o1) k9_21
abbrev k9_o10 : List AJ := [.o ⟨(some 33), none, false, .mv (.t 1), none⟩, .o ⟨(some 4), none, false, .mv (.t 33), (some [4])⟩]
def k9_24 : ACode := .seq (.region k9_o10) .ret
def k9_25 : ACode := .seq k9_22 k9_24
def k9_26 : ACode := .seq (.region k9_o0) k9_25
@[simp, simp ↓] theorem k9_3r : rC k9_3 (.t 9) .skip (.exit 0) := zC rfl
@[simp, simp ↓] theorem k9_4r : sR k9_4 k9_o2 k9_3 := yR rfl
@[simp, simp ↓] theorem k9_10r : rR k9_10 k9_o8 := zR rfl
@[simp, simp ↓] theorem k9_11r : sR k9_11 k9_o7 k9_10 := yR rfl
@[simp, simp ↓] theorem k9_12r : sR k9_12 k9_o6 k9_11 := yR rfl
@[simp, simp ↓] theorem k9_13r : sR k9_13 k9_o5 k9_12 := yR rfl
@[simp, simp ↓] theorem k9_14r : sR k9_14 k9_o4 k9_13 := yR rfl
@[simp, simp ↓] theorem k9_15r : sR k9_15 k9_o3 k9_14 := yR rfl
@[simp, simp ↓] theorem k9_17r : rR k9_17 k9_o9 := zR rfl
@[simp, simp ↓] theorem k9_18r : sB k9_18 1 k9_15 k9_17 := yB rfl
@[simp, simp ↓] theorem k9_19r : rS k9_19 k9_4 k9_18 := zS rfl
@[simp, simp ↓] theorem k9_20r : rL k9_20 k9_19 := zL rfl
@[simp, simp ↓] theorem k9_21r : rB k9_21 0 k9_20 := zB rfl
@[simp, simp ↓] theorem k9_22r : sR k9_22 k9_o1 k9_21 := yR rfl
@[simp, simp ↓] theorem k9_24r : sR k9_24 k9_o10 .ret := yR rfl
@[simp, simp ↓] theorem k9_25r : rS k9_25 k9_22 k9_24 := zS rfl
@[simp, simp ↓] theorem k9_26r : sR k9_26 k9_o0 k9_25 := yR rfl
noncomputable abbrev k9_C : Orc → Cx := mkC Try.prog [] 9 34 [.tmp 4]
theorem k9_of0 : OfP0 Try.prog Try.f9 9 34 k9_C k9_26 := @ofP0 _ _ _ _ _ _ _ _ Try.func9 (by decide +kernel) rfl (by kernel_rfl) rfl (by kernel_rfl)
theorem markBarS_s (id : Nat) (l : List T) (ex : List AV) (cap : Option Nat) (k : Int) (hk : 0 ≤ k ∧ k ≤ 1099511627776) (hl : l.length ≤ 1073741824) : ACalls Try.prog 9 [.sl id 3 0 l.length cap, .int .i64 k] [(id, ⟨3, l.map T.av ++ ex⟩)] (fun v h' => v = .int .i64 (k + 3 * l.length) ∧ h' = [(id, ⟨3, (marksT k l.length).map T.av ++ ex⟩)]) := by
  refine k9_of0 rfl noPure fun I => ?_
  refine Run2.of I 1000 ?_
  simp -implicitDefEqProofs
  obtain ⟨f, hf0, hfn, hlen, hset, hget⟩ : ∃ f : Nat → List AV, l.map T.av ++ ex = f 0 ∧ (marksT k l.length).map T.av ++ ex = f l.length ∧ (∀ i, i ≤ l.length → (f i).length = l.length + ex.length) ∧ (∀ i, i < l.length → (f i).set i (T.av ⟨k + 3 * i, k + 3 * i + 1, k + 3 * i + 1 + 1⟩) = f (i + 1)) ∧ ∀ i, (hi : i < l.length) → (f i)[i]? = some l[i].av :=
    ⟨fun i => (marksT k i).map T.av ++ (l.drop i).map T.av ++ ex, by simp [marksT], by simp, fun i hi => by simp; omega, fun i hi => markT_step l ex k i hi, fun i hi => by
      show ((marksT k i).map T.av ++ (l.drop i).map T.av ++ ex)[i]? = _
      rw [List.append_assoc, List.getElem?_append_right (by simp)]
      rw [show i - ((marksT k i).map T.av).length = 0 by simp, List.drop_eq_getElem_cons hi]; rfl⟩
  have hz : l.map (fun x : T => AV.agg [.int .i64 x.f, .int .i64 x.t, .int .i64 x.s]) = l.map T.av := rfl
  rw [hf0, hfn]
  refine Run2.loopE (fun i => [(0, .sl id 3 0 l.length cap), (1, .int .i64 (k + 3 * (i : Nat))), (5, .int .i64 (i : Nat))]) (fun i => [(id, ⟨3, f i⟩)]) (fun i => l.length - i) (fun i => i ≤ l.length) 0 (by simp) rfl (Nat.zero_le _) fun i hi ih => ?_
  by_cases hlt : i < l.length
  · have go := ih (i + 1) (by omega) (by omega)
    have hl2 := hlen i hi
    have hg := hget i hlt
    have hlf : i < (f i).length := by omega
    have hs := hset i hlt
    clear ih
    refine Run2.of I 1000 ?_
    have hsg : ∀ A, ((f i).set i A)[i]? = some A := fun A => List.getElem?_set_self hlf
    simp -implicitDefEqProofs [hlt, hl2, hg, hsg]
    simp at hs
    rw [hs]
    refine ⟨by omega, by omega, by omega, by omega, ?_⟩
    have e : k + 3 * ((i + 1 : Nat) : Int) = k + 3 * i + 1 + 1 + 1 := by omega
    rw [e] at go
    simpa using go
  · obtain rfl : i = l.length := by omega
    refine Run2.of I 1000 ?_
    simp -implicitDefEqProofs
theorem markBarS_o {v : AV} {l : List T} {hs : Heap} (ho : OwnL T.av 3 v l hs) (k : Int) (hk : 0 ≤ k ∧ k ≤ 1099511627776) (hl : l.length ≤ 1073741824) : ACalls Try.prog 9 [v, .int .i64 k] hs (fun r h' => r = .int .i64 (k + 3 * l.length) ∧ OwnL T.av 3 v (marksT k l.length) h') := by
  have nil : ∀ u, (u = AV.nilsl ∨ u = .emp) → ACalls Try.prog 9 [u, .int .i64 k] [] (fun r h' => r = .int .i64 (k + 3 * ([] : List T).length) ∧ OwnL T.av 3 u (marksT k 0) h') := by
    rintro u (rfl | rfl)
    all_goals
      refine k9_of0 rfl noPure fun I => ?_
      refine Run2.of I 1000 ?_
      simp -implicitDefEqProofs
      refine Run2.loopE (fun (_ : Unit) => [(0, _), (1, .int .i64 k), (5, .int .i64 0)]) (fun _ => []) (fun _ => 0) (fun _ => True) () (by rfl) rfl trivial fun _ _ _ => ?_
      refine Run2.of I 1000 ?_
      simp -implicitDefEqProofs
      constructor
  cases ho with
  | nil => exact nil _ (.inl rfl)
  | emp => exact nil _ (.inr rfl)
  | sl id cap ex hex =>
    refine (markBarS_s id l ex cap k hk hl).mono ?_
    rintro r h' ⟨rfl, rfl⟩
    refine ⟨rfl, ?_⟩
    have := OwnL.sl (enc := T.av) (sz := 3) (l := marksT k l.length) id cap ex hex
    rwa [marksT_length] at this
abbrev k10_o0 : List AJ := [.o ⟨(some 4), none, false, .mv (.c (.int .i64 0)), (some [0, 1])⟩]
abbrev k10_o1 : List AJ := [.o ⟨(some 5), none, false, .mv (.c (.int .i64 0)), (some [0, 1, 5])⟩]
abbrev k10_o2 : List AJ := [.o ⟨(some 6), none, false, .mv (.t 5), none⟩, .o ⟨(some 7), none, false, .mv (.t 0), none⟩, .o ⟨(some 8), none, false, .len (.t 7), none⟩, .o ⟨(some 9), none, false, .bin .lss (.t 6) (.t 8), (some [0, 1, 5, 9])⟩]
def k10_3 : ACode := .cond (.t 9) .skip (.exit 0)
def k10_4 : ACode := .seq (.region k10_o2) k10_3
abbrev k10_o3 : List AJ := [.o ⟨(some 12), none, false, .mv (.t 0), none⟩, .o ⟨(some 13), none, false, .mv (.t 5), none⟩, .o ⟨(some 14), none, false, .idxA 3 (.t 12) (.t 13), none⟩, .o ⟨(some 15), none, false, .fieldA 0 (.t 14), none⟩, .o ⟨(some 16), none, false, .load 1 false (.t 15), none⟩, .o ⟨(some 17), none, false, .mv (.t 1), none⟩, .o ⟨(some 18), none, false, .bin .neq (.t 16) (.t 17), (some [0, 1, 5, 18])⟩]
abbrev k10_o4 : List AJ := [.o ⟨(some 4), none, false, .mv (.c (.int .i64 (-1))), (some [4])⟩]
def k10_7 : ACode := .seq (.region k10_o4) .ret
def k10_8 : ACode := .cond (.t 18) k10_7 .skip
def k10_9 : ACode := .seq (.region k10_o3) k10_8
abbrev k10_o5 : List AJ := [.o ⟨(some 19), none, false, .mv (.t 1), none⟩, .o ⟨(some 20), none, true, .bin .add (.t 19) (.c (.int .i64 1)), none⟩, .o ⟨(some 1), none, false, .mv (.t 20), (some [0, 1, 5])⟩]
abbrev k10_o6 : List AJ := [.o ⟨(some 21), none, false, .mv (.t 0), none⟩, .o ⟨(some 22), none, false, .mv (.t 5), none⟩, .o ⟨(some 23), none, false, .idxA 3 (.t 21) (.t 22), none⟩, .o ⟨(some 24), none, false, .fieldA 1 (.t 23), none⟩, .o ⟨(some 25), none, false, .load 1 false (.t 24), none⟩, .o ⟨(some 26), none, false, .mv (.t 1), none⟩, .o ⟨(some 27), none, false, .bin .neq (.t 25) (.t 26), (some [0, 1, 5, 27])⟩]
abbrev k10_o7 : List AJ := [.o ⟨(some 4), none, false, .mv (.c (.int .i64 (-1))), (some [4])⟩]
def k10_13 : ACode := .seq (.region k10_o7) .ret
def k10_14 : ACode := .cond (.t 27) k10_13 .skip
def k10_15 : ACode := .seq (.region k10_o6) k10_14
abbrev k10_o8 : List AJ := [.o ⟨(some 28), none, false, .mv (.t 1), none⟩, .o ⟨(some 29), none, true, .bin .add (.t 28) (.c (.int .i64 1)), none⟩, .o ⟨(some 1), none, false, .mv (.t 29), (some [0, 1, 5])⟩]
abbrev k10_o9 : List AJ := [.o ⟨(some 30), none, false, .mv (.t 0), none⟩, .o ⟨(some 31), none, false, .mv (.t 5), none⟩, .o ⟨(some 32), none, false, .idxA 3 (.t 30) (.t 31), none⟩, .o ⟨(some 33), none, false, .fieldA 2 (.t 32), none⟩, .o ⟨(some 34), none, false, .load 1 false (.t 33), none⟩, .o ⟨(some 35), none, false, .mv (.t 1), none⟩, .o ⟨(some 36), none, false, .bin .neq (.t 34) (.t 35), (some [0, 1, 5, 36])⟩]
abbrev k10_o10 : List AJ := [.o ⟨(some 4), none, false, .mv (.c (.int .i64 (-1))), (some [4])⟩]
def k10_19 : ACode := .seq (.region k10_o10) .ret
def k10_20 : ACode := .cond (.t 36) k10_19 .skip
def k10_21 : ACode := .seq (.region k10_o9) k10_20
abbrev k10_o11 : List AJ := [.o ⟨(some 37), none, false, .mv (.t 1), none⟩, .o ⟨(some 38), none, true, .bin .add (.t 37) (.c (.int .i64 1)), none⟩, .o ⟨(some 1), none, false, .mv (.t 38), (some [0, 1, 5])⟩]
def k10_22 : ACode := .region k10_o11
def k10_23 : ACode := .seq k10_21 k10_22
def k10_24 : ACode := .seq (.region k10_o8) k10_23
def k10_25 : ACode := .seq k10_15 k10_24
def k10_26 : ACode := .seq (.region k10_o5) k10_25
def k10_27 : ACode := .seq k10_9 k10_26
abbrev k10_o12 : List AJ := [.o ⟨(some 10), none, false, .mv (.t 5), none⟩, .o ⟨(some 11), none, true, .bin .add (.t 10) (.c (.int .i64 1)), none⟩, .o ⟨(some 5), none, false, .mv (.t 11), (some [0, 1, 5])⟩]
def k10_29 : ACode := .region k10_o12
def k10_30 : ACode := .seq (.block 1 k10_27) k10_29
def k10_31 : ACode := .seq k10_4 k10_30
def k10_32 : ACode := .loop k10_31
def k10_33 : ACode := .block 0 k10_32
def k10_34 : ACode := .seq (.region k10_o1) k10_33
abbrev k10_o13 : List AJ := [.o ⟨(some 39), none, false, .mv (.t 1), none⟩, .o ⟨(some 4), none, false, .mv (.t 39), (some [4])⟩]
def k10_36 : ACode := .seq (.region k10_o13) .ret
def k10_37 : ACode := .seq k10_34 k10_36
def k10_38 : ACode := .seq (.region k10_o0) k10_37
@[simp, simp ↓] theorem k10_3r : rC k10_3 (.t 9) .skip (.exit 0) := zC rfl
@[simp, simp ↓] theorem k10_4r : sR k10_4 k10_o2 k10_3 := yR rfl
@[simp, simp ↓] theorem k10_7r : sR k10_7 k10_o4 .ret := yR rfl
@[simp, simp ↓] theorem k10_8r : rC k10_8 (.t 18) k10_7 .skip := zC rfl
@[simp, simp ↓] theorem k10_9r : sR k10_9 k10_o3 k10_8 := yR rfl
@[simp, simp ↓] theorem k10_13r : sR k10_13 k10_o7 .ret := yR rfl
@[simp, simp ↓] theorem k10_14r : rC k10_14 (.t 27) k10_13 .skip := zC rfl
@[simp, simp ↓] theorem k10_15r : sR k10_15 k10_o6 k10_14 := yR rfl
@[simp, simp ↓] theorem k10_19r : sR k10_19 k10_o10 .ret := yR rfl
@[simp, simp ↓] theorem k10_20r : rC k10_20 (.t 36) k10_19 .skip := zC rfl
@[simp, simp ↓] theorem k10_21r : sR k10_21 k10_o9 k10_20 := yR rfl
@[simp, simp ↓] theorem k10_22r : rR k10_22 k10_o11 := zR rfl
@[simp, simp ↓] theorem k10_23r : rS k10_23 k10_21 k10_22 := zS rfl
@[simp, simp ↓] theorem k10_24r : sR k10_24 k10_o8 k10_23 := yR rfl
@[simp, simp ↓] theorem k10_25r : rS k10_25 k10_15 k10_24 := zS rfl
@[simp, simp ↓] theorem k10_26r : sR k10_26 k10_o5 k10_25 := yR rfl
@[simp, simp ↓] theorem k10_27r : rS k10_27 k10_9 k10_26 := zS rfl
@[simp, simp ↓] theorem k10_29r : rR k10_29 k10_o12 := zR rfl
@[simp, simp ↓] theorem k10_30r : sB k10_30 1 k10_27 k10_29 := yB rfl
@[simp, simp ↓] theorem k10_31r : rS k10_31 k10_4 k10_30 := zS rfl
@[simp, simp ↓] theorem k10_32r : rL k10_32 k10_31 := zL rfl
@[simp, simp ↓] theorem k10_33r : rB k10_33 0 k10_32 := zB rfl
@[simp, simp ↓] theorem k10_34r : sR k10_34 k10_o1 k10_33 := yR rfl
@[simp, simp ↓] theorem k10_36r : sR k10_36 k10_o13 .ret := yR rfl
@[simp, simp ↓] theorem k10_37r : rS k10_37 k10_34 k10_36 := zS rfl
@[simp, simp ↓] theorem k10_38r : sR k10_38 k10_o0 k10_37 := yR rfl
noncomputable abbrev k10_C : Orc → Cx := mkC Try.prog [] 10 40 [.tmp 4]
theorem k10_of0 : OfP0 Try.prog Try.f10 10 40 k10_C k10_38 := @ofP0 _ _ _ _ _ _ _ _ Try.func10 (by decide +kernel) rfl (by kernel_rfl) rfl (by kernel_rfl)
theorem heldBarS_s (l : List T) (k : Int) (h : Heap) (hk : 0 ≤ k ∧ k ≤ 1099511627776) (hl : l.length ≤ 1073741824) : ACalls Try.prog 10 [.snap 3 (l.map T.av), .int .i64 k] h (fun v h' => v = .int .i64 (if l = marksT k l.length then k + 3 * l.length else -1) ∧ h' = h) := by
  refine k10_of0 rfl noPure fun I => ?_
  refine Run2.of I 1000 ?_
  simp -implicitDefEqProofs
  refine Run2.loopE (fun i => [(0, .snap 3 (l.map T.av)), (1, .int .i64 (k + 3 * (i : Nat))), (5, .int .i64 (i : Nat))]) (fun i => h) (fun i => l.length - i) (fun i => i ≤ l.length ∧ l.take i = marksT k i) 0 (by simp) rfl (by simp [marksT]) fun i hi ih => ?_
  by_cases hlt : i < l.length
  · have hbad : ¬ l[i] = ⟨k + 3 * i, k + 3 * i + 1, k + 3 * i + 1 + 1⟩ → ¬ l = marksT k l.length := fun h1 h2 => h1 (by
      have : l[i] = (marksT k l.length)[i]'(by simpa using hlt) := by congr 1
      rw [this, marksT_get])
    have go := fun (h1 : l[i] = ⟨k + 3 * i, k + 3 * i + 1, k + 3 * i + 1 + 1⟩) => ih (i + 1) ⟨by omega, by rw [List.take_succ_eq_append_getElem hlt, marksT_succ, hi.2, h1]⟩ (by omega)
    have e : k + 3 * ((i + 1 : Nat) : Int) = k + 3 * i + 1 + 1 + 1 := by omega
    rw [e] at go
    clear ih
    refine Run2.of I 1000 ?_
    simp -implicitDefEqProofs [hlt]
    repeat' (first | refine And.intro ?_ ?_ | intro _)
    all_goals first | omega | skip
    · exact absurd ‹l = _› (hbad fun h => by have h1 := congrArg T.f h; have h2 := congrArg T.t h; have h3 := congrArg T.s h; simp only at h1 h2 h3; omega)
    · exact absurd ‹l = _› (hbad fun h => by have h1 := congrArg T.f h; have h2 := congrArg T.t h; have h3 := congrArg T.s h; simp only at h1 h2 h3; omega)
    · exact absurd ‹l = _› (hbad fun h => by have h1 := congrArg T.f h; have h2 := congrArg T.t h; have h3 := congrArg T.s h; simp only at h1 h2 h3; omega)
    · simpa using go (T.ext' ‹_› ‹_› ‹_›)
  · obtain rfl : i = l.length := by omega
    have h2 := hi.2
    rw [List.take_length] at h2
    refine Run2.of I 1000 ?_
    simp -implicitDefEqProofs
    exact fun h => absurd h2 h
theorem heldBarS_c {u : AV} {l : List T} (hu : IsL T.av 3 u l) (k : Int) (h : Heap) (hk : 0 ≤ k ∧ k ≤ 1099511627776) (hl : l.length ≤ 1073741824) : ACalls Try.prog 10 [u, .int .i64 k] h (fun v h' => v = .int .i64 (if l = marksT k l.length then k + 3 * l.length else -1) ∧ h' = h) :=
  (heldBarS_s _ k h hk hl).wk (.cons hu.wk (.refl _))
abbrev k4_o0 : List AJ := [.o ⟨(some 4), none, false, .mv (.c (.int .i64 0)), (some [0, 1])⟩]
abbrev k4_o1 : List AJ := [.o ⟨(some 5), none, false, .mv (.t 1), none⟩, .o ⟨(some 6), none, false, .mv (.t 0), none⟩, .o ⟨(some 7), none, false, .len (.t 6), none⟩, .o ⟨(some 8), none, true, .bin .sub (.t 5) (.t 7), none⟩, .o ⟨(some 1), none, false, .mv (.t 8), (some [1])⟩]
abbrev k4_o2 : List AJ := [.o ⟨(some 9), none, false, .mv (.t 1), none⟩, .o ⟨(some 10), none, false, .bin .lss (.t 9) (.c (.int .i64 0)), (some [1, 10])⟩]
abbrev k4_o3 : List AJ := [.o ⟨(some 4), none, false, .mv (.c (.int .i64 (-1))), (some [4])⟩]
def k4_4 : ACode := .seq (.region k4_o3) .ret
def k4_5 : ACode := .cond (.t 10) k4_4 .skip
def k4_6 : ACode := .seq (.region k4_o2) k4_5
abbrev k4_o4 : List AJ := [.o ⟨(some 11), none, false, .mv (.t 1), none⟩, .o ⟨(some 4), none, false, .mv (.t 11), (some [4])⟩]
def k4_8 : ACode := .seq (.region k4_o4) .ret
def k4_9 : ACode := .seq k4_6 k4_8
def k4_10 : ACode := .seq (.region k4_o1) k4_9
def k4_11 : ACode := .seq (.region k4_o0) k4_10
@[simp, simp ↓] theorem k4_4r : sR k4_4 k4_o3 .ret := yR rfl
@[simp, simp ↓] theorem k4_5r : rC k4_5 (.t 10) k4_4 .skip := zC rfl
@[simp, simp ↓] theorem k4_6r : sR k4_6 k4_o2 k4_5 := yR rfl
@[simp, simp ↓] theorem k4_8r : sR k4_8 k4_o4 .ret := yR rfl
@[simp, simp ↓] theorem k4_9r : rS k4_9 k4_6 k4_8 := zS rfl
@[simp, simp ↓] theorem k4_10r : sR k4_10 k4_o1 k4_9 := yR rfl
@[simp, simp ↓] theorem k4_11r : sR k4_11 k4_o0 k4_10 := yR rfl
noncomputable abbrev k4_C : Orc → Cx := mkC Try.prog [] 4 12 [.tmp 4]
theorem k4_of0 : OfP0 Try.prog Try.f4 4 12 k4_C k4_11 := @ofP0 _ _ _ _ _ _ _ _ Try.func4 (by decide +kernel) rfl (by kernel_rfl) rfl (by kernel_rfl)
theorem szBarS_c (l : List T) (n : Int) (h : Heap) (hn : 0 ≤ n ∧ n ≤ 1048576) (hl : l.length ≤ 9223372036854775807) : ACalls Try.prog 4 [.snap 3 (l.map T.av), .int .i64 n] h (fun v h' => v = .int .i64 (if n < l.length then -1 else n - l.length) ∧ h' = h) := by
  refine k4_of0 rfl noPure fun I => ?_
  refine Run2.of I 1000 ?_
  simp -implicitDefEqProofs
  grind
abbrev k18_o0 : List AJ := [.o ⟨(some 2), none, false, .box false 3 (.t 0), none⟩, .o ⟨(some 3), none, false, .box false 3 (.t 1), none⟩, .o ⟨(some 4), none, false, .mv (.c (.bool false)), (some [2, 3])⟩]
abbrev k18_o1 : List AJ := [.o ⟨(some 5), none, false, .fieldA 0 (.t 2), none⟩, .o ⟨(some 6), none, false, .load 1 false (.t 5), none⟩, .o ⟨(some 7), none, false, .fieldA 0 (.t 3), none⟩, .o ⟨(some 8), none, false, .load 1 false (.t 7), none⟩, .o ⟨(some 9), none, false, .bin .neq (.t 6) (.t 8), (some [2, 3, 9])⟩]
abbrev k18_o2 : List AJ := [.o ⟨(some 4), none, false, .mv (.c (.bool false)), (some [4])⟩]
def k18_3 : ACode := .seq (.region k18_o2) .ret
def k18_4 : ACode := .cond (.t 9) k18_3 .skip
def k18_5 : ACode := .seq (.region k18_o1) k18_4
abbrev k18_o3 : List AJ := [.o ⟨(some 10), none, false, .fieldA 1 (.t 2), none⟩, .o ⟨(some 11), none, false, .load 1 false (.t 10), none⟩, .o ⟨(some 12), none, false, .fieldA 1 (.t 3), none⟩, .o ⟨(some 13), none, false, .load 1 false (.t 12), none⟩, .o ⟨(some 14), none, false, .bin .neq (.t 11) (.t 13), (some [2, 3, 14])⟩]
abbrev k18_o4 : List AJ := [.o ⟨(some 4), none, false, .mv (.c (.bool false)), (some [4])⟩]
def k18_8 : ACode := .seq (.region k18_o4) .ret
def k18_9 : ACode := .cond (.t 14) k18_8 .skip
def k18_10 : ACode := .seq (.region k18_o3) k18_9
abbrev k18_o5 : List AJ := [.o ⟨(some 15), none, false, .fieldA 2 (.t 2), none⟩, .o ⟨(some 16), none, false, .load 1 false (.t 15), none⟩, .o ⟨(some 17), none, false, .fieldA 2 (.t 3), none⟩, .o ⟨(some 18), none, false, .load 1 false (.t 17), none⟩, .o ⟨(some 19), none, false, .bin .neq (.t 16) (.t 18), (some [19])⟩]
abbrev k18_o6 : List AJ := [.o ⟨(some 4), none, false, .mv (.c (.bool false)), (some [4])⟩]
def k18_13 : ACode := .seq (.region k18_o6) .ret
def k18_14 : ACode := .cond (.t 19) k18_13 .skip
def k18_15 : ACode := .seq (.region k18_o5) k18_14
abbrev k18_o7 : List AJ := [.o ⟨(some 4), none, false, .mv (.c (.bool true)), (some [4])⟩]
def k18_17 : ACode := .seq (.region k18_o7) .ret
def k18_18 : ACode := .seq k18_15 k18_17
def k18_19 : ACode := .seq k18_10 k18_18
def k18_20 : ACode := .seq k18_5 k18_19
def k18_21 : ACode := .seq (.region k18_o0) k18_20
@[simp, simp ↓] theorem k18_3r : sR k18_3 k18_o2 .ret := yR rfl
@[simp, simp ↓] theorem k18_4r : rC k18_4 (.t 9) k18_3 .skip := zC rfl
@[simp, simp ↓] theorem k18_5r : sR k18_5 k18_o1 k18_4 := yR rfl
@[simp, simp ↓] theorem k18_8r : sR k18_8 k18_o4 .ret := yR rfl
@[simp, simp ↓] theorem k18_9r : rC k18_9 (.t 14) k18_8 .skip := zC rfl
@[simp, simp ↓] theorem k18_10r : sR k18_10 k18_o3 k18_9 := yR rfl
@[simp, simp ↓] theorem k18_13r : sR k18_13 k18_o6 .ret := yR rfl
@[simp, simp ↓] theorem k18_14r : rC k18_14 (.t 19) k18_13 .skip := zC rfl
@[simp, simp ↓] theorem k18_15r : sR k18_15 k18_o5 k18_14 := yR rfl
@[simp, simp ↓] theorem k18_17r : sR k18_17 k18_o7 .ret := yR rfl
@[simp, simp ↓] theorem k18_18r : rS k18_18 k18_15 k18_17 := zS rfl
@[simp, simp ↓] theorem k18_19r : rS k18_19 k18_10 k18_18 := zS rfl
@[simp, simp ↓] theorem k18_20r : rS k18_20 k18_5 k18_19 := zS rfl
@[simp, simp ↓] theorem k18_21r : sR k18_21 k18_o0 k18_20 := yR rfl
noncomputable abbrev k18_C : Orc → Cx := mkC Try.prog [] 18 20 [.tmp 4]
theorem k18_of0 : OfP0 Try.prog Try.f18 18 20 k18_C k18_21 := @ofP0 _ _ _ _ _ _ _ _ Try.func18 (by decide +kernel) rfl (by kernel_rfl) rfl (by kernel_rfl)
theorem eqBar_c (x y : T) (h : Heap) : ACalls Try.prog 18 [x.av, y.av] h (fun v h' => v = .bool (decide (x = y)) ∧ h' = h) := by
  refine k18_of0 rfl noPure fun I => ?_
  cases x; cases y
  refine Run2.of I 1000 ?_
  simp -implicitDefEqProofs
  grind
noncomputable def o_eqBar : List AV → Option (Prop × AV) := tab (fun (x : Int × Int × Int × Int × Int × Int) => match x with | (f, t, s, f', t', s') => [.agg [.int .i64 f, .int .i64 t, .int .i64 s], .agg [.int .i64 f', .int .i64 t', .int .i64 s']]) (fun x => match x with | (f, t, s, f', t', s') => True) (fun x => match x with | (f, t, s, f', t', s') => .bool (decide ((⟨f, t, s⟩ : T) = ⟨f', t', s'⟩)))
@[simp] theorem o_eqBar_e (f : Int) (t : Int) (s : Int) (f' : Int) (t' : Int) (s' : Int) : o_eqBar [.agg [.int .i64 f, .int .i64 t, .int .i64 s], .agg [.int .i64 f', .int .i64 t', .int .i64 s']] = some (True, .bool (decide ((⟨f, t, s⟩ : T) = ⟨f', t', s'⟩))) := tab_at (enc := fun (x : Int × Int × Int × Int × Int × Int) => match x with | (f, t, s, f', t', s') => [.agg [.int .i64 f, .int .i64 t, .int .i64 s], .agg [.int .i64 f', .int .i64 t', .int .i64 s']]) (fun x y h => by
  obtain ⟨f1, t1, s1, f'1, t'1, s'1⟩ := x; obtain ⟨f2, t2, s2, f'2, t'2, s'2⟩ := y; simp at h; simp [h] <;> omega) _ _ (f, t, s, f', t', s')
theorem o_eqBar_k : Knows Try.prog 18 o_eqBar := tab_knows fun x hx h => by
  obtain ⟨f, t, s, f', t', s'⟩ := x; exact eqBar_c ⟨f, t, s⟩ ⟨f', t', s'⟩ h
abbrev k8_o0 : List AJ := [.o ⟨(some 4), none, false, .mv (.c (.bool false)), (some [0, 1])⟩]
abbrev k8_o1 : List AJ := [.o ⟨(some 6), none, false, .mv (.t 0), none⟩, .o ⟨(some 7), none, false, .len (.t 6), none⟩, .o ⟨(some 8), none, false, .mv (.t 1), none⟩, .o ⟨(some 9), none, false, .len (.t 8), none⟩, .o ⟨(some 10), none, false, .bin .neq (.t 7) (.t 9), (some [0, 1, 10])⟩]
abbrev k8_o2 : List AJ := [.o ⟨(some 4), none, false, .mv (.c (.bool false)), (some [4])⟩]
def k8_3 : ACode := .seq (.region k8_o2) .ret
def k8_4 : ACode := .cond (.t 10) k8_3 .skip
def k8_5 : ACode := .seq (.region k8_o1) k8_4
abbrev k8_o3 : List AJ := [.o ⟨(some 5), none, false, .mv (.c (.int .i64 0)), (some [0, 1, 5])⟩]
abbrev k8_o4 : List AJ := [.o ⟨(some 11), none, false, .mv (.t 5), none⟩, .o ⟨(some 12), none, false, .mv (.t 0), none⟩, .o ⟨(some 13), none, false, .len (.t 12), none⟩, .o ⟨(some 14), none, false, .bin .lss (.t 11) (.t 13), (some [0, 1, 5, 14])⟩]
def k8_8 : ACode := .cond (.t 14) .skip (.exit 0)
def k8_9 : ACode := .seq (.region k8_o4) k8_8
abbrev k8_o5 : List AI := [⟨(some 17), none, false, .mv (.t 0), none⟩, ⟨(some 18), none, false, .mv (.t 5), none⟩, ⟨(some 19), none, false, .idxA 3 (.t 17) (.t 18), none⟩, ⟨(some 20), none, false, .load 3 true (.t 19), none⟩, ⟨(some 21), none, false, .mv (.t 1), none⟩, ⟨(some 22), none, false, .mv (.t 5), none⟩, ⟨(some 23), none, false, .idxA 3 (.t 21) (.t 22), none⟩, ⟨(some 24), none, false, .load 3 true (.t 23), none⟩, ⟨(some 25), none, false, .call 18 [(.t 20), (.t 24)], none⟩, ⟨(some 26), none, false, .un .not (.t 25), (some [0, 1, 5, 26])⟩]
abbrev k8_o6 : List AJ := [.o ⟨(some 4), none, false, .mv (.c (.bool false)), (some [4])⟩]
def k8_12 : ACode := .seq (.region k8_o6) .ret
def k8_13 : ACode := .cond (.t 26) k8_12 .skip
def k8_14 : ACode := .seq (.draw k8_o5 [] rfl) k8_13
abbrev k8_o7 : List AJ := [.o ⟨(some 15), none, false, .mv (.t 5), none⟩, .o ⟨(some 16), none, true, .bin .add (.t 15) (.c (.int .i64 1)), none⟩, .o ⟨(some 5), none, false, .mv (.t 16), (some [0, 1, 5])⟩]
def k8_16 : ACode := .region k8_o7
def k8_17 : ACode := .seq (.block 1 k8_14) k8_16
def k8_18 : ACode := .seq k8_9 k8_17
def k8_19 : ACode := .loop k8_18
def k8_20 : ACode := .block 0 k8_19
def k8_21 : ACode := .seq (.region k8_o3) k8_20
abbrev k8_o8 : List AJ := [.o ⟨(some 4), none, false, .mv (.c (.bool true)), (some [4])⟩]
def k8_23 : ACode := .seq (.region k8_o8) .ret
def k8_24 : ACode := .seq k8_21 k8_23
def k8_25 : ACode := .seq k8_5 k8_24
def k8_26 : ACode := .seq (.region k8_o0) k8_25
@[simp, simp ↓] theorem k8_3r : sR k8_3 k8_o2 .ret := yR rfl
@[simp, simp ↓] theorem k8_4r : rC k8_4 (.t 10) k8_3 .skip := zC rfl
@[simp, simp ↓] theorem k8_5r : sR k8_5 k8_o1 k8_4 := yR rfl
@[simp, simp ↓] theorem k8_8r : rC k8_8 (.t 14) .skip (.exit 0) := zC rfl
@[simp, simp ↓] theorem k8_9r : sR k8_9 k8_o4 k8_8 := yR rfl
@[simp, simp ↓] theorem k8_12r : sR k8_12 k8_o6 .ret := yR rfl
@[simp, simp ↓] theorem k8_13r : rC k8_13 (.t 26) k8_12 .skip := zC rfl
@[simp, simp ↓] theorem k8_14r : sD k8_14 k8_o5 [] k8_13 := yD rfl
@[simp, simp ↓] theorem k8_16r : rR k8_16 k8_o7 := zR rfl
@[simp, simp ↓] theorem k8_17r : sB k8_17 1 k8_14 k8_16 := yB rfl
@[simp, simp ↓] theorem k8_18r : rS k8_18 k8_9 k8_17 := zS rfl
@[simp, simp ↓] theorem k8_19r : rL k8_19 k8_18 := zL rfl
@[simp, simp ↓] theorem k8_20r : rB k8_20 0 k8_19 := zB rfl
@[simp, simp ↓] theorem k8_21r : sR k8_21 k8_o3 k8_20 := yR rfl
@[simp, simp ↓] theorem k8_23r : sR k8_23 k8_o8 .ret := yR rfl
@[simp, simp ↓] theorem k8_24r : rS k8_24 k8_21 k8_23 := zS rfl
@[simp, simp ↓] theorem k8_25r : rS k8_25 k8_5 k8_24 := zS rfl
@[simp, simp ↓] theorem k8_26r : sR k8_26 k8_o0 k8_25 := yR rfl
noncomputable abbrev k8_C : Orc → Cx := mkC Try.prog [] 8 27 [.tmp 4]
theorem k8_of0 : OfP0 Try.prog Try.f8 8 27 k8_C k8_26 := @ofP0 _ _ _ _ _ _ _ _ Try.func8 (by decide +kernel) rfl (by kernel_rfl) rfl (by kernel_rfl)
theorem eqBarS_c (l m : List T) (h : Heap) (hl : l.length ≤ 1048576) : ACalls Try.prog 8 [.snap 3 (l.map T.av), .snap 3 (m.map T.av)] h (fun v h' => v = .bool (decide (l = m)) ∧ h' = h) := by
  refine k8_of0 rfl (lk_pure o_eqBar_k lk_pure0) fun I => ?_
  refine Run2.of I 1000 ?_
  simp -implicitDefEqProofs
  refine ⟨by rintro hne rfl; exact hne rfl, fun hlen => ?_⟩
  refine Run2.loop (fun i => [(0, .snap 3 (l.map T.av)), (1, .snap 3 (m.map T.av)), (5, .int .i64 (i : Nat))]) (fun i => h) (fun i => l.length - i) (fun i => i ≤ l.length ∧ l.take i = m.take i) 0 (by simp) fun i hi ih => ?_
  by_cases hlt : i < l.length
  · have hlt' : i < m.length := by omega
    refine Run2.of I 1000 ?_
    simp -implicitDefEqProofs [hlt, hlt']
    constructor
    · rintro hne rfl
      exact hne rfl
    · intro he
      refine ⟨by omega, ?_⟩
      have := ih (i + 1) ⟨by omega, by rw [List.take_succ_eq_append_getElem hlt, List.take_succ_eq_append_getElem hlt', hi.2, he]⟩ (by omega)
      simpa using this
  · refine Run2.of I 1000 ?_
    simp -implicitDefEqProofs [hlt]
    have : i = l.length := by omega
    have h2 := hi.2
    rw [List.take_of_length_le (by omega), List.take_of_length_le (by omega)] at h2
    exact h2
theorem toBarS_o (l : List T) (h : Heap) (hl : l.length ≤ 1048576) : ACalls Try.prog 6 [.snap 3 (l.map T.av)] h (fun v h' => ∃ h1, OwnL T.av 3 v l h1 ∧ (∀ i ∈ dom h1, i ∉ dom h) ∧ h' = h1 ++ h) :=
  (toBarS_w l h hl).mono fun v h' ⟨id, h1, h2, h3⟩ => ⟨[(id, ⟨3, l.map T.av ++ []⟩)], h2 ▸ .sl id _ [] rfl, by simpa [dom] using h1, by simpa using h3⟩
/-! ## In the laws: with other memory about -/
theorem eqB_own {w u : AV} {l m : List T} {g h : Heap} (o : OwnL T.av 3 w l g) (hu : IsL T.av 3 u m) (hs : ∀ p ∈ g, p ∈ h) (hl : l.length ≤ 1048576) : ACalls Try.prog 8 [w, u] h (fun r h' => r = .bool (decide (l = m)) ∧ h' = h) := by
  refine ACalls.reads g hs ?_ rfl
  rw [lend_cons, lend_cons, lend_nil', lend1_cold g (hu.cold T.cold)]
  exact ACalls.wk (.cons o.lent.wk (.cons hu.wk .nil)) (eqBarS_c l m [] hl)
theorem heldB_own {w : AV} {l : List T} {g h : Heap} (o : OwnL T.av 3 w l g) (hs : ∀ p ∈ g, p ∈ h) (k : Int) (hk : 0 ≤ k ∧ k ≤ 1099511627776) (hl : l.length ≤ 1073741824) : ACalls Try.prog 10 [w, .int .i64 k] h (fun r h' => r = .int .i64 (if l = marksT k l.length then k + 3 * l.length else -1) ∧ h' = h) := by
  refine ACalls.reads g hs ?_ rfl
  rw [lend_cons, lend_cons, lend_nil', lend1_cold g (x := .int .i64 k) rfl]
  exact ACalls.wk (.cons o.lent.wk (.refl _)) (heldBarS_s l k [] hk hl)
theorem markB_drop {w : AV} {l : List T} {g h : Heap} (o : OwnL T.av 3 w l g) (keep : Heap) (hs : ∀ p ∈ g, p ∈ h) (hk : ∀ p ∈ keep, p ∈ h ∧ p.1 ∉ dom g) (nk : (dom h).Nodup → (dom keep).Nodup) (k : Int) (hk1 : 0 ≤ k ∧ k ≤ 1099511627776) (hl : l.length ≤ 1073741824) : ACalls Try.prog 9 [w, .int .i64 k] h (fun r h' => r = .int .i64 (k + 3 * l.length) ∧ h' = keep) :=
  ACalls.marks g keep o.nodup hs hk nk (S := fun h' => OwnL T.av 3 w (marksT k l.length) h') (markBarS_o o k hk1 hl) ⟨rfl, fun h' ho => (ho.own T.own).2⟩
theorem markB_keep {w : AV} {l : List T} {g h : Heap} (o : OwnL T.av 3 w l g) (keep : Heap) (hs : ∀ p ∈ g, p ∈ h) (hk : ∀ p ∈ keep, p ∈ h ∧ p.1 ∉ dom g) (nk : (dom h).Nodup → (dom keep).Nodup) (k : Int) (hk1 : 0 ≤ k ∧ k ≤ 1099511627776) (hl : l.length ≤ 1073741824) : ACalls Try.prog 9 [w, .int .i64 k] h (fun r h' => ∃ g', r = .int .i64 (k + 3 * l.length) ∧ OwnL T.av 3 w (marksT k l.length) g' ∧ h' = g' ++ keep) :=
  (ACalls.frame g [] keep o.nodup hs (by simp) hk nk (S := fun v h' => v = .int .i64 (k + 3 * l.length) ∧ OwnL T.av 3 w (marksT k l.length) h') (by simpa [lend] using markBarS_o o k hk1 hl) (fun v h' e => by obtain ⟨rfl, e⟩ := e; exact ⟨rfl, (e.own T.own).2⟩)).mono fun v h' ⟨g', ⟨e1, e2⟩, _, e3⟩ => ⟨g', e1, e2, e3⟩
def wfB (l : List T) : Prop := (∀ t ∈ l, t.ok) ∧ l.length ≤ 9223372036854775807
def tyB : Ty := .slice tyT
theorem Bars_of_shape {x : AV} (h : shV tyB x) : ∃ l : List T, x = .snap 3 (l.map T.av) ∧ wfB l := by
  obtain ⟨h1, xs, e1, hlen, r3⟩ := h
  have hm : maxLen ≤ 9223372036854775807 := by decide
  obtain ⟨l, rfl, hl⟩ := Ts_of_shape r3
  cases x <;> simp [isAgg, tyB, Ty.isS, cellsOf] at h1 e1
  rw [e1.1, e1.2]
  exact ⟨l, rfl, hl, by simp only [List.length_map] at hlen; exact Nat.le_trans hlen hm⟩
/-- The bars that a slice holds which nobody writes. -/
def barsOf : AV → List T
  | .snap _ l => l.map fun | .agg [.int _ a, .int _ b, .int _ c] => ⟨a, b, c⟩ | _ => ⟨0, 0, 0⟩
  | _ => []
@[simp] theorem barsOf_snap (s : Nat) (l : List T) : barsOf (.snap s (l.map T.av)) = l := by
  simp only [barsOf, List.map_map]
  exact List.map_id'' (fun n => rfl) l
@[simp] theorem barsOf_nil : barsOf .nilsl = [] := rfl
@[simp] theorem barsOf_emp : barsOf .emp = [] := rfl
@[simp] theorem barsOf_s0 (s : Nat) : barsOf (.snap s []) = [] := rfl
def isBars (v : AV) : Prop := v = .nilsl ∨ v = .emp ∨ ∃ l : List T, v = .snap 3 (l.map T.av)
@[simp] theorem isBars_snap (l : List T) : isBars (.snap 3 (l.map T.av)) := .inr (.inr ⟨l, rfl⟩)
@[simp] theorem isBars_nil : isBars .nilsl := .inl rfl
@[simp] theorem isBars_emp : isBars .emp := .inr (.inl rfl)
@[simp] theorem isBars_s0 : isBars (.snap 3 []) := .inr (.inr ⟨[], rfl⟩)
theorem Wk.bars {v : AV} (h : isBars v) : Wk v (.snap 3 ((barsOf v).map T.av)) := by
  rcases h with rfl | rfl | ⟨l, rfl⟩
  · exact Wk.nil 3
  · exact Wk.emp 3
  · rw [barsOf_snap]; exact Wk.refl _
theorem eqBarS_v (u v : AV) (h : Heap) (hu : isBars u) (hv : isBars v) (hl : (barsOf u).length ≤ 1048576) : ACalls Try.prog 8 [u, v] h (fun r h' => r = .bool (decide (barsOf u = barsOf v)) ∧ h' = h) :=
  (eqBarS_c _ _ h hl).wk (.cons (Wk.bars hu) (.cons (Wk.bars hv) .nil))
noncomputable def o_eqBarS : List AV → Option (Prop × AV) := tab (fun (x : AV × AV) => match x with | (u, v) => [u, v]) (fun x => match x with | (u, v) => ((isBars u ∧ isBars v) ∧ (barsOf u).length ≤ 1048576)) (fun x => match x with | (u, v) => .bool (decide (barsOf u = barsOf v)))
@[simp] theorem o_eqBarS_e (u : AV) (v : AV) : o_eqBarS [u, v] = some (((isBars u ∧ isBars v) ∧ (barsOf u).length ≤ 1048576), .bool (decide (barsOf u = barsOf v))) := tab_at (enc := fun (x : AV × AV) => match x with | (u, v) => [u, v]) (fun x y h => by
  obtain ⟨u1, v1⟩ := x; obtain ⟨u2, v2⟩ := y; simp at h; simp [h] <;> omega) _ _ (u, v)
theorem o_eqBarS_k : Knows Try.prog 8 o_eqBarS := tab_knows fun x hx h => by
  obtain ⟨u, v⟩ := x; exact eqBarS_v u v h hx.1.1 hx.1.2 hx.2
noncomputable def o_toBarS : List AV → Option (Prop × AV) := tab (fun (x : List T) => match x with | l => [.snap 3 (l.map T.av)]) (fun x => match x with | l => l.length ≤ 1048576) (fun x => match x with | l => .snap 3 (l.map T.av))
@[simp] theorem o_toBarS_e (l : List T) : o_toBarS [.snap 3 (l.map T.av)] = some (l.length ≤ 1048576, .snap 3 (l.map T.av)) := tab_at (enc := fun (x : List T) => match x with | l => [.snap 3 (l.map T.av)]) (fun x y h => by
  simp at h; simp [h] <;> omega) _ _ l
theorem o_toBarS_k : Knows Try.prog 6 o_toBarS := tab_knows fun x hx h => by
  exact toBarS_c x h hx
noncomputable def o_szBarS : List AV → Option (Prop × AV) := tab (fun (x : List T × Int) => match x with | (l, k) => [.snap 3 (l.map T.av), .int .i64 k]) (fun x => match x with | (l, k) => ((0 ≤ k ∧ k ≤ 1048576) ∧ l.length ≤ 9223372036854775807)) (fun x => match x with | (l, k) => .int .i64 (if k < l.length then -1 else k - l.length))
@[simp] theorem o_szBarS_e (l : List T) (k : Int) : o_szBarS [.snap 3 (l.map T.av), .int .i64 k] = some (((0 ≤ k ∧ k ≤ 1048576) ∧ l.length ≤ 9223372036854775807), .int .i64 (if k < l.length then -1 else k - l.length)) := tab_at (enc := fun (x : List T × Int) => match x with | (l, k) => [.snap 3 (l.map T.av), .int .i64 k]) (fun x y h => by
  obtain ⟨l1, k1⟩ := x; obtain ⟨l2, k2⟩ := y; simp at h; simp [h] <;> omega) _ _ (l, k)
theorem o_szBarS_k : Knows Try.prog 4 o_szBarS := tab_knows fun x hx h => by
  obtain ⟨l, k⟩ := x; exact szBarS_c l k h hx.1 hx.2
noncomputable def orcA : List (Nat × (List AV → Option (Prop × AV))) := (6, o_toBarS) :: (4, o_szBarS) :: (8, o_eqBarS) :: (18, o_eqBar) :: []
theorem orcA_p : Pure Try.prog (lk orcA) := (lk_pure o_toBarS_k (lk_pure o_szBarS_k (lk_pure o_eqBarS_k (lk_pure o_eqBar_k lk_pure0))))
@[simp] theorem orcA_l (b : Bool) (g : FuncId) (l : List AV) : lk orcA b g l = if g = 6 then o_toBarS l else if g = 4 then o_szBarS l else if g = 8 then o_eqBarS l else if g = 18 then o_eqBar l else none := nr rfl
end Go.AG
