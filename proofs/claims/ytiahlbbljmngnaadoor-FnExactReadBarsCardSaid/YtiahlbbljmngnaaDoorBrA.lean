/- Bars as plain data, and what the set's own helpers of bars do: they copy, compare and count. No statement is made here. -/
import Derived.Test.YtiahlbbljmngnaaDoorRows
import Derived.Test.YtiahlbbljmngnaaDoorAGInts
namespace Go.AG.B
open Go.Proofs Go.Proofs.YtiahlbbljmngnaaDoor
set_option linter.unusedSimpArgs false
set_option linter.unusedVariables false
set_option maxRecDepth 4000
theorem Int_of_shape {x : AV} (h : shV (.int .i64) x) : ∃ n : Int, x = .int .i64 n ∧ in64 n := by
  obtain ⟨h1, n, e, r⟩ := h
  cases x <;> simp [isAgg, Ty.isS, cellsOf] at h1 e
  exact ⟨n, by rw [e.1, e.2], r⟩
structure T where
  f : Int
  t : Int
  s : Int
  deriving DecidableEq, Inhabited
@[simp] def T.av (x : T) : AV := .agg [.int .i64 x.f, .int .i64 x.t, .int .i64 x.s]
def T.ok (x : T) : Prop := in64 x.f ∧ in64 x.t ∧ in64 x.s
theorem T.ext' {x y : T} (h1 : x.f = y.f) (h2 : x.t = y.t) (h3 : x.s = y.s) : x = y := by
  cases x; cases y; simp at h1 h2 h3; simp [h1, h2, h3]
theorem T.av_inj {x y : T} (h : x.av = y.av) : x = y := by
  simp at h; exact T.ext' h.1 h.2.1 h.2.2
@[simp] theorem Ts_inj (l m : List T) : (l.map T.av = m.map T.av) ↔ l = m := ⟨fun h => List.map_inj_right (fun _ _ => T.av_inj) |>.1 h, fun h => by rw [h]⟩
@[simp] theorem T_eta (x : T) : (⟨x.f, x.t, x.s⟩ : T) = x := rfl
def tz : AV := .agg [.int .i64 0, .int .i64 0, .int .i64 0]
def tyT : Ty := .struct (.cons (.int .i64) (.cons (.int .i64) (.cons (.int .i64) .nil)))
theorem T_of_shape {x : AV} (h : isAgg x = tyT.isS ∧ shC tyT (cellsOf x)) : ∃ t : T, x = t.av ∧ t.ok := by
  obtain ⟨h1, a1, b1, e1, ⟨n1, rfl, r1⟩, a2, b2, rfl, ⟨n2, rfl, r2⟩, a3, b3, rfl, ⟨n3, rfl, r3⟩, h3⟩ := h
  have h3' : b3 = [] := h3
  subst h3'
  cases x <;> simp [isAgg, tyT, Ty.isS] at h1
  rename_i l
  refine ⟨⟨n1, n2, n3⟩, ?_, r1, r2, r3⟩
  simp only [cellsOf] at e1
  rw [e1]; rfl
theorem Ts_of_shape : ∀ {xs : List AV}, (∀ x ∈ xs, isAgg x = tyT.isS ∧ shC tyT (cellsOf x)) → ∃ ts : List T, xs = ts.map T.av ∧ ∀ t ∈ ts, t.ok
  | [], _ => ⟨[], rfl, by simp⟩
  | x :: xs, h => by
    obtain ⟨t, rfl, ht⟩ := T_of_shape (h x (List.mem_cons_self ..))
    obtain ⟨ts, rfl, hts⟩ := Ts_of_shape (xs := xs) fun y hy => h y (List.mem_cons_of_mem _ hy)
    exact ⟨t :: ts, rfl, by simpa using ⟨ht, hts⟩⟩
@[simp] theorem T.cold (x : T) : Go.AG.cold x.av = true := rfl
@[simp] theorem T.own (x : T) : Go.AG.own x.av = true := rfl
def marksT (k : Int) (n : Nat) : List T := (List.range n).map fun i => ⟨k + 3 * (i : Nat), k + 3 * (i : Nat) + 1, k + 3 * (i : Nat) + 1 + 1⟩
@[simp] theorem marksT_length (k : Int) (n : Nat) : (marksT k n).length = n := by simp [marksT]
theorem marksT_succ (k : Int) (n : Nat) : marksT k (n + 1) = marksT k n ++ [⟨k + 3 * n, k + 3 * n + 1, k + 3 * n + 1 + 1⟩] := by simp [marksT, List.range_succ]
theorem marksT_get (k : Int) (n i : Nat) (h : i < (marksT k n).length) : (marksT k n)[i] = ⟨k + 3 * i, k + 3 * i + 1, k + 3 * i + 1 + 1⟩ := by simp [marksT]
theorem markT_step (l : List T) (ex : List AV) (k : Int) (i : Nat) (hi : i < l.length) : ((marksT k i).map T.av ++ (l.drop i).map T.av ++ ex).set i (T.av ⟨k + 3 * i, k + 3 * i + 1, k + 3 * i + 1 + 1⟩) = (marksT k (i + 1)).map T.av ++ (l.drop (i + 1)).map T.av ++ ex := by
  rw [List.drop_eq_getElem_cons hi, marksT_succ]
  simp only [List.map_cons, List.map_append, List.map_nil, List.append_assoc, List.cons_append, List.nil_append]
  rw [List.set_append_right _ _ (by simp)]
  simp
abbrev k8_o0 : List AJ := [.o ⟨(some 4), none, false, .mv (.c (.int .i64 0)), (some [0, 1])⟩]
abbrev k8_o1 : List AJ := [.o ⟨(some 5), none, false, .mv (.c (.int .i64 0)), (some [0, 1, 5])⟩]
abbrev k8_o2 : List AJ := [.o ⟨(some 6), none, false, .mv (.t 5), none⟩, .o ⟨(some 7), none, false, .mv (.t 0), none⟩, .o ⟨(some 8), none, false, .len (.t 7), none⟩, .o ⟨(some 9), none, false, .bin .lss (.t 6) (.t 8), (some [0, 1, 5, 9])⟩]
def k8_3 : ACode := .cond (.t 9) .skip (.exit 0)
def k8_4 : ACode := .seq (.region k8_o2) k8_3
abbrev k8_o3 : List AJ := [.o ⟨(some 12), none, false, .mv (.t 0), none⟩, .o ⟨(some 13), none, false, .mv (.t 5), none⟩, .o ⟨(some 14), none, false, .mv (.t 1), none⟩, .o ⟨(some 15), none, false, .idxA 3 (.t 12) (.t 13), none⟩, .o ⟨(some 16), none, false, .fieldA 0 (.t 15), none⟩, .o ⟨none, none, false, .store 1 (.t 16) (.t 14), (some [0, 1, 5])⟩]
abbrev k8_o4 : List AJ := [.o ⟨(some 17), none, false, .mv (.t 1), none⟩, .o ⟨(some 18), none, true, .bin .add (.t 17) (.c (.int .i64 1)), none⟩, .o ⟨(some 1), none, false, .mv (.t 18), (some [0, 1, 5])⟩]
abbrev k8_o5 : List AJ := [.o ⟨(some 19), none, false, .mv (.t 0), none⟩, .o ⟨(some 20), none, false, .mv (.t 5), none⟩, .o ⟨(some 21), none, false, .mv (.t 1), none⟩, .o ⟨(some 22), none, false, .idxA 3 (.t 19) (.t 20), none⟩, .o ⟨(some 23), none, false, .fieldA 1 (.t 22), none⟩, .o ⟨none, none, false, .store 1 (.t 23) (.t 21), (some [0, 1, 5])⟩]
abbrev k8_o6 : List AJ := [.o ⟨(some 24), none, false, .mv (.t 1), none⟩, .o ⟨(some 25), none, true, .bin .add (.t 24) (.c (.int .i64 1)), none⟩, .o ⟨(some 1), none, false, .mv (.t 25), (some [0, 1, 5])⟩]
abbrev k8_o7 : List AJ := [.o ⟨(some 26), none, false, .mv (.t 0), none⟩, .o ⟨(some 27), none, false, .mv (.t 5), none⟩, .o ⟨(some 28), none, false, .mv (.t 1), none⟩, .o ⟨(some 29), none, false, .idxA 3 (.t 26) (.t 27), none⟩, .o ⟨(some 30), none, false, .fieldA 2 (.t 29), none⟩, .o ⟨none, none, false, .store 1 (.t 30) (.t 28), (some [0, 1, 5])⟩]
abbrev k8_o8 : List AJ := [.o ⟨(some 31), none, false, .mv (.t 1), none⟩, .o ⟨(some 32), none, true, .bin .add (.t 31) (.c (.int .i64 1)), none⟩, .o ⟨(some 1), none, false, .mv (.t 32), (some [0, 1, 5])⟩]
def k8_10 : ACode := .region k8_o8
def k8_11 : ACode := .seq (.region k8_o7) k8_10
def k8_12 : ACode := .seq (.region k8_o6) k8_11
def k8_13 : ACode := .seq (.region k8_o5) k8_12
def k8_14 : ACode := .seq (.region k8_o4) k8_13
def k8_15 : ACode := .seq (.region k8_o3) k8_14
abbrev k8_o9 : List AJ := [.o ⟨(some 10), none, false, .mv (.t 5), none⟩, .o ⟨(some 11), none, true, .bin .add (.t 10) (.c (.int .i64 1)), none⟩, .o ⟨(some 5), none, false, .mv (.t 11), (some [0, 1, 5])⟩]
def k8_17 : ACode := .region k8_o9
def k8_18 : ACode := .seq (.block 1 k8_15) k8_17
def k8_19 : ACode := .seq k8_4 k8_18
def k8_20 : ACode := .loop k8_19
def k8_21 : ACode := .block 0 k8_20
def k8_22 : ACode := .seq (.region k8_o1) k8_21
abbrev k8_o10 : List AJ := [.o ⟨(some 33), none, false, .mv (.t 1), none⟩, .o ⟨(some 4), none, false, .mv (.t 33), (some [4])⟩]
def k8_24 : ACode := .seq (.region k8_o10) .ret
def k8_25 : ACode := .seq k8_22 k8_24
def k8_26 : ACode := .seq (.region k8_o0) k8_25
@[simp, simp ↓] theorem k8_3r : rC k8_3 (.t 9) .skip (.exit 0) := zC rfl
@[simp, simp ↓] theorem k8_4r : sR k8_4 k8_o2 k8_3 := yR rfl
@[simp, simp ↓] theorem k8_10r : rR k8_10 k8_o8 := zR rfl
@[simp, simp ↓] theorem k8_11r : sR k8_11 k8_o7 k8_10 := yR rfl
@[simp, simp ↓] theorem k8_12r : sR k8_12 k8_o6 k8_11 := yR rfl
@[simp, simp ↓] theorem k8_13r : sR k8_13 k8_o5 k8_12 := yR rfl
@[simp, simp ↓] theorem k8_14r : sR k8_14 k8_o4 k8_13 := yR rfl
@[simp, simp ↓] theorem k8_15r : sR k8_15 k8_o3 k8_14 := yR rfl
@[simp, simp ↓] theorem k8_17r : rR k8_17 k8_o9 := zR rfl
@[simp, simp ↓] theorem k8_18r : sB k8_18 1 k8_15 k8_17 := yB rfl
@[simp, simp ↓] theorem k8_19r : rS k8_19 k8_4 k8_18 := zS rfl
@[simp, simp ↓] theorem k8_20r : rL k8_20 k8_19 := zL rfl
@[simp, simp ↓] theorem k8_21r : rB k8_21 0 k8_20 := zB rfl
@[simp, simp ↓] theorem k8_22r : sR k8_22 k8_o1 k8_21 := yR rfl
@[simp, simp ↓] theorem k8_24r : sR k8_24 k8_o10 .ret := yR rfl
@[simp, simp ↓] theorem k8_25r : rS k8_25 k8_22 k8_24 := zS rfl
@[simp, simp ↓] theorem k8_26r : sR k8_26 k8_o0 k8_25 := yR rfl
noncomputable abbrev k8_C : Orc → Cx := mkC Tryd.prog [] 8 34 [.tmp 4]
theorem k8_of0 : OfP0 Tryd.prog Tryd.f8 8 34 k8_C k8_26 := @ofP0 _ _ _ _ _ _ _ _ Tryd.func8 (by decide +kernel) rfl (by kernel_rfl) rfl (by kernel_rfl)
theorem markBarS_s (id : Nat) (l : List T) (ex : List AV) (cap : Option Nat) (k : Int) (hk : 0 ≤ k ∧ k ≤ 1099511627776) (hl : l.length ≤ 1073741824) : ACalls Tryd.prog 8 [.sl id 3 0 l.length cap, .int .i64 k] [(id, ⟨3, l.map T.av ++ ex⟩)] (fun v h' => v = .int .i64 (k + 3 * l.length) ∧ h' = [(id, ⟨3, (marksT k l.length).map T.av ++ ex⟩)]) := by
  refine k8_of0 rfl noPure fun I => ?_
  refine Run2.of I 1000 ?_
  simp -implicitDefEqProofs
  obtain ⟨f, hf0, hfn, hlen, hset, hget⟩ : ∃ f : Nat → List AV, l.map T.av ++ ex = f 0 ∧ (marksT k l.length).map T.av ++ ex = f l.length ∧ (∀ i, i ≤ l.length → (f i).length = l.length + ex.length) ∧ (∀ i, i < l.length → (f i).set i (T.av ⟨k + 3 * i, k + 3 * i + 1, k + 3 * i + 1 + 1⟩) = f (i + 1)) ∧ ∀ i, (hi : i < l.length) → (f i)[i]? = some l[i].av :=
    ⟨fun i => (marksT k i).map T.av ++ (l.drop i).map T.av ++ ex, by simp [marksT], by simp, fun i hi => by simp; omega, fun i hi => markT_step l ex k i hi, fun i hi => by
      show ((marksT k i).map T.av ++ (l.drop i).map T.av ++ ex)[i]? = _
      rw [List.append_assoc, List.getElem?_append_right (by simp)]
      rw [show i - ((marksT k i).map T.av).length = 0 by simp, List.drop_eq_getElem_cons hi]; rfl⟩
  have hz : l.map (fun x : T => AV.agg [.int .i64 x.f, .int .i64 x.t, .int .i64 x.s]) = l.map T.av := rfl
  rw [hf0, hfn]
  refine Run2.loopE (fun i => [(0, .sl id 3 0 l.length cap), (1, .int .i64 (k + 3 * (i : Nat))), (5, .int .i64 (i : Nat))]) (fun i => [(id, ⟨3, f i⟩)]) (fun i => l.length - i) (fun i => i ≤ l.length) 0 (by simp) rfl (Nat.zero_le _) fun i hi ih => ?_
  by_cases hlt : i < l.length
  · have go := ih (i + 1) (by omega) (by omega)
    have hl2 := hlen i hi
    have hg := hget i hlt
    have hlf : i < (f i).length := by omega
    have hs := hset i hlt
    clear ih
    refine Run2.of I 1000 ?_
    have hsg : ∀ A, ((f i).set i A)[i]? = some A := fun A => List.getElem?_set_self hlf
    simp -implicitDefEqProofs [hlt, hl2, hg, hsg]
    simp at hs
    rw [hs]
    refine ⟨by omega, by omega, by omega, by omega, ?_⟩
    have e : k + 3 * ((i + 1 : Nat) : Int) = k + 3 * i + 1 + 1 + 1 := by omega
    rw [e] at go
    simpa using go
  · obtain rfl : i = l.length := by omega
    refine Run2.of I 1000 ?_
    simp -implicitDefEqProofs
theorem markBarS_o {v : AV} {l : List T} {hs : Heap} (ho : OwnL T.av 3 v l hs) (k : Int) (hk : 0 ≤ k ∧ k ≤ 1099511627776) (hl : l.length ≤ 1073741824) : ACalls Tryd.prog 8 [v, .int .i64 k] hs (fun r h' => r = .int .i64 (k + 3 * l.length) ∧ OwnL T.av 3 v (marksT k l.length) h') := by
  have nil : ∀ u, (u = AV.nilsl ∨ u = .emp) → ACalls Tryd.prog 8 [u, .int .i64 k] [] (fun r h' => r = .int .i64 (k + 3 * ([] : List T).length) ∧ OwnL T.av 3 u (marksT k 0) h') := by
    rintro u (rfl | rfl)
    all_goals
      refine k8_of0 rfl noPure fun I => ?_
      refine Run2.of I 1000 ?_
      simp -implicitDefEqProofs
      refine Run2.loopE (fun (_ : Unit) => [(0, _), (1, .int .i64 k), (5, .int .i64 0)]) (fun _ => []) (fun _ => 0) (fun _ => True) () (by rfl) rfl trivial fun _ _ _ => ?_
      refine Run2.of I 1000 ?_
      simp -implicitDefEqProofs
      constructor
  cases ho with
  | nil => exact nil _ (.inl rfl)
  | emp => exact nil _ (.inr rfl)
  | sl id cap ex hex =>
    refine (markBarS_s id l ex cap k hk hl).mono ?_
    rintro r h' ⟨rfl, rfl⟩
    refine ⟨rfl, ?_⟩
    have := OwnL.sl (enc := T.av) (sz := 3) (l := marksT k l.length) id cap ex hex
    rwa [marksT_length] at this
abbrev k9_o0 : List AJ := [.o ⟨(some 4), none, false, .mv (.c (.int .i64 0)), (some [0, 1])⟩]
abbrev k9_o1 : List AJ := [.o ⟨(some 5), none, false, .mv (.c (.int .i64 0)), (some [0, 1, 5])⟩]
abbrev k9_o2 : List AJ := [.o ⟨(some 6), none, false, .mv (.t 5), none⟩, .o ⟨(some 7), none, false, .mv (.t 0), none⟩, .o ⟨(some 8), none, false, .len (.t 7), none⟩, .o ⟨(some 9), none, false, .bin .lss (.t 6) (.t 8), (some [0, 1, 5, 9])⟩]
def k9_3 : ACode := .cond (.t 9) .skip (.exit 0)
def k9_4 : ACode := .seq (.region k9_o2) k9_3
abbrev k9_o3 : List AJ := [.o ⟨(some 12), none, false, .mv (.t 0), none⟩, .o ⟨(some 13), none, false, .mv (.t 5), none⟩, .o ⟨(some 14), none, false, .idxA 3 (.t 12) (.t 13), none⟩, .o ⟨(some 15), none, false, .fieldA 0 (.t 14), none⟩, .o ⟨(some 16), none, false, .load 1 false (.t 15), none⟩, .o ⟨(some 17), none, false, .mv (.t 1), none⟩, .o ⟨(some 18), none, false, .bin .neq (.t 16) (.t 17), (some [0, 1, 5, 18])⟩]
abbrev k9_o4 : List AJ := [.o ⟨(some 4), none, false, .mv (.c (.int .i64 (-1))), (some [4])⟩]
def k9_7 : ACode := .seq (.region k9_o4) .ret
def k9_8 : ACode := .cond (.t 18) k9_7 .skip
def k9_9 : ACode := .seq (.region k9_o3) k9_8
abbrev k9_o5 : List AJ := [.o ⟨(some 19), none, false, .mv (.t 1), none⟩, .o ⟨(some 20), none, true, .bin .add (.t 19) (.c (.int .i64 1)), none⟩, .o ⟨(some 1), none, false, .mv (.t 20), (some [0, 1, 5])⟩]
abbrev k9_o6 : List AJ := [.o ⟨(some 21), none, false, .mv (.t 0), none⟩, .o ⟨(some 22), none, false, .mv (.t 5), none⟩, .o ⟨(some 23), none, false, .idxA 3 (.t 21) (.t 22), none⟩, .o ⟨(some 24), none, false, .fieldA 1 (.t 23), none⟩, .o ⟨(some 25), none, false, .load 1 false (.t 24), none⟩, .o ⟨(some 26), none, false, .mv (.t 1), none⟩, .o ⟨(some 27), none, false, .bin .neq (.t 25) (.t 26), (some [0, 1, 5, 27])⟩]
abbrev k9_o7 : List AJ := [.o ⟨(some 4), none, false, .mv (.c (.int .i64 (-1))), (some [4])⟩]
def k9_13 : ACode := .seq (.region k9_o7) .ret
def k9_14 : ACode := .cond (.t 27) k9_13 .skip
def k9_15 : ACode := .seq (.region k9_o6) k9_14
abbrev k9_o8 : List AJ := [.o ⟨(some 28), none, false, .mv (.t 1), none⟩, .o ⟨(some 29), none, true, .bin .add (.t 28) (.c (.int .i64 1)), none⟩, .o ⟨(some 1), none, false, .mv (.t 29), (some [0, 1, 5])⟩]
abbrev k9_o9 : List AJ := [.o ⟨(some 30), none, false, .mv (.t 0), none⟩, .o ⟨(some 31), none, false, .mv (.t 5), none⟩, .o ⟨(some 32), none, false, .idxA 3 (.t 30) (.t 31), none⟩, .o ⟨(some 33), none, false, .fieldA 2 (.t 32), none⟩, .o ⟨(some 34), none, false, .load 1 false (.t 33), none⟩, .o ⟨(some 35), none, false, .mv (.t 1), none⟩, .o ⟨(some 36), none, false, .bin .neq (.t 34) (.t 35), (some [0, 1, 5, 36])⟩]
abbrev k9_o10 : List AJ := [.o ⟨(some 4), none, false, .mv (.c (.int .i64 (-1))), (some [4])⟩]
def k9_19 : ACode := .seq (.region k9_o10) .ret
def k9_20 : ACode := .cond (.t 36) k9_19 .skip
def k9_21 : ACode := .seq (.region k9_o9) k9_20
abbrev k9_o11 : List AJ := [.o ⟨(some 37), none, false, .mv (.t 1), none⟩, .o ⟨(some 38), none, true, .bin .add (.t 37) (.c (.int .i64 1)), none⟩, .o ⟨(some 1), none, false, .mv (.t 38), (some [0, 1, 5])⟩]
def k9_22 : ACode := .region k9_o11
def k9_23 : ACode := .seq k9_21 k9_22
def k9_24 : ACode := .seq (.region k9_o8) k9_23
def k9_25 : ACode := .seq k9_15 k9_24
def k9_26 : ACode := .seq (.region k9_o5) k9_25
def k9_27 : ACode := .seq k9_9 k9_26
abbrev k9_o12 : List AJ := [.o ⟨(some 10), none, false, .mv (.t 5), none⟩, .o ⟨(some 11), none, true, .bin .add (.t 10) (.c (.int .i64 1)), none⟩, .o ⟨(some 5), none, false, .mv (.t 11), (some [0, 1, 5])⟩]
def k9_29 : ACode := .region k9_o12
def k9_30 : ACode := .seq (.block 1 k9_27) k9_29
def k9_31 : ACode := .seq k9_4 k9_30
def k9_32 : ACode := .loop k9_31
def k9_33 : ACode := .block 0 k9_32
def k9_34 : ACode := .seq (.region k9_o1) k9_33
abbrev k9_o13 : List AJ := [.o ⟨(some 39), none, false, .mv (.t 1), none⟩, .o ⟨(some 4), none, false, .mv (.t 39), (some [4])⟩]
def k9_36 : ACode := .seq (.region k9_o13) .ret
def k9_37 : ACode := .seq k9_34 k9_36
def k9_38 : ACode := .seq (.region k9_o0) k9_37
@[simp, simp ↓] theorem k9_3r : rC k9_3 (.t 9) .skip (.exit 0) := zC rfl
@[simp, simp ↓] theorem k9_4r : sR k9_4 k9_o2 k9_3 := yR rfl
@[simp, simp ↓] theorem k9_7r : sR k9_7 k9_o4 .ret := yR rfl
@[simp, simp ↓] theorem k9_8r : rC k9_8 (.t 18) k9_7 .skip := zC rfl
@[simp, simp ↓] theorem k9_9r : sR k9_9 k9_o3 k9_8 := yR rfl
@[simp, simp ↓] theorem k9_13r : sR k9_13 k9_o7 .ret := yR rfl
@[simp, simp ↓] theorem k9_14r : rC k9_14 (.t 27) k9_13 .skip := zC rfl
@[simp, simp ↓] theorem k9_15r : sR k9_15 k9_o6 k9_14 := yR rfl
@[simp, simp ↓] theorem k9_19r : sR k9_19 k9_o10 .ret := yR rfl
@[simp, simp ↓] theorem k9_20r : rC k9_20 (.t 36) k9_19 .skip := zC rfl
@[simp, simp ↓] theorem k9_21r : sR k9_21 k9_o9 k9_20 := yR rfl
@[simp, simp ↓] theorem k9_22r : rR k9_22 k9_o11 := zR rfl
@[simp, simp ↓] theorem k9_23r : rS k9_23 k9_21 k9_22 := zS rfl
@[simp, simp ↓] theorem k9_24r : sR k9_24 k9_o8 k9_23 := yR rfl
@[simp, simp ↓] theorem k9_25r : rS k9_25 k9_15 k9_24 := zS rfl
@[simp, simp ↓] theorem k9_26r : sR k9_26 k9_o5 k9_25 := yR rfl
@[simp, simp ↓] theorem k9_27r : rS k9_27 k9_9 k9_26 := zS rfl
@[simp, simp ↓] theorem k9_29r : rR k9_29 k9_o12 := zR rfl
@[simp, simp ↓] theorem k9_30r : sB k9_30 1 k9_27 k9_29 := yB rfl
@[simp, simp ↓] theorem k9_31r : rS k9_31 k9_4 k9_30 := zS rfl
@[simp, simp ↓] theorem k9_32r : rL k9_32 k9_31 := zL rfl
@[simp, simp ↓] theorem k9_33r : rB k9_33 0 k9_32 := zB rfl
@[simp, simp ↓] theorem k9_34r : sR k9_34 k9_o1 k9_33 := yR rfl
@[simp, simp ↓] theorem k9_36r : sR k9_36 k9_o13 .ret := yR rfl
@[simp, simp ↓] theorem k9_37r : rS k9_37 k9_34 k9_36 := zS rfl
@[simp, simp ↓] theorem k9_38r : sR k9_38 k9_o0 k9_37 := yR rfl
noncomputable abbrev k9_C : Orc → Cx := mkC Tryd.prog [] 9 40 [.tmp 4]
theorem k9_of0 : OfP0 Tryd.prog Tryd.f9 9 40 k9_C k9_38 := @ofP0 _ _ _ _ _ _ _ _ Tryd.func9 (by decide +kernel) rfl (by kernel_rfl) rfl (by kernel_rfl)
theorem heldBarS_s (l : List T) (k : Int) (h : Heap) (hk : 0 ≤ k ∧ k ≤ 1099511627776) (hl : l.length ≤ 1073741824) : ACalls Tryd.prog 9 [.snap 3 (l.map T.av), .int .i64 k] h (fun v h' => v = .int .i64 (if l = marksT k l.length then k + 3 * l.length else -1) ∧ h' = h) := by
  refine k9_of0 rfl noPure fun I => ?_
  refine Run2.of I 1000 ?_
  simp -implicitDefEqProofs
  refine Run2.loopE (fun i => [(0, .snap 3 (l.map T.av)), (1, .int .i64 (k + 3 * (i : Nat))), (5, .int .i64 (i : Nat))]) (fun i => h) (fun i => l.length - i) (fun i => i ≤ l.length ∧ l.take i = marksT k i) 0 (by simp) rfl (by simp [marksT]) fun i hi ih => ?_
  by_cases hlt : i < l.length
  · have hbad : ¬ l[i] = ⟨k + 3 * i, k + 3 * i + 1, k + 3 * i + 1 + 1⟩ → ¬ l = marksT k l.length := fun h1 h2 => h1 (by
      have : l[i] = (marksT k l.length)[i]'(by simpa using hlt) := by congr 1
      rw [this, marksT_get])
    have go := fun (h1 : l[i] = ⟨k + 3 * i, k + 3 * i + 1, k + 3 * i + 1 + 1⟩) => ih (i + 1) ⟨by omega, by rw [List.take_succ_eq_append_getElem hlt, marksT_succ, hi.2, h1]⟩ (by omega)
    have e : k + 3 * ((i + 1 : Nat) : Int) = k + 3 * i + 1 + 1 + 1 := by omega
    rw [e] at go
    clear ih
    refine Run2.of I 1000 ?_
    simp -implicitDefEqProofs [hlt]
    repeat' (first | refine And.intro ?_ ?_ | intro _)
    all_goals first | omega | skip
    · exact absurd ‹l = _› (hbad fun h => by have h1 := congrArg T.f h; have h2 := congrArg T.t h; have h3 := congrArg T.s h; simp only at h1 h2 h3; omega)
    · exact absurd ‹l = _› (hbad fun h => by have h1 := congrArg T.f h; have h2 := congrArg T.t h; have h3 := congrArg T.s h; simp only at h1 h2 h3; omega)
    · exact absurd ‹l = _› (hbad fun h => by have h1 := congrArg T.f h; have h2 := congrArg T.t h; have h3 := congrArg T.s h; simp only at h1 h2 h3; omega)
    · simpa using go (T.ext' ‹_› ‹_› ‹_›)
  · obtain rfl : i = l.length := by omega
    have h2 := hi.2
    rw [List.take_length] at h2
    refine Run2.of I 1000 ?_
    simp -implicitDefEqProofs
    exact fun h => absurd h2 h
theorem heldBarS_c {u : AV} {l : List T} (hu : IsL T.av 3 u l) (k : Int) (h : Heap) (hk : 0 ≤ k ∧ k ≤ 1099511627776) (hl : l.length ≤ 1073741824) : ACalls Tryd.prog 9 [u, .int .i64 k] h (fun v h' => v = .int .i64 (if l = marksT k l.length then k + 3 * l.length else -1) ∧ h' = h) :=
  (heldBarS_s _ k h hk hl).wk (.cons hu.wk (.refl _))
abbrev k23_o0 : List AJ := [.o ⟨(some 2), none, false, .box false 3 (.t 0), none⟩, .o ⟨(some 3), none, false, .box false 3 (.t 1), none⟩, .o ⟨(some 4), none, false, .mv (.c (.bool false)), (some [2, 3])⟩]
abbrev k23_o1 : List AJ := [.o ⟨(some 5), none, false, .fieldA 0 (.t 2), none⟩, .o ⟨(some 6), none, false, .load 1 false (.t 5), none⟩, .o ⟨(some 7), none, false, .fieldA 0 (.t 3), none⟩, .o ⟨(some 8), none, false, .load 1 false (.t 7), none⟩, .o ⟨(some 9), none, false, .bin .neq (.t 6) (.t 8), (some [2, 3, 9])⟩]
abbrev k23_o2 : List AJ := [.o ⟨(some 4), none, false, .mv (.c (.bool false)), (some [4])⟩]
def k23_3 : ACode := .seq (.region k23_o2) .ret
def k23_4 : ACode := .cond (.t 9) k23_3 .skip
def k23_5 : ACode := .seq (.region k23_o1) k23_4
abbrev k23_o3 : List AJ := [.o ⟨(some 10), none, false, .fieldA 1 (.t 2), none⟩, .o ⟨(some 11), none, false, .load 1 false (.t 10), none⟩, .o ⟨(some 12), none, false, .fieldA 1 (.t 3), none⟩, .o ⟨(some 13), none, false, .load 1 false (.t 12), none⟩, .o ⟨(some 14), none, false, .bin .neq (.t 11) (.t 13), (some [2, 3, 14])⟩]
abbrev k23_o4 : List AJ := [.o ⟨(some 4), none, false, .mv (.c (.bool false)), (some [4])⟩]
def k23_8 : ACode := .seq (.region k23_o4) .ret
def k23_9 : ACode := .cond (.t 14) k23_8 .skip
def k23_10 : ACode := .seq (.region k23_o3) k23_9
abbrev k23_o5 : List AJ := [.o ⟨(some 15), none, false, .fieldA 2 (.t 2), none⟩, .o ⟨(some 16), none, false, .load 1 false (.t 15), none⟩, .o ⟨(some 17), none, false, .fieldA 2 (.t 3), none⟩, .o ⟨(some 18), none, false, .load 1 false (.t 17), none⟩, .o ⟨(some 19), none, false, .bin .neq (.t 16) (.t 18), (some [19])⟩]
abbrev k23_o6 : List AJ := [.o ⟨(some 4), none, false, .mv (.c (.bool false)), (some [4])⟩]
def k23_13 : ACode := .seq (.region k23_o6) .ret
def k23_14 : ACode := .cond (.t 19) k23_13 .skip
def k23_15 : ACode := .seq (.region k23_o5) k23_14
abbrev k23_o7 : List AJ := [.o ⟨(some 4), none, false, .mv (.c (.bool true)), (some [4])⟩]
def k23_17 : ACode := .seq (.region k23_o7) .ret
def k23_18 : ACode := .seq k23_15 k23_17
def k23_19 : ACode := .seq k23_10 k23_18
def k23_20 : ACode := .seq k23_5 k23_19
def k23_21 : ACode := .seq (.region k23_o0) k23_20
@[simp, simp ↓] theorem k23_3r : sR k23_3 k23_o2 .ret := yR rfl
@[simp, simp ↓] theorem k23_4r : rC k23_4 (.t 9) k23_3 .skip := zC rfl
@[simp, simp ↓] theorem k23_5r : sR k23_5 k23_o1 k23_4 := yR rfl
@[simp, simp ↓] theorem k23_8r : sR k23_8 k23_o4 .ret := yR rfl
@[simp, simp ↓] theorem k23_9r : rC k23_9 (.t 14) k23_8 .skip := zC rfl
@[simp, simp ↓] theorem k23_10r : sR k23_10 k23_o3 k23_9 := yR rfl
@[simp, simp ↓] theorem k23_13r : sR k23_13 k23_o6 .ret := yR rfl
@[simp, simp ↓] theorem k23_14r : rC k23_14 (.t 19) k23_13 .skip := zC rfl
@[simp, simp ↓] theorem k23_15r : sR k23_15 k23_o5 k23_14 := yR rfl
@[simp, simp ↓] theorem k23_17r : sR k23_17 k23_o7 .ret := yR rfl
@[simp, simp ↓] theorem k23_18r : rS k23_18 k23_15 k23_17 := zS rfl
@[simp, simp ↓] theorem k23_19r : rS k23_19 k23_10 k23_18 := zS rfl
@[simp, simp ↓] theorem k23_20r : rS k23_20 k23_5 k23_19 := zS rfl
@[simp, simp ↓] theorem k23_21r : sR k23_21 k23_o0 k23_20 := yR rfl
noncomputable abbrev k23_C : Orc → Cx := mkC Tryd.prog [] 23 20 [.tmp 4]
theorem k23_of0 : OfP0 Tryd.prog Tryd.f23 23 20 k23_C k23_21 := @ofP0 _ _ _ _ _ _ _ _ Tryd.func23 (by decide +kernel) rfl (by kernel_rfl) rfl (by kernel_rfl)
theorem eqBar_c (x y : T) (h : Heap) : ACalls Tryd.prog 23 [x.av, y.av] h (fun v h' => v = .bool (decide (x = y)) ∧ h' = h) := by
  refine k23_of0 rfl noPure fun I => ?_
  cases x; cases y
  refine Run2.of I 1000 ?_
  simp -implicitDefEqProofs
  grind
noncomputable def o_eqBar : List AV → Option (Prop × AV) := tab (fun (x : Int × Int × Int × Int × Int × Int) => match x with | (f, t, s, f', t', s') => [.agg [.int .i64 f, .int .i64 t, .int .i64 s], .agg [.int .i64 f', .int .i64 t', .int .i64 s']]) (fun x => match x with | (f, t, s, f', t', s') => True) (fun x => match x with | (f, t, s, f', t', s') => .bool (decide ((⟨f, t, s⟩ : T) = ⟨f', t', s'⟩)))
@[simp] theorem o_eqBar_e (f : Int) (t : Int) (s : Int) (f' : Int) (t' : Int) (s' : Int) : o_eqBar [.agg [.int .i64 f, .int .i64 t, .int .i64 s], .agg [.int .i64 f', .int .i64 t', .int .i64 s']] = some (True, .bool (decide ((⟨f, t, s⟩ : T) = ⟨f', t', s'⟩))) := tab_at (enc := fun (x : Int × Int × Int × Int × Int × Int) => match x with | (f, t, s, f', t', s') => [.agg [.int .i64 f, .int .i64 t, .int .i64 s], .agg [.int .i64 f', .int .i64 t', .int .i64 s']]) (fun x y h => by
  obtain ⟨f1, t1, s1, f'1, t'1, s'1⟩ := x; obtain ⟨f2, t2, s2, f'2, t'2, s'2⟩ := y; simp at h; simp [h] <;> omega) _ _ (f, t, s, f', t', s')
theorem o_eqBar_k : Knows Tryd.prog 23 o_eqBar := tab_knows fun x hx h => by
  obtain ⟨f, t, s, f', t', s'⟩ := x; exact eqBar_c ⟨f, t, s⟩ ⟨f', t', s'⟩ h
abbrev k7_o0 : List AJ := [.o ⟨(some 4), none, false, .mv (.c (.bool false)), (some [0, 1])⟩]
abbrev k7_o1 : List AJ := [.o ⟨(some 6), none, false, .mv (.t 0), none⟩, .o ⟨(some 7), none, false, .len (.t 6), none⟩, .o ⟨(some 8), none, false, .mv (.t 1), none⟩, .o ⟨(some 9), none, false, .len (.t 8), none⟩, .o ⟨(some 10), none, false, .bin .neq (.t 7) (.t 9), (some [0, 1, 10])⟩]
abbrev k7_o2 : List AJ := [.o ⟨(some 4), none, false, .mv (.c (.bool false)), (some [4])⟩]
def k7_3 : ACode := .seq (.region k7_o2) .ret
def k7_4 : ACode := .cond (.t 10) k7_3 .skip
def k7_5 : ACode := .seq (.region k7_o1) k7_4
abbrev k7_o3 : List AJ := [.o ⟨(some 5), none, false, .mv (.c (.int .i64 0)), (some [0, 1, 5])⟩]
abbrev k7_o4 : List AJ := [.o ⟨(some 11), none, false, .mv (.t 5), none⟩, .o ⟨(some 12), none, false, .mv (.t 0), none⟩, .o ⟨(some 13), none, false, .len (.t 12), none⟩, .o ⟨(some 14), none, false, .bin .lss (.t 11) (.t 13), (some [0, 1, 5, 14])⟩]
def k7_8 : ACode := .cond (.t 14) .skip (.exit 0)
def k7_9 : ACode := .seq (.region k7_o4) k7_8
abbrev k7_o5 : List AI := [⟨(some 17), none, false, .mv (.t 0), none⟩, ⟨(some 18), none, false, .mv (.t 5), none⟩, ⟨(some 19), none, false, .idxA 3 (.t 17) (.t 18), none⟩, ⟨(some 20), none, false, .load 3 true (.t 19), none⟩, ⟨(some 21), none, false, .mv (.t 1), none⟩, ⟨(some 22), none, false, .mv (.t 5), none⟩, ⟨(some 23), none, false, .idxA 3 (.t 21) (.t 22), none⟩, ⟨(some 24), none, false, .load 3 true (.t 23), none⟩, ⟨(some 25), none, false, .call 23 [(.t 20), (.t 24)], none⟩, ⟨(some 26), none, false, .un .not (.t 25), (some [0, 1, 5, 26])⟩]
abbrev k7_o6 : List AJ := [.o ⟨(some 4), none, false, .mv (.c (.bool false)), (some [4])⟩]
def k7_12 : ACode := .seq (.region k7_o6) .ret
def k7_13 : ACode := .cond (.t 26) k7_12 .skip
def k7_14 : ACode := .seq (.draw k7_o5 [] rfl) k7_13
abbrev k7_o7 : List AJ := [.o ⟨(some 15), none, false, .mv (.t 5), none⟩, .o ⟨(some 16), none, true, .bin .add (.t 15) (.c (.int .i64 1)), none⟩, .o ⟨(some 5), none, false, .mv (.t 16), (some [0, 1, 5])⟩]
def k7_16 : ACode := .region k7_o7
def k7_17 : ACode := .seq (.block 1 k7_14) k7_16
def k7_18 : ACode := .seq k7_9 k7_17
def k7_19 : ACode := .loop k7_18
def k7_20 : ACode := .block 0 k7_19
def k7_21 : ACode := .seq (.region k7_o3) k7_20
abbrev k7_o8 : List AJ := [.o ⟨(some 4), none, false, .mv (.c (.bool true)), (some [4])⟩]
def k7_23 : ACode := .seq (.region k7_o8) .ret
def k7_24 : ACode := .seq k7_21 k7_23
def k7_25 : ACode := .seq k7_5 k7_24
def k7_26 : ACode := .seq (.region k7_o0) k7_25
@[simp, simp ↓] theorem k7_3r : sR k7_3 k7_o2 .ret := yR rfl
@[simp, simp ↓] theorem k7_4r : rC k7_4 (.t 10) k7_3 .skip := zC rfl
@[simp, simp ↓] theorem k7_5r : sR k7_5 k7_o1 k7_4 := yR rfl
@[simp, simp ↓] theorem k7_8r : rC k7_8 (.t 14) .skip (.exit 0) := zC rfl
@[simp, simp ↓] theorem k7_9r : sR k7_9 k7_o4 k7_8 := yR rfl
@[simp, simp ↓] theorem k7_12r : sR k7_12 k7_o6 .ret := yR rfl
@[simp, simp ↓] theorem k7_13r : rC k7_13 (.t 26) k7_12 .skip := zC rfl
@[simp, simp ↓] theorem k7_14r : sD k7_14 k7_o5 [] k7_13 := yD rfl
@[simp, simp ↓] theorem k7_16r : rR k7_16 k7_o7 := zR rfl
@[simp, simp ↓] theorem k7_17r : sB k7_17 1 k7_14 k7_16 := yB rfl
@[simp, simp ↓] theorem k7_18r : rS k7_18 k7_9 k7_17 := zS rfl
@[simp, simp ↓] theorem k7_19r : rL k7_19 k7_18 := zL rfl
@[simp, simp ↓] theorem k7_20r : rB k7_20 0 k7_19 := zB rfl
@[simp, simp ↓] theorem k7_21r : sR k7_21 k7_o3 k7_20 := yR rfl
@[simp, simp ↓] theorem k7_23r : sR k7_23 k7_o8 .ret := yR rfl
@[simp, simp ↓] theorem k7_24r : rS k7_24 k7_21 k7_23 := zS rfl
@[simp, simp ↓] theorem k7_25r : rS k7_25 k7_5 k7_24 := zS rfl
@[simp, simp ↓] theorem k7_26r : sR k7_26 k7_o0 k7_25 := yR rfl
noncomputable abbrev k7_C : Orc → Cx := mkC Tryd.prog [] 7 27 [.tmp 4]
theorem k7_of0 : OfP0 Tryd.prog Tryd.f7 7 27 k7_C k7_26 := @ofP0 _ _ _ _ _ _ _ _ Tryd.func7 (by decide +kernel) rfl (by kernel_rfl) rfl (by kernel_rfl)
theorem eqBarS_c (l m : List T) (h : Heap) (hl : l.length ≤ 1048576) : ACalls Tryd.prog 7 [.snap 3 (l.map T.av), .snap 3 (m.map T.av)] h (fun v h' => v = .bool (decide (l = m)) ∧ h' = h) := by
  refine k7_of0 rfl (lk_pure o_eqBar_k lk_pure0) fun I => ?_
  refine Run2.of I 1000 ?_
  simp -implicitDefEqProofs
  refine ⟨by rintro hne rfl; exact hne rfl, fun hlen => ?_⟩
  refine Run2.loop (fun i => [(0, .snap 3 (l.map T.av)), (1, .snap 3 (m.map T.av)), (5, .int .i64 (i : Nat))]) (fun i => h) (fun i => l.length - i) (fun i => i ≤ l.length ∧ l.take i = m.take i) 0 (by simp) fun i hi ih => ?_
  by_cases hlt : i < l.length
  · have hlt' : i < m.length := by omega
    refine Run2.of I 1000 ?_
    simp -implicitDefEqProofs [hlt, hlt']
    constructor
    · rintro hne rfl
      exact hne rfl
    · intro he
      refine ⟨by omega, ?_⟩
      have := ih (i + 1) ⟨by omega, by rw [List.take_succ_eq_append_getElem hlt, List.take_succ_eq_append_getElem hlt', hi.2, he]⟩ (by omega)
      simpa using this
  · refine Run2.of I 1000 ?_
    simp -implicitDefEqProofs [hlt]
    have : i = l.length := by omega
    have h2 := hi.2
    rw [List.take_of_length_le (by omega), List.take_of_length_le (by omega)] at h2
    exact h2
theorem eqB_own {w u : AV} {l m : List T} {g h : Heap} (o : OwnL T.av 3 w l g) (hu : IsL T.av 3 u m) (hs : ∀ p ∈ g, p ∈ h) (hl : l.length ≤ 1048576) : ACalls Tryd.prog 7 [w, u] h (fun r h' => r = .bool (decide (l = m)) ∧ h' = h) := by
  refine ACalls.reads g hs ?_ rfl
  rw [lend_cons, lend_cons, lend_nil', lend1_cold g (hu.cold T.cold)]
  exact ACalls.wk (.cons o.lent.wk (.cons hu.wk .nil)) (eqBarS_c l m [] hl)
theorem heldB_own {w : AV} {l : List T} {g h : Heap} (o : OwnL T.av 3 w l g) (hs : ∀ p ∈ g, p ∈ h) (k : Int) (hk : 0 ≤ k ∧ k ≤ 1099511627776) (hl : l.length ≤ 1073741824) : ACalls Tryd.prog 9 [w, .int .i64 k] h (fun r h' => r = .int .i64 (if l = marksT k l.length then k + 3 * l.length else -1) ∧ h' = h) := by
  refine ACalls.reads g hs ?_ rfl
  rw [lend_cons, lend_cons, lend_nil', lend1_cold g (x := .int .i64 k) rfl]
  exact ACalls.wk (.cons o.lent.wk (.refl _)) (heldBarS_s l k [] hk hl)
theorem markB_drop {w : AV} {l : List T} {g h : Heap} (o : OwnL T.av 3 w l g) (keep : Heap) (hs : ∀ p ∈ g, p ∈ h) (hk : ∀ p ∈ keep, p ∈ h ∧ p.1 ∉ dom g) (nk : (dom h).Nodup → (dom keep).Nodup) (k : Int) (hk1 : 0 ≤ k ∧ k ≤ 1099511627776) (hl : l.length ≤ 1073741824) : ACalls Tryd.prog 8 [w, .int .i64 k] h (fun r h' => r = .int .i64 (k + 3 * l.length) ∧ h' = keep) :=
  ACalls.marks g keep o.nodup hs hk nk (S := fun h' => OwnL T.av 3 w (marksT k l.length) h') (markBarS_o o k hk1 hl) ⟨rfl, fun h' ho => (ho.own T.own).2⟩
theorem markB_keep {w : AV} {l : List T} {g h : Heap} (o : OwnL T.av 3 w l g) (keep : Heap) (hs : ∀ p ∈ g, p ∈ h) (hk : ∀ p ∈ keep, p ∈ h ∧ p.1 ∉ dom g) (nk : (dom h).Nodup → (dom keep).Nodup) (k : Int) (hk1 : 0 ≤ k ∧ k ≤ 1099511627776) (hl : l.length ≤ 1073741824) : ACalls Tryd.prog 8 [w, .int .i64 k] h (fun r h' => ∃ g', r = .int .i64 (k + 3 * l.length) ∧ OwnL T.av 3 w (marksT k l.length) g' ∧ h' = g' ++ keep) :=
  (ACalls.frame g [] keep o.nodup hs (by simp) hk nk (S := fun v h' => v = .int .i64 (k + 3 * l.length) ∧ OwnL T.av 3 w (marksT k l.length) h') (by simpa [lend] using markBarS_o o k hk1 hl) (fun v h' e => by obtain ⟨rfl, e⟩ := e; exact ⟨rfl, (e.own T.own).2⟩)).mono fun v h' ⟨g', ⟨e1, e2⟩, _, e3⟩ => ⟨g', e1, e2, e3⟩
def wfB (l : List T) : Prop := (∀ t ∈ l, t.ok) ∧ l.length ≤ 9223372036854775807
def tyB : Ty := .slice tyT
theorem Bars_of_shape {x : AV} (h : shV tyB x) : ∃ l : List T, x = .snap 3 (l.map T.av) ∧ wfB l := by
  obtain ⟨h1, xs, e1, hlen, r3⟩ := h
  have hm : maxLen ≤ 9223372036854775807 := by decide
  obtain ⟨l, rfl, hl⟩ := Ts_of_shape r3
  cases x <;> simp [isAgg, tyB, Ty.isS, cellsOf] at h1 e1
  rw [e1.1, e1.2]
  exact ⟨l, rfl, hl, by simp only [List.length_map] at hlen; exact Nat.le_trans hlen hm⟩
/-- The bars that a slice holds which nobody writes. -/
def barsOf : AV → List T
  | .snap _ l => l.map fun | .agg [.int _ a, .int _ b, .int _ c] => ⟨a, b, c⟩ | _ => ⟨0, 0, 0⟩
  | _ => []
@[simp] theorem barsOf_snap (s : Nat) (l : List T) : barsOf (.snap s (l.map T.av)) = l := by
  simp only [barsOf, List.map_map]
  exact List.map_id'' (fun n => rfl) l
@[simp] theorem barsOf_nil : barsOf .nilsl = [] := rfl
@[simp] theorem barsOf_emp : barsOf .emp = [] := rfl
@[simp] theorem barsOf_s0 (s : Nat) : barsOf (.snap s []) = [] := rfl
def isBars (v : AV) : Prop := v = .nilsl ∨ v = .emp ∨ ∃ l : List T, v = .snap 3 (l.map T.av)
@[simp] theorem isBars_snap (l : List T) : isBars (.snap 3 (l.map T.av)) := .inr (.inr ⟨l, rfl⟩)
@[simp] theorem isBars_nil : isBars .nilsl := .inl rfl
@[simp] theorem isBars_emp : isBars .emp := .inr (.inl rfl)
@[simp] theorem isBars_s0 : isBars (.snap 3 []) := .inr (.inr ⟨[], rfl⟩)
theorem Wk.bars {v : AV} (h : isBars v) : Wk v (.snap 3 ((barsOf v).map T.av)) := by
  rcases h with rfl | rfl | ⟨l, rfl⟩
  · exact Wk.nil 3
  · exact Wk.emp 3
  · rw [barsOf_snap]; exact Wk.refl _
theorem eqBarS_v (u v : AV) (h : Heap) (hu : isBars u) (hv : isBars v) (hl : (barsOf u).length ≤ 1048576) : ACalls Tryd.prog 7 [u, v] h (fun r h' => r = .bool (decide (barsOf u = barsOf v)) ∧ h' = h) :=
  (eqBarS_c _ _ h hl).wk (.cons (Wk.bars hu) (.cons (Wk.bars hv) .nil))
noncomputable def o_eqBarS : List AV → Option (Prop × AV) := tab (fun (x : AV × AV) => match x with | (u, v) => [u, v]) (fun x => match x with | (u, v) => ((isBars u ∧ isBars v) ∧ (barsOf u).length ≤ 1048576)) (fun x => match x with | (u, v) => .bool (decide (barsOf u = barsOf v)))
@[simp] theorem o_eqBarS_e (u : AV) (v : AV) : o_eqBarS [u, v] = some (((isBars u ∧ isBars v) ∧ (barsOf u).length ≤ 1048576), .bool (decide (barsOf u = barsOf v))) := tab_at (enc := fun (x : AV × AV) => match x with | (u, v) => [u, v]) (fun x y h => by
  obtain ⟨u1, v1⟩ := x; obtain ⟨u2, v2⟩ := y; simp at h; simp [h] <;> omega) _ _ (u, v)
theorem o_eqBarS_k : Knows Tryd.prog 7 o_eqBarS := tab_knows fun x hx h => by
  obtain ⟨u, v⟩ := x; exact eqBarS_v u v h hx.1.1 hx.1.2 hx.2
end Go.AG.B
