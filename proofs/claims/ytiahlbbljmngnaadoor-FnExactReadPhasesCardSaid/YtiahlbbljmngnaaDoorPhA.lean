/- Phases as plain data, and what the set's own helpers of phases do: they copy, compare and count. No statement is made here. -/
import Derived.Test.YtiahlbbljmngnaaDoorRows
import Derived.Test.YtiahlbbljmngnaaDoorIntS
namespace Go.AG.P
open Go.Proofs Go.Proofs.YtiahlbbljmngnaaDoor
set_option linter.unusedSimpArgs false
set_option linter.unusedVariables false
set_option maxRecDepth 4000
structure T where
  f : Int
  t : Int
  s : Int
  deriving DecidableEq, Inhabited
@[simp] def T.av (x : T) : AV := .agg [.int .i64 x.f, .int .i64 x.t, .int .i64 x.s]
def T.ok (x : T) : Prop := in64 x.f ∧ in64 x.t ∧ in64 x.s
structure Ph where
  n : Int
  m : Int
  ts : List T
  deriving DecidableEq
@[simp] def Ph.av (x : Ph) : AV := .agg [.int .i64 x.n, .int .i64 x.m, .snap 3 (x.ts.map T.av)]
def Ph.ok (x : Ph) : Prop := in64 x.n ∧ in64 x.m ∧ ∀ t ∈ x.ts, t.ok
theorem T.ext' {x y : T} (h1 : x.f = y.f) (h2 : x.t = y.t) (h3 : x.s = y.s) : x = y := by
  cases x; cases y; simp at h1 h2 h3; simp [h1, h2, h3]
theorem T.av_inj {x y : T} (h : x.av = y.av) : x = y := by
  simp at h; exact T.ext' h.1 h.2.1 h.2.2
@[simp] theorem Ts_inj (l m : List T) : (l.map T.av = m.map T.av) ↔ l = m := ⟨fun h => List.map_inj_right (fun _ _ => T.av_inj) |>.1 h, fun h => by rw [h]⟩
@[simp] theorem T_eta (x : T) : (⟨x.f, x.t, x.s⟩ : T) = x := rfl
@[simp] theorem Ph_eta (x : Ph) : (⟨x.n, x.m, x.ts⟩ : Ph) = x := rfl
def tz : AV := .agg [.int .i64 0, .int .i64 0, .int .i64 0]
def tyT : Ty := .struct (.cons (.int .i64) (.cons (.int .i64) (.cons (.int .i64) .nil)))
def tyPh : Ty := .struct (.cons (.int .i64) (.cons (.int .i64) (.cons (.slice tyT) .nil)))
theorem T_of_shape {x : AV} (h : isAgg x = tyT.isS ∧ shC tyT (cellsOf x)) : ∃ t : T, x = t.av ∧ t.ok := by
  obtain ⟨h1, a1, b1, e1, ⟨n1, rfl, r1⟩, a2, b2, rfl, ⟨n2, rfl, r2⟩, a3, b3, rfl, ⟨n3, rfl, r3⟩, h3⟩ := h
  have h3' : b3 = [] := h3
  subst h3'
  cases x <;> simp [isAgg, tyT, Ty.isS] at h1
  rename_i l
  refine ⟨⟨n1, n2, n3⟩, ?_, r1, r2, r3⟩
  simp only [cellsOf] at e1
  rw [e1]; rfl
theorem Ts_of_shape : ∀ {xs : List AV}, (∀ x ∈ xs, isAgg x = tyT.isS ∧ shC tyT (cellsOf x)) → ∃ ts : List T, xs = ts.map T.av ∧ ∀ t ∈ ts, t.ok
  | [], _ => ⟨[], rfl, by simp⟩
  | x :: xs, h => by
    obtain ⟨t, rfl, ht⟩ := T_of_shape (h x (List.mem_cons_self ..))
    obtain ⟨ts, rfl, hts⟩ := Ts_of_shape (xs := xs) fun y hy => h y (List.mem_cons_of_mem _ hy)
    exact ⟨t :: ts, rfl, by simpa using ⟨ht, hts⟩⟩
def Ph.wf (p : Ph) : Prop := p.ok ∧ p.ts.length ≤ 9223372036854775807
theorem Ph_of_shape {x : AV} (h : shV tyPh x) : ∃ p : Ph, x = p.av ∧ p.wf := by
  obtain ⟨h1, a1, b1, e1, ⟨n1, rfl, r1⟩, a2, b2, rfl, ⟨n2, rfl, r2⟩, a3, b3, rfl, ⟨xs, rfl, hlen, r3⟩, h3⟩ := h
  have hm : maxLen ≤ 9223372036854775807 := by decide
  have h3' : b3 = [] := h3
  subst h3'
  obtain ⟨ts, rfl, hts⟩ := Ts_of_shape r3
  cases x <;> simp [isAgg, tyPh, Ty.isS] at h1
  rename_i l
  refine ⟨⟨n1, n2, ts⟩, ?_, ⟨r1, r2, hts⟩, by simp only [List.length_map] at hlen; exact Nat.le_trans hlen hm⟩
  simp only [cellsOf] at e1
  rw [e1]; rfl

@[simp] theorem T.cold (x : T) : Go.AG.cold x.av = true := rfl
@[simp] theorem T.own (x : T) : Go.AG.own x.av = true := rfl
/-- v is phases whose edges stand in a block of its own. -/
def OwnPh (v : AV) (x : Ph) (hp : Heap) : Prop := ∃ u, v = .agg [.int .i64 x.n, .int .i64 x.m, u] ∧ OwnL T.av 3 u x.ts hp
/-- v is phases that nobody writes. -/
def IsPh (v : AV) (x : Ph) : Prop := ∃ u, v = .agg [.int .i64 x.n, .int .i64 x.m, u] ∧ IsL T.av 3 u x.ts
theorem IsPh.wk {v : AV} {x : Ph} (h : IsPh v x) : Wk v x.av := by
  obtain ⟨u, rfl, hu⟩ := h
  exact Wk.agg (.cons (.refl _) (.cons (.refl _) (.cons hu.wk .nil)))
theorem IsPh.cold {v : AV} {x : Ph} (h : IsPh v x) : Go.AG.cold v = true := by
  obtain ⟨u, rfl, hu⟩ := h
  simp [Go.AG.cold, colds, hu.cold T.cold]
theorem lend1_agg3 (L : Heap) (a b : Int) (u : AV) : lend1 L (.agg [.int .i64 a, .int .i64 b, u]) = .agg [.int .i64 a, .int .i64 b, lend1 L u] := by
  induction L generalizing u with
  | nil => rfl
  | cons p L ih => simp only [lend1, fz, fzs]; exact ih _
theorem OwnPh.lent {v : AV} {x : Ph} {hp : Heap} (h : OwnPh v x hp) : IsPh (lend1 hp v) x := by
  obtain ⟨u, rfl, hu⟩ := h
  exact ⟨_, lend1_agg3 hp _ _ u, hu.lent⟩
theorem OwnPh.lentIn {v : AV} {x : Ph} {hp : Heap} (h : OwnPh v x hp) {L : Heap} (hs : ∀ p ∈ hp, p ∈ L) (nd : (dom L).Nodup) : IsPh (lend1 L v) x := by
  obtain ⟨u, rfl, hu⟩ := h
  exact ⟨_, lend1_agg3 L _ _ u, hu.lentIn T.cold hs nd⟩
theorem OwnPh.own {v : AV} {x : Ph} {hp : Heap} (h : OwnPh v x hp) : Go.AG.own v = true ∧ (hp.all fun p => p.2.l.all Go.AG.own) = true := by
  obtain ⟨u, rfl, hu⟩ := h
  exact ⟨by simp [Go.AG.own, owns, (hu.own T.own).1], (hu.own T.own).2⟩
theorem OwnPh.nodup {v : AV} {x : Ph} {hp : Heap} (h : OwnPh v x hp) : (dom hp).Nodup := by
  obtain ⟨u, rfl, hu⟩ := h
  exact hu.nodup
def marksT (k : Int) (n : Nat) : List T := (List.range n).map fun i => ⟨k + 3 * (i : Nat), k + 3 * (i : Nat) + 1, k + 3 * (i : Nat) + 1 + 1⟩
@[simp] theorem marksT_length (k : Int) (n : Nat) : (marksT k n).length = n := by simp [marksT]
theorem marksT_succ (k : Int) (n : Nat) : marksT k (n + 1) = marksT k n ++ [⟨k + 3 * n, k + 3 * n + 1, k + 3 * n + 1 + 1⟩] := by simp [marksT, List.range_succ]
theorem marksT_get (k : Int) (n i : Nat) (h : i < (marksT k n).length) : (marksT k n)[i] = ⟨k + 3 * i, k + 3 * i + 1, k + 3 * i + 1 + 1⟩ := by simp [marksT]
theorem markT_step (l : List T) (ex : List AV) (k : Int) (i : Nat) (hi : i < l.length) : ((marksT k i).map T.av ++ (l.drop i).map T.av ++ ex).set i (T.av ⟨k + 3 * i, k + 3 * i + 1, k + 3 * i + 1 + 1⟩) = (marksT k (i + 1)).map T.av ++ (l.drop (i + 1)).map T.av ++ ex := by
  rw [List.drop_eq_getElem_cons hi, marksT_succ]
  simp only [List.map_cons, List.map_append, List.map_nil, List.append_assoc, List.cons_append, List.nil_append]
  rw [List.set_append_right _ _ (by simp)]
  simp
abbrev k31_o0 : List AJ := [.o ⟨(some 4), none, false, .mv (.c (.int .i64 0)), (some [0, 1])⟩]
abbrev k31_o1 : List AJ := [.o ⟨(some 5), none, false, .mv (.c (.int .i64 0)), (some [0, 1, 5])⟩]
abbrev k31_o2 : List AJ := [.o ⟨(some 6), none, false, .mv (.t 5), none⟩, .o ⟨(some 7), none, false, .mv (.t 0), none⟩, .o ⟨(some 8), none, false, .len (.t 7), none⟩, .o ⟨(some 9), none, false, .bin .lss (.t 6) (.t 8), (some [0, 1, 5, 9])⟩]
def k31_3 : ACode := .cond (.t 9) .skip (.exit 0)
def k31_4 : ACode := .seq (.region k31_o2) k31_3
abbrev k31_o3 : List AJ := [.o ⟨(some 12), none, false, .mv (.t 0), none⟩, .o ⟨(some 13), none, false, .mv (.t 5), none⟩, .o ⟨(some 14), none, false, .mv (.t 1), none⟩, .o ⟨(some 15), none, false, .idxA 3 (.t 12) (.t 13), none⟩, .o ⟨(some 16), none, false, .fieldA 0 (.t 15), none⟩, .o ⟨none, none, false, .store 1 (.t 16) (.t 14), (some [0, 1, 5])⟩]
abbrev k31_o4 : List AJ := [.o ⟨(some 17), none, false, .mv (.t 1), none⟩, .o ⟨(some 18), none, true, .bin .add (.t 17) (.c (.int .i64 1)), none⟩, .o ⟨(some 1), none, false, .mv (.t 18), (some [0, 1, 5])⟩]
abbrev k31_o5 : List AJ := [.o ⟨(some 19), none, false, .mv (.t 0), none⟩, .o ⟨(some 20), none, false, .mv (.t 5), none⟩, .o ⟨(some 21), none, false, .mv (.t 1), none⟩, .o ⟨(some 22), none, false, .idxA 3 (.t 19) (.t 20), none⟩, .o ⟨(some 23), none, false, .fieldA 1 (.t 22), none⟩, .o ⟨none, none, false, .store 1 (.t 23) (.t 21), (some [0, 1, 5])⟩]
abbrev k31_o6 : List AJ := [.o ⟨(some 24), none, false, .mv (.t 1), none⟩, .o ⟨(some 25), none, true, .bin .add (.t 24) (.c (.int .i64 1)), none⟩, .o ⟨(some 1), none, false, .mv (.t 25), (some [0, 1, 5])⟩]
abbrev k31_o7 : List AJ := [.o ⟨(some 26), none, false, .mv (.t 0), none⟩, .o ⟨(some 27), none, false, .mv (.t 5), none⟩, .o ⟨(some 28), none, false, .mv (.t 1), none⟩, .o ⟨(some 29), none, false, .idxA 3 (.t 26) (.t 27), none⟩, .o ⟨(some 30), none, false, .fieldA 2 (.t 29), none⟩, .o ⟨none, none, false, .store 1 (.t 30) (.t 28), (some [0, 1, 5])⟩]
abbrev k31_o8 : List AJ := [.o ⟨(some 31), none, false, .mv (.t 1), none⟩, .o ⟨(some 32), none, true, .bin .add (.t 31) (.c (.int .i64 1)), none⟩, .o ⟨(some 1), none, false, .mv (.t 32), (some [0, 1, 5])⟩]
def k31_10 : ACode := .region k31_o8
def k31_11 : ACode := .seq (.region k31_o7) k31_10
def k31_12 : ACode := .seq (.region k31_o6) k31_11
def k31_13 : ACode := .seq (.region k31_o5) k31_12
def k31_14 : ACode := .seq (.region k31_o4) k31_13
def k31_15 : ACode := .seq (.region k31_o3) k31_14
abbrev k31_o9 : List AJ := [.o ⟨(some 10), none, false, .mv (.t 5), none⟩, .o ⟨(some 11), none, true, .bin .add (.t 10) (.c (.int .i64 1)), none⟩, .o ⟨(some 5), none, false, .mv (.t 11), (some [0, 1, 5])⟩]
def k31_17 : ACode := .region k31_o9
def k31_18 : ACode := .seq (.block 1 k31_15) k31_17
def k31_19 : ACode := .seq k31_4 k31_18
def k31_20 : ACode := .loop k31_19
def k31_21 : ACode := .block 0 k31_20
def k31_22 : ACode := .seq (.region k31_o1) k31_21
abbrev k31_o10 : List AJ := [.o ⟨(some 33), none, false, .mv (.t 1), none⟩, .o ⟨(some 4), none, false, .mv (.t 33), (some [4])⟩]
def k31_24 : ACode := .seq (.region k31_o10) .ret
def k31_25 : ACode := .seq k31_22 k31_24
def k31_26 : ACode := .seq (.region k31_o0) k31_25
@[simp, simp ↓] theorem k31_3r : rC k31_3 (.t 9) .skip (.exit 0) := zC rfl
@[simp, simp ↓] theorem k31_4r : sR k31_4 k31_o2 k31_3 := yR rfl
@[simp, simp ↓] theorem k31_10r : rR k31_10 k31_o8 := zR rfl
@[simp, simp ↓] theorem k31_11r : sR k31_11 k31_o7 k31_10 := yR rfl
@[simp, simp ↓] theorem k31_12r : sR k31_12 k31_o6 k31_11 := yR rfl
@[simp, simp ↓] theorem k31_13r : sR k31_13 k31_o5 k31_12 := yR rfl
@[simp, simp ↓] theorem k31_14r : sR k31_14 k31_o4 k31_13 := yR rfl
@[simp, simp ↓] theorem k31_15r : sR k31_15 k31_o3 k31_14 := yR rfl
@[simp, simp ↓] theorem k31_17r : rR k31_17 k31_o9 := zR rfl
@[simp, simp ↓] theorem k31_18r : sB k31_18 1 k31_15 k31_17 := yB rfl
@[simp, simp ↓] theorem k31_19r : rS k31_19 k31_4 k31_18 := zS rfl
@[simp, simp ↓] theorem k31_20r : rL k31_20 k31_19 := zL rfl
@[simp, simp ↓] theorem k31_21r : rB k31_21 0 k31_20 := zB rfl
@[simp, simp ↓] theorem k31_22r : sR k31_22 k31_o1 k31_21 := yR rfl
@[simp, simp ↓] theorem k31_24r : sR k31_24 k31_o10 .ret := yR rfl
@[simp, simp ↓] theorem k31_25r : rS k31_25 k31_22 k31_24 := zS rfl
@[simp, simp ↓] theorem k31_26r : sR k31_26 k31_o0 k31_25 := yR rfl
noncomputable abbrev k31_C : Orc → Cx := mkC Tryd.prog [] 31 34 [.tmp 4]
theorem k31_of0 : OfP0 Tryd.prog Tryd.f31 31 34 k31_C k31_26 := @ofP0 _ _ _ _ _ _ _ _ Tryd.func31 (by decide +kernel) rfl (by kernel_rfl) rfl (by kernel_rfl)
theorem markTurnS_s (id : Nat) (l : List T) (ex : List AV) (cap : Option Nat) (k : Int) (hk : 0 ≤ k ∧ k ≤ 1099511627776) (hl : l.length ≤ 1073741824) : ACalls Tryd.prog 31 [.sl id 3 0 l.length cap, .int .i64 k] [(id, ⟨3, l.map T.av ++ ex⟩)] (fun v h' => v = .int .i64 (k + 3 * l.length) ∧ h' = [(id, ⟨3, (marksT k l.length).map T.av ++ ex⟩)]) := by
  refine k31_of0 rfl noPure fun I => ?_
  refine Run2.of I 1000 ?_
  simp -implicitDefEqProofs
  obtain ⟨f, hf0, hfn, hlen, hset, hget⟩ : ∃ f : Nat → List AV, l.map T.av ++ ex = f 0 ∧ (marksT k l.length).map T.av ++ ex = f l.length ∧ (∀ i, i ≤ l.length → (f i).length = l.length + ex.length) ∧ (∀ i, i < l.length → (f i).set i (T.av ⟨k + 3 * i, k + 3 * i + 1, k + 3 * i + 1 + 1⟩) = f (i + 1)) ∧ ∀ i, (hi : i < l.length) → (f i)[i]? = some l[i].av :=
    ⟨fun i => (marksT k i).map T.av ++ (l.drop i).map T.av ++ ex, by simp [marksT], by simp, fun i hi => by simp; omega, fun i hi => markT_step l ex k i hi, fun i hi => by
      show ((marksT k i).map T.av ++ (l.drop i).map T.av ++ ex)[i]? = _
      rw [List.append_assoc, List.getElem?_append_right (by simp)]
      rw [show i - ((marksT k i).map T.av).length = 0 by simp, List.drop_eq_getElem_cons hi]; rfl⟩
  have hz : l.map (fun x : T => AV.agg [.int .i64 x.f, .int .i64 x.t, .int .i64 x.s]) = l.map T.av := rfl
  rw [hf0, hfn]
  refine Run2.loopE (fun i => [(0, .sl id 3 0 l.length cap), (1, .int .i64 (k + 3 * (i : Nat))), (5, .int .i64 (i : Nat))]) (fun i => [(id, ⟨3, f i⟩)]) (fun i => l.length - i) (fun i => i ≤ l.length) 0 (by simp) rfl (Nat.zero_le _) fun i hi ih => ?_
  by_cases hlt : i < l.length
  · have go := ih (i + 1) (by omega) (by omega)
    have hl2 := hlen i hi
    have hg := hget i hlt
    have hlf : i < (f i).length := by omega
    have hs := hset i hlt
    clear ih
    refine Run2.of I 1000 ?_
    have hsg : ∀ A, ((f i).set i A)[i]? = some A := fun A => List.getElem?_set_self hlf
    simp -implicitDefEqProofs [hlt, hl2, hg, hsg]
    simp at hs
    rw [hs]
    refine ⟨by omega, by omega, by omega, by omega, ?_⟩
    have e : k + 3 * ((i + 1 : Nat) : Int) = k + 3 * i + 1 + 1 + 1 := by omega
    rw [e] at go
    simpa using go
  · obtain rfl : i = l.length := by omega
    refine Run2.of I 1000 ?_
    simp -implicitDefEqProofs
theorem markTurnS_o {v : AV} {l : List T} {hs : Heap} (ho : OwnL T.av 3 v l hs) (k : Int) (hk : 0 ≤ k ∧ k ≤ 1099511627776) (hl : l.length ≤ 1073741824) : ACalls Tryd.prog 31 [v, .int .i64 k] hs (fun r h' => r = .int .i64 (k + 3 * l.length) ∧ OwnL T.av 3 v (marksT k l.length) h') := by
  have nil : ∀ u, (u = AV.nilsl ∨ u = .emp) → ACalls Tryd.prog 31 [u, .int .i64 k] [] (fun r h' => r = .int .i64 (k + 3 * ([] : List T).length) ∧ OwnL T.av 3 u (marksT k 0) h') := by
    rintro u (rfl | rfl)
    all_goals
      refine k31_of0 rfl noPure fun I => ?_
      refine Run2.of I 1000 ?_
      simp -implicitDefEqProofs
      refine Run2.loopE (fun (_ : Unit) => [(0, _), (1, .int .i64 k), (5, .int .i64 0)]) (fun _ => []) (fun _ => 0) (fun _ => True) () (by rfl) rfl trivial fun _ _ _ => ?_
      refine Run2.of I 1000 ?_
      simp -implicitDefEqProofs
      constructor
  cases ho with
  | nil => exact nil _ (.inl rfl)
  | emp => exact nil _ (.inr rfl)
  | sl id cap ex hex =>
    refine (markTurnS_s id l ex cap k hk hl).mono ?_
    rintro r h' ⟨rfl, rfl⟩
    refine ⟨rfl, ?_⟩
    have := OwnL.sl (enc := T.av) (sz := 3) (l := marksT k l.length) id cap ex hex
    rwa [marksT_length] at this
abbrev k13_o0 : List AJ := [.o ⟨(some 2), none, false, .box false 3 (.t 0), none⟩, .o ⟨(some 4), none, false, .mv (.c (.int .i64 0)), (some [1, 2])⟩]
abbrev k13_o1 : List AJ := [.o ⟨(some 5), none, false, .fieldA 2 (.t 2), none⟩, .o ⟨(some 6), none, false, .load 1 false (.t 5), none⟩, .o ⟨(some 7), none, false, .mv (.t 1), none⟩, .o ⟨(some 8), none, false, .call 31 [(.t 6), (.t 7)], none⟩, .o ⟨(some 1), none, false, .mv (.t 8), (some [1])⟩]
abbrev k13_o2 : List AJ := [.o ⟨(some 9), none, false, .mv (.t 1), none⟩, .o ⟨(some 4), none, false, .mv (.t 9), (some [4])⟩]
def k13_3 : ACode := .seq (.region k13_o2) .ret
def k13_4 : ACode := .seq (.region k13_o1) k13_3
def k13_5 : ACode := .seq (.region k13_o0) k13_4
@[simp, simp ↓] theorem k13_3r : sR k13_3 k13_o2 .ret := yR rfl
@[simp, simp ↓] theorem k13_4r : sR k13_4 k13_o1 k13_3 := yR rfl
@[simp, simp ↓] theorem k13_5r : sR k13_5 k13_o0 k13_4 := yR rfl
noncomputable abbrev k13_C : Orc → Cx := mkC Tryd.prog [] 13 10 [.tmp 4]
theorem k13_of0 : OfP0 Tryd.prog Tryd.f13 13 10 k13_C k13_5 := @ofP0 _ _ _ _ _ _ _ _ Tryd.func13 (by decide +kernel) rfl (by kernel_rfl) rfl (by kernel_rfl)
theorem markPhases_o {v : AV} {x : Ph} {hs : Heap} (ho : OwnPh v x hs) (k : Int) (hk : 0 ≤ k ∧ k ≤ 1099511627776) (hl : x.ts.length ≤ 1073741824) : ACalls Tryd.prog 13 [v, .int .i64 k] hs (fun r h' => r = .int .i64 (k + 3 * x.ts.length) ∧ OwnPh v ⟨x.n, x.m, marksT k x.ts.length⟩ h') := by
  obtain ⟨u, rfl, hu⟩ := ho
  have hc := hu.cell
  refine k13_of0 rfl noPure fun I => ?_
  refine Run2.of I 1000 ?_
  simp -implicitDefEqProofs [hc]
  refine (markTurnS_o hu k hk hl).mono ?_
  rintro r h' ⟨rfl, hu'⟩
  refine gK.go ?_
  simp -implicitDefEqProofs
  exact ⟨_, rfl, hu'⟩
abbrev k32_o0 : List AJ := [.o ⟨(some 4), none, false, .mv (.c (.int .i64 0)), (some [0, 1])⟩]
abbrev k32_o1 : List AJ := [.o ⟨(some 5), none, false, .mv (.c (.int .i64 0)), (some [0, 1, 5])⟩]
abbrev k32_o2 : List AJ := [.o ⟨(some 6), none, false, .mv (.t 5), none⟩, .o ⟨(some 7), none, false, .mv (.t 0), none⟩, .o ⟨(some 8), none, false, .len (.t 7), none⟩, .o ⟨(some 9), none, false, .bin .lss (.t 6) (.t 8), (some [0, 1, 5, 9])⟩]
def k32_3 : ACode := .cond (.t 9) .skip (.exit 0)
def k32_4 : ACode := .seq (.region k32_o2) k32_3
abbrev k32_o3 : List AJ := [.o ⟨(some 12), none, false, .mv (.t 0), none⟩, .o ⟨(some 13), none, false, .mv (.t 5), none⟩, .o ⟨(some 14), none, false, .idxA 3 (.t 12) (.t 13), none⟩, .o ⟨(some 15), none, false, .fieldA 0 (.t 14), none⟩, .o ⟨(some 16), none, false, .load 1 false (.t 15), none⟩, .o ⟨(some 17), none, false, .mv (.t 1), none⟩, .o ⟨(some 18), none, false, .bin .neq (.t 16) (.t 17), (some [0, 1, 5, 18])⟩]
abbrev k32_o4 : List AJ := [.o ⟨(some 4), none, false, .mv (.c (.int .i64 (-1))), (some [4])⟩]
def k32_7 : ACode := .seq (.region k32_o4) .ret
def k32_8 : ACode := .cond (.t 18) k32_7 .skip
def k32_9 : ACode := .seq (.region k32_o3) k32_8
abbrev k32_o5 : List AJ := [.o ⟨(some 19), none, false, .mv (.t 1), none⟩, .o ⟨(some 20), none, true, .bin .add (.t 19) (.c (.int .i64 1)), none⟩, .o ⟨(some 1), none, false, .mv (.t 20), (some [0, 1, 5])⟩]
abbrev k32_o6 : List AJ := [.o ⟨(some 21), none, false, .mv (.t 0), none⟩, .o ⟨(some 22), none, false, .mv (.t 5), none⟩, .o ⟨(some 23), none, false, .idxA 3 (.t 21) (.t 22), none⟩, .o ⟨(some 24), none, false, .fieldA 1 (.t 23), none⟩, .o ⟨(some 25), none, false, .load 1 false (.t 24), none⟩, .o ⟨(some 26), none, false, .mv (.t 1), none⟩, .o ⟨(some 27), none, false, .bin .neq (.t 25) (.t 26), (some [0, 1, 5, 27])⟩]
abbrev k32_o7 : List AJ := [.o ⟨(some 4), none, false, .mv (.c (.int .i64 (-1))), (some [4])⟩]
def k32_13 : ACode := .seq (.region k32_o7) .ret
def k32_14 : ACode := .cond (.t 27) k32_13 .skip
def k32_15 : ACode := .seq (.region k32_o6) k32_14
abbrev k32_o8 : List AJ := [.o ⟨(some 28), none, false, .mv (.t 1), none⟩, .o ⟨(some 29), none, true, .bin .add (.t 28) (.c (.int .i64 1)), none⟩, .o ⟨(some 1), none, false, .mv (.t 29), (some [0, 1, 5])⟩]
abbrev k32_o9 : List AJ := [.o ⟨(some 30), none, false, .mv (.t 0), none⟩, .o ⟨(some 31), none, false, .mv (.t 5), none⟩, .o ⟨(some 32), none, false, .idxA 3 (.t 30) (.t 31), none⟩, .o ⟨(some 33), none, false, .fieldA 2 (.t 32), none⟩, .o ⟨(some 34), none, false, .load 1 false (.t 33), none⟩, .o ⟨(some 35), none, false, .mv (.t 1), none⟩, .o ⟨(some 36), none, false, .bin .neq (.t 34) (.t 35), (some [0, 1, 5, 36])⟩]
abbrev k32_o10 : List AJ := [.o ⟨(some 4), none, false, .mv (.c (.int .i64 (-1))), (some [4])⟩]
def k32_19 : ACode := .seq (.region k32_o10) .ret
def k32_20 : ACode := .cond (.t 36) k32_19 .skip
def k32_21 : ACode := .seq (.region k32_o9) k32_20
abbrev k32_o11 : List AJ := [.o ⟨(some 37), none, false, .mv (.t 1), none⟩, .o ⟨(some 38), none, true, .bin .add (.t 37) (.c (.int .i64 1)), none⟩, .o ⟨(some 1), none, false, .mv (.t 38), (some [0, 1, 5])⟩]
def k32_22 : ACode := .region k32_o11
def k32_23 : ACode := .seq k32_21 k32_22
def k32_24 : ACode := .seq (.region k32_o8) k32_23
def k32_25 : ACode := .seq k32_15 k32_24
def k32_26 : ACode := .seq (.region k32_o5) k32_25
def k32_27 : ACode := .seq k32_9 k32_26
abbrev k32_o12 : List AJ := [.o ⟨(some 10), none, false, .mv (.t 5), none⟩, .o ⟨(some 11), none, true, .bin .add (.t 10) (.c (.int .i64 1)), none⟩, .o ⟨(some 5), none, false, .mv (.t 11), (some [0, 1, 5])⟩]
def k32_29 : ACode := .region k32_o12
def k32_30 : ACode := .seq (.block 1 k32_27) k32_29
def k32_31 : ACode := .seq k32_4 k32_30
def k32_32 : ACode := .loop k32_31
def k32_33 : ACode := .block 0 k32_32
def k32_34 : ACode := .seq (.region k32_o1) k32_33
abbrev k32_o13 : List AJ := [.o ⟨(some 39), none, false, .mv (.t 1), none⟩, .o ⟨(some 4), none, false, .mv (.t 39), (some [4])⟩]
def k32_36 : ACode := .seq (.region k32_o13) .ret
def k32_37 : ACode := .seq k32_34 k32_36
def k32_38 : ACode := .seq (.region k32_o0) k32_37
@[simp, simp ↓] theorem k32_3r : rC k32_3 (.t 9) .skip (.exit 0) := zC rfl
@[simp, simp ↓] theorem k32_4r : sR k32_4 k32_o2 k32_3 := yR rfl
@[simp, simp ↓] theorem k32_7r : sR k32_7 k32_o4 .ret := yR rfl
@[simp, simp ↓] theorem k32_8r : rC k32_8 (.t 18) k32_7 .skip := zC rfl
@[simp, simp ↓] theorem k32_9r : sR k32_9 k32_o3 k32_8 := yR rfl
@[simp, simp ↓] theorem k32_13r : sR k32_13 k32_o7 .ret := yR rfl
@[simp, simp ↓] theorem k32_14r : rC k32_14 (.t 27) k32_13 .skip := zC rfl
@[simp, simp ↓] theorem k32_15r : sR k32_15 k32_o6 k32_14 := yR rfl
@[simp, simp ↓] theorem k32_19r : sR k32_19 k32_o10 .ret := yR rfl
@[simp, simp ↓] theorem k32_20r : rC k32_20 (.t 36) k32_19 .skip := zC rfl
@[simp, simp ↓] theorem k32_21r : sR k32_21 k32_o9 k32_20 := yR rfl
@[simp, simp ↓] theorem k32_22r : rR k32_22 k32_o11 := zR rfl
@[simp, simp ↓] theorem k32_23r : rS k32_23 k32_21 k32_22 := zS rfl
@[simp, simp ↓] theorem k32_24r : sR k32_24 k32_o8 k32_23 := yR rfl
@[simp, simp ↓] theorem k32_25r : rS k32_25 k32_15 k32_24 := zS rfl
@[simp, simp ↓] theorem k32_26r : sR k32_26 k32_o5 k32_25 := yR rfl
@[simp, simp ↓] theorem k32_27r : rS k32_27 k32_9 k32_26 := zS rfl
@[simp, simp ↓] theorem k32_29r : rR k32_29 k32_o12 := zR rfl
@[simp, simp ↓] theorem k32_30r : sB k32_30 1 k32_27 k32_29 := yB rfl
@[simp, simp ↓] theorem k32_31r : rS k32_31 k32_4 k32_30 := zS rfl
@[simp, simp ↓] theorem k32_32r : rL k32_32 k32_31 := zL rfl
@[simp, simp ↓] theorem k32_33r : rB k32_33 0 k32_32 := zB rfl
@[simp, simp ↓] theorem k32_34r : sR k32_34 k32_o1 k32_33 := yR rfl
@[simp, simp ↓] theorem k32_36r : sR k32_36 k32_o13 .ret := yR rfl
@[simp, simp ↓] theorem k32_37r : rS k32_37 k32_34 k32_36 := zS rfl
@[simp, simp ↓] theorem k32_38r : sR k32_38 k32_o0 k32_37 := yR rfl
noncomputable abbrev k32_C : Orc → Cx := mkC Tryd.prog [] 32 40 [.tmp 4]
theorem k32_of0 : OfP0 Tryd.prog Tryd.f32 32 40 k32_C k32_38 := @ofP0 _ _ _ _ _ _ _ _ Tryd.func32 (by decide +kernel) rfl (by kernel_rfl) rfl (by kernel_rfl)
theorem heldTurnS_s (l : List T) (k : Int) (h : Heap) (hk : 0 ≤ k ∧ k ≤ 1099511627776) (hl : l.length ≤ 1073741824) : ACalls Tryd.prog 32 [.snap 3 (l.map T.av), .int .i64 k] h (fun v h' => v = .int .i64 (if l = marksT k l.length then k + 3 * l.length else -1) ∧ h' = h) := by
  refine k32_of0 rfl noPure fun I => ?_
  refine Run2.of I 1000 ?_
  simp -implicitDefEqProofs
  refine Run2.loopE (fun i => [(0, .snap 3 (l.map T.av)), (1, .int .i64 (k + 3 * (i : Nat))), (5, .int .i64 (i : Nat))]) (fun i => h) (fun i => l.length - i) (fun i => i ≤ l.length ∧ l.take i = marksT k i) 0 (by simp) rfl (by simp [marksT]) fun i hi ih => ?_
  by_cases hlt : i < l.length
  · have hbad : ¬ l[i] = ⟨k + 3 * i, k + 3 * i + 1, k + 3 * i + 1 + 1⟩ → ¬ l = marksT k l.length := fun h1 h2 => h1 (by
      have : l[i] = (marksT k l.length)[i]'(by simpa using hlt) := by congr 1
      rw [this, marksT_get])
    have go := fun (h1 : l[i] = ⟨k + 3 * i, k + 3 * i + 1, k + 3 * i + 1 + 1⟩) => ih (i + 1) ⟨by omega, by rw [List.take_succ_eq_append_getElem hlt, marksT_succ, hi.2, h1]⟩ (by omega)
    have e : k + 3 * ((i + 1 : Nat) : Int) = k + 3 * i + 1 + 1 + 1 := by omega
    rw [e] at go
    clear ih
    refine Run2.of I 1000 ?_
    simp -implicitDefEqProofs [hlt]
    repeat' (first | refine And.intro ?_ ?_ | intro _)
    all_goals first | omega | skip
    · exact absurd ‹l = _› (hbad fun h => by have h1 := congrArg T.f h; have h2 := congrArg T.t h; have h3 := congrArg T.s h; simp only at h1 h2 h3; omega)
    · exact absurd ‹l = _› (hbad fun h => by have h1 := congrArg T.f h; have h2 := congrArg T.t h; have h3 := congrArg T.s h; simp only at h1 h2 h3; omega)
    · exact absurd ‹l = _› (hbad fun h => by have h1 := congrArg T.f h; have h2 := congrArg T.t h; have h3 := congrArg T.s h; simp only at h1 h2 h3; omega)
    · simpa using go (T.ext' ‹_› ‹_› ‹_›)
  · obtain rfl : i = l.length := by omega
    have h2 := hi.2
    rw [List.take_length] at h2
    refine Run2.of I 1000 ?_
    simp -implicitDefEqProofs
    exact fun h => absurd h2 h
theorem heldTurnS_c {u : AV} {l : List T} (hu : IsL T.av 3 u l) (k : Int) (h : Heap) (hk : 0 ≤ k ∧ k ≤ 1099511627776) (hl : l.length ≤ 1073741824) : ACalls Tryd.prog 32 [u, .int .i64 k] h (fun v h' => v = .int .i64 (if l = marksT k l.length then k + 3 * l.length else -1) ∧ h' = h) :=
  (heldTurnS_s _ k h hk hl).wk (.cons hu.wk (.refl _))
abbrev k14_o0 : List AJ := [.o ⟨(some 2), none, false, .box false 3 (.t 0), none⟩, .o ⟨(some 4), none, false, .mv (.c (.int .i64 0)), (some [1, 2])⟩]
abbrev k14_o1 : List AJ := [.o ⟨(some 5), none, false, .fieldA 2 (.t 2), none⟩, .o ⟨(some 6), none, false, .load 1 false (.t 5), none⟩, .o ⟨(some 7), none, false, .mv (.t 1), none⟩, .o ⟨(some 8), none, false, .call 32 [(.t 6), (.t 7)], none⟩, .o ⟨(some 1), none, false, .mv (.t 8), (some [1])⟩]
abbrev k14_o2 : List AJ := [.o ⟨(some 9), none, false, .mv (.t 1), none⟩, .o ⟨(some 10), none, false, .bin .lss (.t 9) (.c (.int .i64 0)), (some [1, 10])⟩]
abbrev k14_o3 : List AJ := [.o ⟨(some 4), none, false, .mv (.c (.int .i64 (-1))), (some [4])⟩]
def k14_4 : ACode := .seq (.region k14_o3) .ret
def k14_5 : ACode := .cond (.t 10) k14_4 .skip
def k14_6 : ACode := .seq (.region k14_o2) k14_5
abbrev k14_o4 : List AJ := [.o ⟨(some 11), none, false, .mv (.t 1), none⟩, .o ⟨(some 4), none, false, .mv (.t 11), (some [4])⟩]
def k14_8 : ACode := .seq (.region k14_o4) .ret
def k14_9 : ACode := .seq k14_6 k14_8
def k14_10 : ACode := .seq (.region k14_o1) k14_9
def k14_11 : ACode := .seq (.region k14_o0) k14_10
@[simp, simp ↓] theorem k14_4r : sR k14_4 k14_o3 .ret := yR rfl
@[simp, simp ↓] theorem k14_5r : rC k14_5 (.t 10) k14_4 .skip := zC rfl
@[simp, simp ↓] theorem k14_6r : sR k14_6 k14_o2 k14_5 := yR rfl
@[simp, simp ↓] theorem k14_8r : sR k14_8 k14_o4 .ret := yR rfl
@[simp, simp ↓] theorem k14_9r : rS k14_9 k14_6 k14_8 := zS rfl
@[simp, simp ↓] theorem k14_10r : sR k14_10 k14_o1 k14_9 := yR rfl
@[simp, simp ↓] theorem k14_11r : sR k14_11 k14_o0 k14_10 := yR rfl
noncomputable abbrev k14_C : Orc → Cx := mkC Tryd.prog [] 14 12 [.tmp 4]
theorem k14_of0 : OfP0 Tryd.prog Tryd.f14 14 12 k14_C k14_11 := @ofP0 _ _ _ _ _ _ _ _ Tryd.func14 (by decide +kernel) rfl (by kernel_rfl) rfl (by kernel_rfl)
theorem heldPhases_c {u : AV} {x : Ph} (hu : IsPh u x) (k : Int) (h : Heap) (hk : 0 ≤ k ∧ k ≤ 1099511627776) (hl : x.ts.length ≤ 1073741824) : ACalls Tryd.prog 14 [u, .int .i64 k] h (fun v h' => v = .int .i64 (if x.ts = marksT k x.ts.length then k + 3 * x.ts.length else -1) ∧ h' = h) := by
  refine ACalls.wk (.cons hu.wk (.refl _)) ?_
  refine k14_of0 rfl noPure fun I => ?_
  refine Run2.of I 1000 ?_
  simp -implicitDefEqProofs
  refine (heldTurnS_s x.ts k h hk hl).mono ?_
  rintro r h' ⟨rfl, rfl⟩
  refine gK.go ?_
  simp -implicitDefEqProofs
  grind
abbrev k53_o0 : List AJ := [.o ⟨(some 2), none, false, .box false 3 (.t 0), none⟩, .o ⟨(some 3), none, false, .box false 3 (.t 1), none⟩, .o ⟨(some 4), none, false, .mv (.c (.bool false)), (some [2, 3])⟩]
abbrev k53_o1 : List AJ := [.o ⟨(some 5), none, false, .fieldA 0 (.t 2), none⟩, .o ⟨(some 6), none, false, .load 1 false (.t 5), none⟩, .o ⟨(some 7), none, false, .fieldA 0 (.t 3), none⟩, .o ⟨(some 8), none, false, .load 1 false (.t 7), none⟩, .o ⟨(some 9), none, false, .bin .neq (.t 6) (.t 8), (some [2, 3, 9])⟩]
abbrev k53_o2 : List AJ := [.o ⟨(some 4), none, false, .mv (.c (.bool false)), (some [4])⟩]
def k53_3 : ACode := .seq (.region k53_o2) .ret
def k53_4 : ACode := .cond (.t 9) k53_3 .skip
def k53_5 : ACode := .seq (.region k53_o1) k53_4
abbrev k53_o3 : List AJ := [.o ⟨(some 10), none, false, .fieldA 1 (.t 2), none⟩, .o ⟨(some 11), none, false, .load 1 false (.t 10), none⟩, .o ⟨(some 12), none, false, .fieldA 1 (.t 3), none⟩, .o ⟨(some 13), none, false, .load 1 false (.t 12), none⟩, .o ⟨(some 14), none, false, .bin .neq (.t 11) (.t 13), (some [2, 3, 14])⟩]
abbrev k53_o4 : List AJ := [.o ⟨(some 4), none, false, .mv (.c (.bool false)), (some [4])⟩]
def k53_8 : ACode := .seq (.region k53_o4) .ret
def k53_9 : ACode := .cond (.t 14) k53_8 .skip
def k53_10 : ACode := .seq (.region k53_o3) k53_9
abbrev k53_o5 : List AJ := [.o ⟨(some 15), none, false, .fieldA 2 (.t 2), none⟩, .o ⟨(some 16), none, false, .load 1 false (.t 15), none⟩, .o ⟨(some 17), none, false, .fieldA 2 (.t 3), none⟩, .o ⟨(some 18), none, false, .load 1 false (.t 17), none⟩, .o ⟨(some 19), none, false, .bin .neq (.t 16) (.t 18), (some [19])⟩]
abbrev k53_o6 : List AJ := [.o ⟨(some 4), none, false, .mv (.c (.bool false)), (some [4])⟩]
def k53_13 : ACode := .seq (.region k53_o6) .ret
def k53_14 : ACode := .cond (.t 19) k53_13 .skip
def k53_15 : ACode := .seq (.region k53_o5) k53_14
abbrev k53_o7 : List AJ := [.o ⟨(some 4), none, false, .mv (.c (.bool true)), (some [4])⟩]
def k53_17 : ACode := .seq (.region k53_o7) .ret
def k53_18 : ACode := .seq k53_15 k53_17
def k53_19 : ACode := .seq k53_10 k53_18
def k53_20 : ACode := .seq k53_5 k53_19
def k53_21 : ACode := .seq (.region k53_o0) k53_20
@[simp, simp ↓] theorem k53_3r : sR k53_3 k53_o2 .ret := yR rfl
@[simp, simp ↓] theorem k53_4r : rC k53_4 (.t 9) k53_3 .skip := zC rfl
@[simp, simp ↓] theorem k53_5r : sR k53_5 k53_o1 k53_4 := yR rfl
@[simp, simp ↓] theorem k53_8r : sR k53_8 k53_o4 .ret := yR rfl
@[simp, simp ↓] theorem k53_9r : rC k53_9 (.t 14) k53_8 .skip := zC rfl
@[simp, simp ↓] theorem k53_10r : sR k53_10 k53_o3 k53_9 := yR rfl
@[simp, simp ↓] theorem k53_13r : sR k53_13 k53_o6 .ret := yR rfl
@[simp, simp ↓] theorem k53_14r : rC k53_14 (.t 19) k53_13 .skip := zC rfl
@[simp, simp ↓] theorem k53_15r : sR k53_15 k53_o5 k53_14 := yR rfl
@[simp, simp ↓] theorem k53_17r : sR k53_17 k53_o7 .ret := yR rfl
@[simp, simp ↓] theorem k53_18r : rS k53_18 k53_15 k53_17 := zS rfl
@[simp, simp ↓] theorem k53_19r : rS k53_19 k53_10 k53_18 := zS rfl
@[simp, simp ↓] theorem k53_20r : rS k53_20 k53_5 k53_19 := zS rfl
@[simp, simp ↓] theorem k53_21r : sR k53_21 k53_o0 k53_20 := yR rfl
noncomputable abbrev k53_C : Orc → Cx := mkC Tryd.prog [] 53 20 [.tmp 4]
theorem k53_of0 : OfP0 Tryd.prog Tryd.f53 53 20 k53_C k53_21 := @ofP0 _ _ _ _ _ _ _ _ Tryd.func53 (by decide +kernel) rfl (by kernel_rfl) rfl (by kernel_rfl)
theorem eqTurn_c (x y : T) (h : Heap) : ACalls Tryd.prog 53 [x.av, y.av] h (fun v h' => v = .bool (decide (x = y)) ∧ h' = h) := by
  refine k53_of0 rfl noPure fun I => ?_
  cases x; cases y
  refine Run2.of I 1000 ?_
  simp -implicitDefEqProofs
  grind
noncomputable def o_eqTurn : List AV → Option (Prop × AV) := tab (fun (x : Int × Int × Int × Int × Int × Int) => match x with | (f, t, s, f', t', s') => [.agg [.int .i64 f, .int .i64 t, .int .i64 s], .agg [.int .i64 f', .int .i64 t', .int .i64 s']]) (fun x => match x with | (f, t, s, f', t', s') => True) (fun x => match x with | (f, t, s, f', t', s') => .bool (decide ((⟨f, t, s⟩ : T) = ⟨f', t', s'⟩)))
@[simp] theorem o_eqTurn_e (f : Int) (t : Int) (s : Int) (f' : Int) (t' : Int) (s' : Int) : o_eqTurn [.agg [.int .i64 f, .int .i64 t, .int .i64 s], .agg [.int .i64 f', .int .i64 t', .int .i64 s']] = some (True, .bool (decide ((⟨f, t, s⟩ : T) = ⟨f', t', s'⟩))) := tab_at (enc := fun (x : Int × Int × Int × Int × Int × Int) => match x with | (f, t, s, f', t', s') => [.agg [.int .i64 f, .int .i64 t, .int .i64 s], .agg [.int .i64 f', .int .i64 t', .int .i64 s']]) (fun x y h => by
  obtain ⟨f1, t1, s1, f'1, t'1, s'1⟩ := x; obtain ⟨f2, t2, s2, f'2, t'2, s'2⟩ := y; simp at h; simp [h] <;> omega) _ _ (f, t, s, f', t', s')
theorem o_eqTurn_k : Knows Tryd.prog 53 o_eqTurn := tab_knows fun x hx h => by
  obtain ⟨f, t, s, f', t', s'⟩ := x; exact eqTurn_c ⟨f, t, s⟩ ⟨f', t', s'⟩ h
abbrev k30_o0 : List AJ := [.o ⟨(some 4), none, false, .mv (.c (.bool false)), (some [0, 1])⟩]
abbrev k30_o1 : List AJ := [.o ⟨(some 6), none, false, .mv (.t 0), none⟩, .o ⟨(some 7), none, false, .len (.t 6), none⟩, .o ⟨(some 8), none, false, .mv (.t 1), none⟩, .o ⟨(some 9), none, false, .len (.t 8), none⟩, .o ⟨(some 10), none, false, .bin .neq (.t 7) (.t 9), (some [0, 1, 10])⟩]
abbrev k30_o2 : List AJ := [.o ⟨(some 4), none, false, .mv (.c (.bool false)), (some [4])⟩]
def k30_3 : ACode := .seq (.region k30_o2) .ret
def k30_4 : ACode := .cond (.t 10) k30_3 .skip
def k30_5 : ACode := .seq (.region k30_o1) k30_4
abbrev k30_o3 : List AJ := [.o ⟨(some 5), none, false, .mv (.c (.int .i64 0)), (some [0, 1, 5])⟩]
abbrev k30_o4 : List AJ := [.o ⟨(some 11), none, false, .mv (.t 5), none⟩, .o ⟨(some 12), none, false, .mv (.t 0), none⟩, .o ⟨(some 13), none, false, .len (.t 12), none⟩, .o ⟨(some 14), none, false, .bin .lss (.t 11) (.t 13), (some [0, 1, 5, 14])⟩]
def k30_8 : ACode := .cond (.t 14) .skip (.exit 0)
def k30_9 : ACode := .seq (.region k30_o4) k30_8
abbrev k30_o5 : List AI := [⟨(some 17), none, false, .mv (.t 0), none⟩, ⟨(some 18), none, false, .mv (.t 5), none⟩, ⟨(some 19), none, false, .idxA 3 (.t 17) (.t 18), none⟩, ⟨(some 20), none, false, .load 3 true (.t 19), none⟩, ⟨(some 21), none, false, .mv (.t 1), none⟩, ⟨(some 22), none, false, .mv (.t 5), none⟩, ⟨(some 23), none, false, .idxA 3 (.t 21) (.t 22), none⟩, ⟨(some 24), none, false, .load 3 true (.t 23), none⟩, ⟨(some 25), none, false, .call 53 [(.t 20), (.t 24)], none⟩, ⟨(some 26), none, false, .un .not (.t 25), (some [0, 1, 5, 26])⟩]
abbrev k30_o6 : List AJ := [.o ⟨(some 4), none, false, .mv (.c (.bool false)), (some [4])⟩]
def k30_12 : ACode := .seq (.region k30_o6) .ret
def k30_13 : ACode := .cond (.t 26) k30_12 .skip
def k30_14 : ACode := .seq (.draw k30_o5 [] rfl) k30_13
abbrev k30_o7 : List AJ := [.o ⟨(some 15), none, false, .mv (.t 5), none⟩, .o ⟨(some 16), none, true, .bin .add (.t 15) (.c (.int .i64 1)), none⟩, .o ⟨(some 5), none, false, .mv (.t 16), (some [0, 1, 5])⟩]
def k30_16 : ACode := .region k30_o7
def k30_17 : ACode := .seq (.block 1 k30_14) k30_16
def k30_18 : ACode := .seq k30_9 k30_17
def k30_19 : ACode := .loop k30_18
def k30_20 : ACode := .block 0 k30_19
def k30_21 : ACode := .seq (.region k30_o3) k30_20
abbrev k30_o8 : List AJ := [.o ⟨(some 4), none, false, .mv (.c (.bool true)), (some [4])⟩]
def k30_23 : ACode := .seq (.region k30_o8) .ret
def k30_24 : ACode := .seq k30_21 k30_23
def k30_25 : ACode := .seq k30_5 k30_24
def k30_26 : ACode := .seq (.region k30_o0) k30_25
@[simp, simp ↓] theorem k30_3r : sR k30_3 k30_o2 .ret := yR rfl
@[simp, simp ↓] theorem k30_4r : rC k30_4 (.t 10) k30_3 .skip := zC rfl
@[simp, simp ↓] theorem k30_5r : sR k30_5 k30_o1 k30_4 := yR rfl
@[simp, simp ↓] theorem k30_8r : rC k30_8 (.t 14) .skip (.exit 0) := zC rfl
@[simp, simp ↓] theorem k30_9r : sR k30_9 k30_o4 k30_8 := yR rfl
@[simp, simp ↓] theorem k30_12r : sR k30_12 k30_o6 .ret := yR rfl
@[simp, simp ↓] theorem k30_13r : rC k30_13 (.t 26) k30_12 .skip := zC rfl
@[simp, simp ↓] theorem k30_14r : sD k30_14 k30_o5 [] k30_13 := yD rfl
@[simp, simp ↓] theorem k30_16r : rR k30_16 k30_o7 := zR rfl
@[simp, simp ↓] theorem k30_17r : sB k30_17 1 k30_14 k30_16 := yB rfl
@[simp, simp ↓] theorem k30_18r : rS k30_18 k30_9 k30_17 := zS rfl
@[simp, simp ↓] theorem k30_19r : rL k30_19 k30_18 := zL rfl
@[simp, simp ↓] theorem k30_20r : rB k30_20 0 k30_19 := zB rfl
@[simp, simp ↓] theorem k30_21r : sR k30_21 k30_o3 k30_20 := yR rfl
@[simp, simp ↓] theorem k30_23r : sR k30_23 k30_o8 .ret := yR rfl
@[simp, simp ↓] theorem k30_24r : rS k30_24 k30_21 k30_23 := zS rfl
@[simp, simp ↓] theorem k30_25r : rS k30_25 k30_5 k30_24 := zS rfl
@[simp, simp ↓] theorem k30_26r : sR k30_26 k30_o0 k30_25 := yR rfl
noncomputable abbrev k30_C : Orc → Cx := mkC Tryd.prog [] 30 27 [.tmp 4]
theorem k30_of0 : OfP0 Tryd.prog Tryd.f30 30 27 k30_C k30_26 := @ofP0 _ _ _ _ _ _ _ _ Tryd.func30 (by decide +kernel) rfl (by kernel_rfl) rfl (by kernel_rfl)
theorem eqTurnS_c (l m : List T) (h : Heap) (hl : l.length ≤ 1048576) : ACalls Tryd.prog 30 [.snap 3 (l.map T.av), .snap 3 (m.map T.av)] h (fun v h' => v = .bool (decide (l = m)) ∧ h' = h) := by
  refine k30_of0 rfl (lk_pure o_eqTurn_k lk_pure0) fun I => ?_
  refine Run2.of I 1000 ?_
  simp -implicitDefEqProofs
  refine ⟨by rintro hne rfl; exact hne rfl, fun hlen => ?_⟩
  refine Run2.loop (fun i => [(0, .snap 3 (l.map T.av)), (1, .snap 3 (m.map T.av)), (5, .int .i64 (i : Nat))]) (fun i => h) (fun i => l.length - i) (fun i => i ≤ l.length ∧ l.take i = m.take i) 0 (by simp) fun i hi ih => ?_
  by_cases hlt : i < l.length
  · have hlt' : i < m.length := by omega
    refine Run2.of I 1000 ?_
    simp -implicitDefEqProofs [hlt, hlt']
    constructor
    · rintro hne rfl
      exact hne rfl
    · intro he
      refine ⟨by omega, ?_⟩
      have := ih (i + 1) ⟨by omega, by rw [List.take_succ_eq_append_getElem hlt, List.take_succ_eq_append_getElem hlt', hi.2, he]⟩ (by omega)
      simpa using this
  · refine Run2.of I 1000 ?_
    simp -implicitDefEqProofs [hlt]
    have : i = l.length := by omega
    have h2 := hi.2
    rw [List.take_of_length_le (by omega), List.take_of_length_le (by omega)] at h2
    exact h2
abbrev k12_o0 : List AJ := [.o ⟨(some 2), none, false, .box false 3 (.t 0), none⟩, .o ⟨(some 3), none, false, .box false 3 (.t 1), none⟩, .o ⟨(some 4), none, false, .mv (.c (.bool false)), (some [2, 3])⟩]
abbrev k12_o1 : List AJ := [.o ⟨(some 5), none, false, .fieldA 0 (.t 2), none⟩, .o ⟨(some 6), none, false, .load 1 false (.t 5), none⟩, .o ⟨(some 7), none, false, .fieldA 0 (.t 3), none⟩, .o ⟨(some 8), none, false, .load 1 false (.t 7), none⟩, .o ⟨(some 9), none, false, .bin .neq (.t 6) (.t 8), (some [2, 3, 9])⟩]
abbrev k12_o2 : List AJ := [.o ⟨(some 4), none, false, .mv (.c (.bool false)), (some [4])⟩]
def k12_3 : ACode := .seq (.region k12_o2) .ret
def k12_4 : ACode := .cond (.t 9) k12_3 .skip
def k12_5 : ACode := .seq (.region k12_o1) k12_4
abbrev k12_o3 : List AJ := [.o ⟨(some 10), none, false, .fieldA 1 (.t 2), none⟩, .o ⟨(some 11), none, false, .load 1 false (.t 10), none⟩, .o ⟨(some 12), none, false, .fieldA 1 (.t 3), none⟩, .o ⟨(some 13), none, false, .load 1 false (.t 12), none⟩, .o ⟨(some 14), none, false, .bin .neq (.t 11) (.t 13), (some [2, 3, 14])⟩]
abbrev k12_o4 : List AJ := [.o ⟨(some 4), none, false, .mv (.c (.bool false)), (some [4])⟩]
def k12_8 : ACode := .seq (.region k12_o4) .ret
def k12_9 : ACode := .cond (.t 14) k12_8 .skip
def k12_10 : ACode := .seq (.region k12_o3) k12_9
abbrev k12_o5 : List AJ := [.o ⟨(some 15), none, false, .fieldA 2 (.t 2), none⟩, .o ⟨(some 16), none, false, .load 1 false (.t 15), none⟩, .o ⟨(some 17), none, false, .fieldA 2 (.t 3), none⟩, .o ⟨(some 18), none, false, .load 1 false (.t 17), none⟩, .o ⟨(some 19), none, false, .call 30 [(.t 16), (.t 18)], none⟩, .o ⟨(some 20), none, false, .un .not (.t 19), (some [20])⟩]
abbrev k12_o6 : List AJ := [.o ⟨(some 4), none, false, .mv (.c (.bool false)), (some [4])⟩]
def k12_13 : ACode := .seq (.region k12_o6) .ret
def k12_14 : ACode := .cond (.t 20) k12_13 .skip
def k12_15 : ACode := .seq (.region k12_o5) k12_14
abbrev k12_o7 : List AJ := [.o ⟨(some 4), none, false, .mv (.c (.bool true)), (some [4])⟩]
def k12_17 : ACode := .seq (.region k12_o7) .ret
def k12_18 : ACode := .seq k12_15 k12_17
def k12_19 : ACode := .seq k12_10 k12_18
def k12_20 : ACode := .seq k12_5 k12_19
def k12_21 : ACode := .seq (.region k12_o0) k12_20
@[simp, simp ↓] theorem k12_3r : sR k12_3 k12_o2 .ret := yR rfl
@[simp, simp ↓] theorem k12_4r : rC k12_4 (.t 9) k12_3 .skip := zC rfl
@[simp, simp ↓] theorem k12_5r : sR k12_5 k12_o1 k12_4 := yR rfl
@[simp, simp ↓] theorem k12_8r : sR k12_8 k12_o4 .ret := yR rfl
@[simp, simp ↓] theorem k12_9r : rC k12_9 (.t 14) k12_8 .skip := zC rfl
@[simp, simp ↓] theorem k12_10r : sR k12_10 k12_o3 k12_9 := yR rfl
@[simp, simp ↓] theorem k12_13r : sR k12_13 k12_o6 .ret := yR rfl
@[simp, simp ↓] theorem k12_14r : rC k12_14 (.t 20) k12_13 .skip := zC rfl
@[simp, simp ↓] theorem k12_15r : sR k12_15 k12_o5 k12_14 := yR rfl
@[simp, simp ↓] theorem k12_17r : sR k12_17 k12_o7 .ret := yR rfl
@[simp, simp ↓] theorem k12_18r : rS k12_18 k12_15 k12_17 := zS rfl
@[simp, simp ↓] theorem k12_19r : rS k12_19 k12_10 k12_18 := zS rfl
@[simp, simp ↓] theorem k12_20r : rS k12_20 k12_5 k12_19 := zS rfl
@[simp, simp ↓] theorem k12_21r : sR k12_21 k12_o0 k12_20 := yR rfl
noncomputable abbrev k12_C : Orc → Cx := mkC Tryd.prog [] 12 21 [.tmp 4]
theorem k12_of0 : OfP0 Tryd.prog Tryd.f12 12 21 k12_C k12_21 := @ofP0 _ _ _ _ _ _ _ _ Tryd.func12 (by decide +kernel) rfl (by kernel_rfl) rfl (by kernel_rfl)
theorem eqPhases_c (x y : Ph) (h : Heap) (hl : x.ts.length ≤ 1048576) : ACalls Tryd.prog 12 [x.av, y.av] h (fun v h' => v = .bool (decide (x = y)) ∧ h' = h) := by
  refine k12_of0 rfl noPure fun I => ?_
  cases x; cases y
  refine Run2.of I 1000 ?_
  simp -implicitDefEqProofs
  refine ⟨by grind, fun h1 => ⟨by grind, fun h2 => ?_⟩⟩
  refine (eqTurnS_c _ _ _ hl).mono ?_
  rintro v h' ⟨rfl, rfl⟩
  refine gK.go ?_
  simp -implicitDefEqProofs [h1, h2]
/-! ## In the laws: with other memory about -/
theorem eqPh_own {w u : AV} {x y : Ph} {g h : Heap} (o : OwnPh w x g) (hu : IsPh u y) (hs : ∀ p ∈ g, p ∈ h) (hl : x.ts.length ≤ 1048576) : ACalls Tryd.prog 12 [w, u] h (fun r h' => r = .bool (decide (x = y)) ∧ h' = h) := by
  refine ACalls.reads g hs ?_ rfl
  rw [lend_cons, lend_cons, lend_nil', lend1_cold g hu.cold]
  exact ACalls.wk (.cons o.lent.wk (.cons hu.wk .nil)) (eqPhases_c x y [] hl)
theorem heldPh_own {w : AV} {x : Ph} {g h : Heap} (o : OwnPh w x g) (hs : ∀ p ∈ g, p ∈ h) (k : Int) (hk : 0 ≤ k ∧ k ≤ 1099511627776) (hl : x.ts.length ≤ 1073741824) : ACalls Tryd.prog 14 [w, .int .i64 k] h (fun r h' => r = .int .i64 (if x.ts = marksT k x.ts.length then k + 3 * x.ts.length else -1) ∧ h' = h) := by
  refine ACalls.reads g hs ?_ rfl
  rw [lend_cons, lend_cons, lend_nil', lend1_cold g (x := .int .i64 k) rfl]
  exact heldPhases_c o.lent k [] hk hl
theorem markPh_drop {w : AV} {x : Ph} {g h : Heap} (o : OwnPh w x g) (keep : Heap) (hs : ∀ p ∈ g, p ∈ h) (hk : ∀ p ∈ keep, p ∈ h ∧ p.1 ∉ dom g) (nk : (dom h).Nodup → (dom keep).Nodup) (k : Int) (hk1 : 0 ≤ k ∧ k ≤ 1099511627776) (hl : x.ts.length ≤ 1073741824) : ACalls Tryd.prog 13 [w, .int .i64 k] h (fun r h' => r = .int .i64 (k + 3 * x.ts.length) ∧ h' = keep) :=
  ACalls.marks g keep o.nodup hs hk nk (S := fun h' => OwnPh w ⟨x.n, x.m, marksT k x.ts.length⟩ h') (markPhases_o o k hk1 hl) ⟨rfl, fun h' ho => ho.own.2⟩
theorem markPh_keep {w : AV} {x : Ph} {g h : Heap} (o : OwnPh w x g) (keep : Heap) (hs : ∀ p ∈ g, p ∈ h) (hk : ∀ p ∈ keep, p ∈ h ∧ p.1 ∉ dom g) (nk : (dom h).Nodup → (dom keep).Nodup) (k : Int) (hk1 : 0 ≤ k ∧ k ≤ 1099511627776) (hl : x.ts.length ≤ 1073741824) : ACalls Tryd.prog 13 [w, .int .i64 k] h (fun r h' => ∃ g', r = .int .i64 (k + 3 * x.ts.length) ∧ OwnPh w ⟨x.n, x.m, marksT k x.ts.length⟩ g' ∧ h' = g' ++ keep) :=
  (ACalls.frame g [] keep o.nodup hs (by simp) hk nk (S := fun v h' => v = .int .i64 (k + 3 * x.ts.length) ∧ OwnPh w ⟨x.n, x.m, marksT k x.ts.length⟩ h') (by simpa [lend] using markPhases_o o k hk1 hl) (fun v h' e => by obtain ⟨rfl, e⟩ := e; exact ⟨rfl, e.own.2⟩)).mono fun v h' ⟨g', ⟨e1, e2⟩, _, e3⟩ => ⟨g', e1, e2, e3⟩
theorem Ph.is (x : Ph) : IsPh x.av x := ⟨_, rfl, .snap _⟩
noncomputable def o_eqPhases : List AV → Option (Prop × AV) := tab (fun (x : Int × Int × List T × Int × Int × List T) => match x with | (n, m, ts, n', m', ts') => [.agg [.int .i64 n, .int .i64 m, .snap 3 (ts.map T.av)], .agg [.int .i64 n', .int .i64 m', .snap 3 (ts'.map T.av)]]) (fun x => match x with | (n, m, ts, n', m', ts') => ts.length ≤ 1048576) (fun x => match x with | (n, m, ts, n', m', ts') => .bool (decide ((⟨n, m, ts⟩ : Ph) = ⟨n', m', ts'⟩)))
@[simp] theorem o_eqPhases_e (n : Int) (m : Int) (ts : List T) (n' : Int) (m' : Int) (ts' : List T) : o_eqPhases [.agg [.int .i64 n, .int .i64 m, .snap 3 (ts.map T.av)], .agg [.int .i64 n', .int .i64 m', .snap 3 (ts'.map T.av)]] = some (ts.length ≤ 1048576, .bool (decide ((⟨n, m, ts⟩ : Ph) = ⟨n', m', ts'⟩))) := tab_at (enc := fun (x : Int × Int × List T × Int × Int × List T) => match x with | (n, m, ts, n', m', ts') => [.agg [.int .i64 n, .int .i64 m, .snap 3 (ts.map T.av)], .agg [.int .i64 n', .int .i64 m', .snap 3 (ts'.map T.av)]]) (fun x y h => by
  obtain ⟨n1, m1, ts1, n'1, m'1, ts'1⟩ := x; obtain ⟨n2, m2, ts2, n'2, m'2, ts'2⟩ := y; simp at h; simp [h] <;> omega) _ _ (n, m, ts, n', m', ts')
theorem o_eqPhases_k : Knows Tryd.prog 12 o_eqPhases := tab_knows fun x hx h => by
  obtain ⟨n, m, ts, n', m', ts'⟩ := x; exact eqPhases_c ⟨n, m, ts⟩ ⟨n', m', ts'⟩ h hx
end Go.AG.P
