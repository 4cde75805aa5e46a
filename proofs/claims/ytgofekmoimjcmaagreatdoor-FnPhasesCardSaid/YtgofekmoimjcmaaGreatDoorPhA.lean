/- Phases as plain data, and what the set's own helpers of phases do: they copy, compare and count. No statement is made here. -/
import Derived.Test.YtgofekmoimjcmaaGreatDoorRows
import Derived.Test.YtgofekmoimjcmaaGreatDoorIntS
namespace Go.AG.P
open Go.Proofs Go.Proofs.YtgofekmoimjcmaaGreatDoor
set_option linter.unusedSimpArgs false
set_option linter.unusedVariables false
set_option maxRecDepth 4000
structure T where
  f : Int
  t : Int
  s : Int
  deriving DecidableEq, Inhabited
@[simp] def T.av (x : T) : AV := .agg [.int .i64 x.f, .int .i64 x.t, .int .i64 x.s]
def T.ok (x : T) : Prop := in64 x.f ∧ in64 x.t ∧ in64 x.s
structure Ph where
  n : Int
  m : Int
  ts : List T
  deriving DecidableEq
@[simp] def Ph.av (x : Ph) : AV := .agg [.int .i64 x.n, .int .i64 x.m, .snap 3 (x.ts.map T.av)]
def Ph.ok (x : Ph) : Prop := in64 x.n ∧ in64 x.m ∧ ∀ t ∈ x.ts, t.ok
theorem T.ext' {x y : T} (h1 : x.f = y.f) (h2 : x.t = y.t) (h3 : x.s = y.s) : x = y := by
  cases x; cases y; simp at h1 h2 h3; simp [h1, h2, h3]
theorem T.av_inj {x y : T} (h : x.av = y.av) : x = y := by
  simp at h; exact T.ext' h.1 h.2.1 h.2.2
@[simp] theorem Ts_inj (l m : List T) : (l.map T.av = m.map T.av) ↔ l = m := ⟨fun h => List.map_inj_right (fun _ _ => T.av_inj) |>.1 h, fun h => by rw [h]⟩
@[simp] theorem T_eta (x : T) : (⟨x.f, x.t, x.s⟩ : T) = x := rfl
@[simp] theorem Ph_eta (x : Ph) : (⟨x.n, x.m, x.ts⟩ : Ph) = x := rfl
def tz : AV := .agg [.int .i64 0, .int .i64 0, .int .i64 0]
def tyT : Ty := .struct (.cons (.int .i64) (.cons (.int .i64) (.cons (.int .i64) .nil)))
def tyPh : Ty := .struct (.cons (.int .i64) (.cons (.int .i64) (.cons (.slice tyT) .nil)))
theorem T_of_shape {x : AV} (h : isAgg x = tyT.isS ∧ shC tyT (cellsOf x)) : ∃ t : T, x = t.av ∧ t.ok := by
  obtain ⟨h1, a1, b1, e1, ⟨n1, rfl, r1⟩, a2, b2, rfl, ⟨n2, rfl, r2⟩, a3, b3, rfl, ⟨n3, rfl, r3⟩, h3⟩ := h
  have h3' : b3 = [] := h3
  subst h3'
  cases x <;> simp [isAgg, tyT, Ty.isS] at h1
  rename_i l
  refine ⟨⟨n1, n2, n3⟩, ?_, r1, r2, r3⟩
  simp only [cellsOf] at e1
  rw [e1]; rfl
theorem Ts_of_shape : ∀ {xs : List AV}, (∀ x ∈ xs, isAgg x = tyT.isS ∧ shC tyT (cellsOf x)) → ∃ ts : List T, xs = ts.map T.av ∧ ∀ t ∈ ts, t.ok
  | [], _ => ⟨[], rfl, by simp⟩
  | x :: xs, h => by
    obtain ⟨t, rfl, ht⟩ := T_of_shape (h x (List.mem_cons_self ..))
    obtain ⟨ts, rfl, hts⟩ := Ts_of_shape (xs := xs) fun y hy => h y (List.mem_cons_of_mem _ hy)
    exact ⟨t :: ts, rfl, by simpa using ⟨ht, hts⟩⟩
def Ph.wf (p : Ph) : Prop := p.ok ∧ p.ts.length ≤ 9223372036854775807
theorem Ph_of_shape {x : AV} (h : shV tyPh x) : ∃ p : Ph, x = p.av ∧ p.wf := by
  obtain ⟨h1, a1, b1, e1, ⟨n1, rfl, r1⟩, a2, b2, rfl, ⟨n2, rfl, r2⟩, a3, b3, rfl, ⟨xs, rfl, hlen, r3⟩, h3⟩ := h
  have hm : maxLen ≤ 9223372036854775807 := by decide
  have h3' : b3 = [] := h3
  subst h3'
  obtain ⟨ts, rfl, hts⟩ := Ts_of_shape r3
  cases x <;> simp [isAgg, tyPh, Ty.isS] at h1
  rename_i l
  refine ⟨⟨n1, n2, ts⟩, ?_, ⟨r1, r2, hts⟩, by simp only [List.length_map] at hlen; exact Nat.le_trans hlen hm⟩
  simp only [cellsOf] at e1
  rw [e1]; rfl

@[simp] theorem T.cold (x : T) : Go.AG.cold x.av = true := rfl
@[simp] theorem T.own (x : T) : Go.AG.own x.av = true := rfl
/-- v is phases whose edges stand in a block of its own. -/
def OwnPh (v : AV) (x : Ph) (hp : Heap) : Prop := ∃ u, v = .agg [.int .i64 x.n, .int .i64 x.m, u] ∧ OwnL T.av 3 u x.ts hp
/-- v is phases that nobody writes. -/
def IsPh (v : AV) (x : Ph) : Prop := ∃ u, v = .agg [.int .i64 x.n, .int .i64 x.m, u] ∧ IsL T.av 3 u x.ts
theorem IsPh.wk {v : AV} {x : Ph} (h : IsPh v x) : Wk v x.av := by
  obtain ⟨u, rfl, hu⟩ := h
  exact Wk.agg (.cons (.refl _) (.cons (.refl _) (.cons hu.wk .nil)))
theorem IsPh.cold {v : AV} {x : Ph} (h : IsPh v x) : Go.AG.cold v = true := by
  obtain ⟨u, rfl, hu⟩ := h
  simp [Go.AG.cold, colds, hu.cold T.cold]
theorem lend1_agg3 (L : Heap) (a b : Int) (u : AV) : lend1 L (.agg [.int .i64 a, .int .i64 b, u]) = .agg [.int .i64 a, .int .i64 b, lend1 L u] := by
  induction L generalizing u with
  | nil => rfl
  | cons p L ih => simp only [lend1, fz, fzs]; exact ih _
theorem OwnPh.lent {v : AV} {x : Ph} {hp : Heap} (h : OwnPh v x hp) : IsPh (lend1 hp v) x := by
  obtain ⟨u, rfl, hu⟩ := h
  exact ⟨_, lend1_agg3 hp _ _ u, hu.lent⟩
theorem OwnPh.lentIn {v : AV} {x : Ph} {hp : Heap} (h : OwnPh v x hp) {L : Heap} (hs : ∀ p ∈ hp, p ∈ L) (nd : (dom L).Nodup) : IsPh (lend1 L v) x := by
  obtain ⟨u, rfl, hu⟩ := h
  exact ⟨_, lend1_agg3 L _ _ u, hu.lentIn T.cold hs nd⟩
theorem OwnPh.own {v : AV} {x : Ph} {hp : Heap} (h : OwnPh v x hp) : Go.AG.own v = true ∧ (hp.all fun p => p.2.l.all Go.AG.own) = true := by
  obtain ⟨u, rfl, hu⟩ := h
  exact ⟨by simp [Go.AG.own, owns, (hu.own T.own).1], (hu.own T.own).2⟩
theorem OwnPh.nodup {v : AV} {x : Ph} {hp : Heap} (h : OwnPh v x hp) : (dom hp).Nodup := by
  obtain ⟨u, rfl, hu⟩ := h
  exact hu.nodup
def marksT (k : Int) (n : Nat) : List T := (List.range n).map fun i => ⟨k + 3 * (i : Nat), k + 3 * (i : Nat) + 1, k + 3 * (i : Nat) + 1 + 1⟩
@[simp] theorem marksT_length (k : Int) (n : Nat) : (marksT k n).length = n := by simp [marksT]
theorem marksT_succ (k : Int) (n : Nat) : marksT k (n + 1) = marksT k n ++ [⟨k + 3 * n, k + 3 * n + 1, k + 3 * n + 1 + 1⟩] := by simp [marksT, List.range_succ]
theorem marksT_get (k : Int) (n i : Nat) (h : i < (marksT k n).length) : (marksT k n)[i] = ⟨k + 3 * i, k + 3 * i + 1, k + 3 * i + 1 + 1⟩ := by simp [marksT]
theorem markT_step (l : List T) (ex : List AV) (k : Int) (i : Nat) (hi : i < l.length) : ((marksT k i).map T.av ++ (l.drop i).map T.av ++ ex).set i (T.av ⟨k + 3 * i, k + 3 * i + 1, k + 3 * i + 1 + 1⟩) = (marksT k (i + 1)).map T.av ++ (l.drop (i + 1)).map T.av ++ ex := by
  rw [List.drop_eq_getElem_cons hi, marksT_succ]
  simp only [List.map_cons, List.map_append, List.map_nil, List.append_assoc, List.cons_append, List.nil_append]
  rw [List.set_append_right _ _ (by simp)]
  simp

/-! ## In the laws: with other memory about -/
theorem Ph.is (x : Ph) : IsPh x.av x := ⟨_, rfl, .snap _⟩

end Go.AG.P
