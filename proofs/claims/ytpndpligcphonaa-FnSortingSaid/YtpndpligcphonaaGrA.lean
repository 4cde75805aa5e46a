/- Graphs as plain data, and what the set's own helpers of graphs do: they copy, compare and count. No statement is made here. -/
import Derived.Test.YtpndpligcphonaaRows
import Derived.Test.YtpndpligcphonaaAGInts
namespace Go.AG
open Go.Proofs Go.Proofs.Ytpndpligcphonaa
set_option linter.unusedSimpArgs false
set_option linter.unusedVariables false
set_option maxRecDepth 4000
theorem Int_of_shape {x : AV} (h : shV (.int .i64) x) : ∃ n : Int, x = .int .i64 n ∧ in64 n := by
  obtain ⟨h1, n, e, r⟩ := h
  cases x <;> simp [isAgg, Ty.isS, cellsOf] at h1 e
  exact ⟨n, by rw [e.1, e.2], r⟩
structure T where
  f : Int
  t : Int
  s : Int
  deriving DecidableEq, Inhabited
@[simp] def T.av (x : T) : AV := .agg [.int .i64 x.f, .int .i64 x.t, .int .i64 x.s]
def T.ok (x : T) : Prop := in64 x.f ∧ in64 x.t ∧ in64 x.s
theorem T.ext' {x y : T} (h1 : x.f = y.f) (h2 : x.t = y.t) (h3 : x.s = y.s) : x = y := by
  cases x; cases y; simp at h1 h2 h3; simp [h1, h2, h3]
theorem T.av_inj {x y : T} (h : x.av = y.av) : x = y := by
  simp at h; exact T.ext' h.1 h.2.1 h.2.2
@[simp] theorem Ts_inj (l m : List T) : (l.map T.av = m.map T.av) ↔ l = m := ⟨fun h => List.map_inj_right (fun _ _ => T.av_inj) |>.1 h, fun h => by rw [h]⟩
@[simp] theorem T_eta (x : T) : (⟨x.f, x.t, x.s⟩ : T) = x := rfl
@[simp] theorem T.cold (x : T) : Go.AG.cold x.av = true := rfl
@[simp] theorem T.own (x : T) : Go.AG.own x.av = true := rfl
def tz : AV := .agg [.int .i64 0, .int .i64 0, .int .i64 0]
def tyT : Ty := .struct (.cons (.int .i64) (.cons (.int .i64) (.cons (.int .i64) .nil)))
theorem T_of_shape {x : AV} (h : isAgg x = tyT.isS ∧ shC tyT (cellsOf x)) : ∃ t : T, x = t.av ∧ t.ok := by
  obtain ⟨h1, a1, b1, e1, ⟨n1, rfl, r1⟩, a2, b2, rfl, ⟨n2, rfl, r2⟩, a3, b3, rfl, ⟨n3, rfl, r3⟩, h3⟩ := h
  have h3' : b3 = [] := h3
  subst h3'
  cases x <;> simp [isAgg, tyT, Ty.isS] at h1
  rename_i l
  refine ⟨⟨n1, n2, n3⟩, ?_, r1, r2, r3⟩
  simp only [cellsOf] at e1
  rw [e1]; rfl
theorem Ts_of_shape : ∀ {xs : List AV}, (∀ x ∈ xs, isAgg x = tyT.isS ∧ shC tyT (cellsOf x)) → ∃ ts : List T, xs = ts.map T.av ∧ ∀ t ∈ ts, t.ok
  | [], _ => ⟨[], rfl, by simp⟩
  | x :: xs, h => by
    obtain ⟨t, rfl, ht⟩ := T_of_shape (h x (List.mem_cons_self ..))
    obtain ⟨ts, rfl, hts⟩ := Ts_of_shape (xs := xs) fun y hy => h y (List.mem_cons_of_mem _ hy)
    exact ⟨t :: ts, rfl, by simpa using ⟨ht, hts⟩⟩

structure Gr where
  n : Int
  ts : List T
  deriving DecidableEq
@[simp] def Gr.av (x : Gr) : AV := .agg [.int .i64 x.n, .snap 3 (x.ts.map T.av)]
def Gr.ok (x : Gr) : Prop := in64 x.n ∧ ∀ t ∈ x.ts, t.ok
@[simp] theorem Gr_eta (x : Gr) : (⟨x.n, x.ts⟩ : Gr) = x := rfl
def tyG : Ty := .struct (.cons (.int .i64) (.cons (.slice tyT) .nil))
def Gr.wf (p : Gr) : Prop := p.ok ∧ p.ts.length ≤ 9223372036854775807
theorem Gr_of_shape {x : AV} (h : shV tyG x) : ∃ p : Gr, x = p.av ∧ p.wf := by
  obtain ⟨h1, a1, b1, e1, ⟨n1, rfl, r1⟩, a3, b3, rfl, ⟨xs, rfl, hlen, r3⟩, h3⟩ := h
  have hm : maxLen ≤ 9223372036854775807 := by decide
  have h3' : b3 = [] := h3
  subst h3'
  obtain ⟨ts, rfl, hts⟩ := Ts_of_shape r3
  cases x <;> simp [isAgg, tyG, Ty.isS] at h1
  rename_i l
  refine ⟨⟨n1, ts⟩, ?_, ⟨r1, hts⟩, by simp only [List.length_map] at hlen; exact Nat.le_trans hlen hm⟩
  simp only [cellsOf] at e1
  rw [e1]; rfl
/-- v is a graph whose edges stand in a block of its own. -/
def OwnG (v : AV) (x : Gr) (hp : Heap) : Prop := ∃ u, v = .agg [.int .i64 x.n, u] ∧ OwnL T.av 3 u x.ts hp
/-- v is a graph that nobody writes. -/
def IsG (v : AV) (x : Gr) : Prop := ∃ u, v = .agg [.int .i64 x.n, u] ∧ IsL T.av 3 u x.ts
theorem IsG.wk {v : AV} {x : Gr} (h : IsG v x) : Wk v x.av := by
  obtain ⟨u, rfl, hu⟩ := h
  exact Wk.agg (.cons (.refl _) (.cons hu.wk .nil))
theorem IsG.cold {v : AV} {x : Gr} (h : IsG v x) : Go.AG.cold v = true := by
  obtain ⟨u, rfl, hu⟩ := h
  simp [Go.AG.cold, colds, hu.cold T.cold]
theorem lend1_agg2 (L : Heap) (a : Int) (u : AV) : lend1 L (.agg [.int .i64 a, u]) = .agg [.int .i64 a, lend1 L u] := by
  induction L generalizing u with
  | nil => rfl
  | cons p L ih => simp only [lend1, fz, fzs]; exact ih _
theorem OwnG.lent {v : AV} {x : Gr} {hp : Heap} (h : OwnG v x hp) : IsG (lend1 hp v) x := by
  obtain ⟨u, rfl, hu⟩ := h
  exact ⟨_, lend1_agg2 hp _ u, hu.lent⟩
theorem OwnG.lentIn {v : AV} {x : Gr} {hp : Heap} (h : OwnG v x hp) {L : Heap} (hs : ∀ p ∈ hp, p ∈ L) (nd : (dom L).Nodup) : IsG (lend1 L v) x := by
  obtain ⟨u, rfl, hu⟩ := h
  exact ⟨_, lend1_agg2 L _ u, hu.lentIn T.cold hs nd⟩
theorem OwnG.own {v : AV} {x : Gr} {hp : Heap} (h : OwnG v x hp) : Go.AG.own v = true ∧ (hp.all fun p => p.2.l.all Go.AG.own) = true := by
  obtain ⟨u, rfl, hu⟩ := h
  exact ⟨by simp [Go.AG.own, owns, (hu.own T.own).1], (hu.own T.own).2⟩
theorem OwnG.nodup {v : AV} {x : Gr} {hp : Heap} (h : OwnG v x hp) : (dom hp).Nodup := by
  obtain ⟨u, rfl, hu⟩ := h
  exact hu.nodup

/-! ## In the laws: with other memory about -/
theorem Gr.is (x : Gr) : IsG x.av x := ⟨_, rfl, .snap _⟩



noncomputable def orcA : List (Nat × (List AV → Option (Prop × AV))) := []
theorem orcA_p : Pure Try.prog (lk orcA) := lk_pure0
@[simp] theorem orcA_l (b : Bool) (g : FuncId) (l : List AV) : lk orcA b g l = none := nr rfl
end Go.AG
