/- Our own small layer: a function's conditions, proved, are its contract; loops, and what may be forgotten or taken as read-only on the way. No statement about the program is made here. -/
import Derived.Test.YtebkdegjiollbaaAGAll
namespace Go.AG
open Go.RowKit
section
variable {C : Cx} {e : Env} {h : Heap} {w0 : World} {D0 : List Nat} {tmps : Array Value} {w : World} {R : AV → Heap → Prop} {cs : List Frame}

/-- The function that a frame runs. -/
structure Is (C : Cx) (F : Func) : Prop where
  fn : C.P.funcs[C.fn]? = some F
  res : cRes C.P F.results.toList = some C.res
  pure : Pure C.P C.orc

theorem run_head {sk sk' : List SItem} (hs : ∀ k, cItems C.P C.M C.nt k = some sk → ∃ k', cItems C.P C.M C.nt k' = some sk' ∧ ∀ tmps w cs, SRel C e h w0 D0 tmps w → Steps C.P (lone ((bF C.fn).at ⟨tmps, []⟩ k) cs w) (lone ((bF C.fn).at ⟨tmps, []⟩ k') cs w))
    (g : Run C sk' e h R) {k : List Item} (hk : cItems C.P C.M C.nt k = some sk) (S : SRel C e h w0 D0 tmps w) : Fin C w0 D0 R cs (lone ((bF C.fn).at ⟨tmps, []⟩ k) cs w) := by
  obtain ⟨k', h1, h2⟩ := hs k hk
  exact Fin.steps (h2 tmps w cs S) (g k' tmps w cs w0 D0 h1 S)

theorem cItems_mk {P : Program} {M : List Nat} {nt : Nat} {i : Item} {k : List Item} {x : SItem} {xs : List SItem} (h1 : cItem P M nt i = some x) (h2 : cItems P M nt k = some xs) : cItems P M nt (i :: k) = some (x :: xs) := by
  simp [cItems, h1, h2]

theorem cInstrs_drop (ops : Array Oper) : ∀ (os : List Oper) (is : List SI) {p : Nat}, cInstrs C.P C.M C.nt ops os = some is → cInstrs C.P C.M C.nt ops (os.drop (is.take p).length) = some (is.drop p)
  | [], is, p, hc => by simp [cInstrs] at hc; subst hc; simp [cInstrs]
  | o :: os, is, 0, hc => by simpa using hc
  | o :: os, is, p + 1, hc => by
    simp only [cInstrs] at hc
    split at hc <;> first | (cases hc; done) | skip
    rename_i i is' h1 h2
    cases hc
    have := cInstrs_drop ops os is' (p := p) h2
    simpa using this
/-- The arguments' slots. -/
def argEnv : Nat → List AV → Env
  | _, [] => []
  | j, v :: vs => (j, v) :: argEnv (j + 1) vs
theorem argEnv_get : ∀ (vs : List AV) (j t : Nat), eget (argEnv j vs) t = if j ≤ t ∧ t < j + vs.length then vs.getD (t - j) .undef else .undef
  | [], j, t => by simp [argEnv, eget]
  | v :: vs, j, t => by
    simp only [argEnv, eget]
    by_cases hjt : j = t
    · subst hjt; simp
    · rw [if_neg hjt, argEnv_get vs (j + 1) t]
      by_cases hin : j + 1 ≤ t ∧ t < j + 1 + vs.length
      · rw [if_pos hin, if_pos (by simp only [List.length_cons]; omega)]
        have : t - j = t - (j + 1) + 1 := by omega
        rw [this]; simp
      · rw [if_neg hin, if_neg (by simp only [List.length_cons]; omega)]

/-- A function's contract, from the conditions of its body. -/
theorem acalls {P : Program} {M : List Nat} {g : FuncId} {F : Func} {args : List AV} {h : Heap} {R : AV → Heap → Prop} (hf : P.funcs[g]? = some F) (hn : (F.name == "runtime.NumGoroutine") = false) {body : Code} (hb : F.body = some body) {res : List RV} (hr : cRes P F.results.toList = some res)
    (hlen : args.length ≤ F.ntmps) {orc : Orc} (hp : Pure P orc) (hk : Is ⟨P, M, g, F.ntmps, res, orc⟩ F → Run ⟨P, M, g, F.ntmps, res, orc⟩ [.code (cCode P M F.ntmps body)] (argEnv 0 args) h R) : ACalls P g args h R := by
  refine ⟨⟨F, hf, hn, by rw [hb]; rfl⟩, fun w vs H hrep => ?_⟩
  intro cs
  have henter : Frame.enter P g ⟨vs⟩ .normal = (bF g).at ⟨⟨vs⟩ ++ Array.replicate (F.ntmps - (⟨vs⟩ : Array Value).size) undef, []⟩ [.code body] := by
    simp [Frame.enter, Frame.at, hf, hb, bF]
  have hl := Reps_length hrep
  have S : SRel ⟨P, M, g, F.ntmps, res, orc⟩ (argEnv 0 args) h w (dom h) (⟨vs⟩ ++ Array.replicate (F.ntmps - (⟨vs⟩ : Array Value).size) undef) w := by
    refine ⟨fun t => ?_, by simp; omega, H, .refl _ _⟩
    rw [argEnv_get]
    split
    · rename_i hin
      have hlt : t < args.length := by omega
      obtain ⟨v, g1, g2⟩ := Reps_get hrep t args[t] (List.getElem?_eq_getElem hlt)
      have : (⟨vs⟩ ++ Array.replicate (F.ntmps - (⟨vs⟩ : Array Value).size) undef : Array Value).getD t undef = v := by
        have hlt' : t < vs.length := by omega
        simp only [Array.getD_eq_getD_getElem?]
        rw [Array.getElem?_append_left (by simpa using hlt')]
        simp [g1]
      rw [this, Nat.sub_zero]
      simpa [hlt] using g2
    · trivial
  obtain ⟨cv, w', fr, v, h', h1, h2, h3, h4, h5, h6, h7⟩ := hk ⟨hf, hr, hp⟩ [.code body] _ w cs w (dom h) rfl S
  rw [henter]
  exact ⟨.returned cv, w', fr, ⟨cv, v, h', rfl, h4, h5, h6, h7⟩, h1, h2, h3⟩

/-! ## Loops -/
theorem Run.loop {sk : List SItem} {a : SCode} {α : Type} (E : α → Env) (H : α → Heap) (μ : α → Nat) (Inv : α → Prop) (x0 : α) (h0 : Inv x0)
    (round : ∀ x, Inv x → (∀ y, Inv y → μ y < μ x → Run C (.code a :: .inLoop a :: sk) (E y) (H y) R) → Run C (.code a :: .inLoop a :: sk) (E x) (H x) R) : Run C (.code a :: .inLoop a :: sk) (E x0) (H x0) R := by
  have key : ∀ n x, μ x = n → Inv x → Run C (.code a :: .inLoop a :: sk) (E x) (H x) R := by
    intro n
    induction n using Nat.strongRecOn with
    | _ n ih => exact fun x hn hx => round x hx fun y hy hlt => ih (μ y) (hn ▸ hlt) y rfl hy
  exact key _ x0 rfl h0

/-! ## What may be forgotten -/
theorem SRel.weak {e' : Env} (S : SRel C e h w0 D0 tmps w) (he : ∀ t, eget e' t = eget e t ∨ eget e' t = .undef) : SRel C e' h w0 D0 tmps w :=
  ⟨fun t => by
    rcases he t with h | h
    · rw [h]; exact S.env t
    · rw [h]; trivial, S.size, S.heap, S.ev⟩
/-- Only these slots are kept. -/
def keep (e : Env) : List Nat → Env
  | [] => []
  | t :: ts => (t, eget e t) :: keep e ts
theorem keep_get (e : Env) : ∀ (ts : List Nat) (t : Nat), eget (keep e ts) t = eget e t ∨ eget (keep e ts) t = .undef
  | [], _ => .inr rfl
  | s :: ts, t => by
    simp only [keep, eget]
    by_cases hst : s = t
    · subst hst; rw [if_pos rfl]; exact .inl rfl
    · rw [if_neg hst]; exact keep_get e ts t
theorem Run.keep (ts : List Nat) {sk : List SItem} (g : Run C sk (keep e ts) h R) : Run C sk e h R :=
  fun k tmps w cs w0 D0 hk S => g k tmps w cs w0 D0 hk (S.weak (keep_get e ts))
theorem Run.weak {e' : Env} {sk : List SItem} (g : Run C sk e' h R) (he : ∀ t, eget e' t = eget e t ∨ eget e' t = .undef) : Run C sk e h R :=
  fun k tmps w cs w0 D0 hk S => g k tmps w cs w0 D0 hk (S.weak he)
theorem Run.drop (id : Nat) {sk : List SItem} (g : Run C sk e (hdel h id) R) : Run C sk e h R := by
  intro k tmps w cs w0 D0 hk S
  obtain ⟨H', Ev⟩ := S.heap.del id
  exact g k tmps w cs w0 D0 hk ⟨S.env.mono Ev.keeps, S.size, H', S.ev.trans Ev⟩
theorem ACalls.post_drop {P : Program} {g : FuncId} {args : List AV} (id : Nat) {R : AV → Heap → Prop} (H : ACalls P g args h fun v h' => R v (hdel h' id)) : ACalls P g args h R :=
  ⟨H.1, fun w vs hw hv => (H.2 w vs hw hv).mono fun en w' ⟨cv, v, h', e1, e2, e3, e4, e5⟩ => by
    obtain ⟨H', Ev⟩ := e3.del id
    exact ⟨cv, v, hdel h' id, e1, Rep.mono Ev.keeps _ _ e2, H', e4.trans Ev, e5⟩⟩
end
end Go.AG
