/- Slices with room behind them that are only appended to. No statement is made here. -/
import Derived.Test.YtdjamhallkijmaaAGLists2
namespace Go.AG
open Go.RowKit
set_option linter.unusedSimpArgs false
set_option linter.unusedVariables false
set_option maxRecDepth 4000
/-- A slice that is only appended to, with room behind it. -/
inductive GrowX (sz : Nat) : AV → List AV → Heap → Prop
  | nil : GrowX sz .nilsl [] []
  | sl (id : Nat) (l ex : List AV) (n : Nat) (hn : n = l.length) : GrowX sz (.sl id sz 0 n none) l [(id, ⟨sz, l ++ ex⟩)]
theorem GrowX.cell {sz : Nat} {w : AV} {l : List AV} {hp : Heap} (h : GrowX sz w l hp) : isCell w = true := by cases h <;> rfl
theorem GrowX.app {sz : Nat} {w : AV} {l new : List AV} {hp h : Heap} {C : Cx} {n : Nat} {d : Option Nat} {ks : Option (List Nat)} {is : List AJ} {sk : List AItem} {R : AV → Heap → Prop} {e : Env} {bytes : Nat} (g : GrowX sz w l hp) (hb : (2 * (l.length + new.length)) * bytes ≤ 281474976710656)
    (k : ∀ w' hp', GrowX sz w' (l ++ new) hp' → vc2 C n is sk (kp (put e d w') ks) (hp' ++ h) R) : resK C n d ks is sk R e (hp ++ h) (appR (hp ++ h) sz bytes w new) := by
  cases g with
  | nil =>
    simp only [appR_n, List.nil_append]
    refine ⟨fun he => ?_, fun _ => ⟨by simpa using hb, fun id _ => ?_⟩⟩
    · have : new = [] := by cases new <;> simp_all
      subst this
      exact k _ _ .nil
    · have := k _ _ (.sl id new [] new.length rfl)
      simpa using this
  | sl id l ex m hm =>
    subst hm
    have hd : hdel ((id, ⟨sz, l ++ ex⟩) :: h) id = h := by simp [hdel]
    rw [appR_ln]
    refine ⟨rfl, ⟨sz, l ++ ex⟩, by simp [hget], rfl, by simp, rfl, hb, fun id' _ => ?_⟩
    have := k _ _ (.sl id' (l ++ new) [] (l.length + new.length) (by simp))
    simpa [hd] using this
/-- Less of a block is told. -/
theorem HRel.trim {w : World} {b sz : Nat} {l ex : List AV} {h : Heap} (H : HRel w ((b, ⟨sz, l ++ ex⟩) :: h)) : HRel w ((b, ⟨sz, l⟩) :: h) := by
  refine ⟨H.nd, fun p hp => ?_, H.fix⟩
  rcases List.mem_cons.1 hp with rfl | hp
  · obtain ⟨c, el, e, hE⟩ := H.all (b, ⟨sz, l ++ ex⟩) (List.mem_cons_self ..)
    refine ⟨c, el, e, ?_⟩
    simp only at hE ⊢
    rw [Elems_iff] at hE ⊢
    intro i x hx
    have hi := (List.getElem?_eq_some_iff.1 hx).1
    exact hE i x (by rw [List.getElem?_append_left hi]; exact hx)
  · exact H.all p (List.mem_cons_of_mem _ hp)
theorem GrowX.trim {P : Program} {g : FuncId} {args : List AV} {h h0 : Heap} {l : List AV} {sz : Nat} (H : ACalls P g args h fun v h' => ∃ hp, GrowX sz v l hp ∧ h' = hp ++ h0) : ACalls P g args h fun v h' => ∃ hp, Grow sz v l hp ∧ h' = hp ++ h0 :=
  ⟨H.1, fun w vs hw hv => (H.2 w vs hw hv).mono fun _ w' ⟨cv, v, h', e1, e2, e3, e4, hp, e5, e6⟩ => by
    cases e5 with
    | nil => exact ⟨cv, _, h', e1, e2, e3, e4, [], .nil, e6⟩
    | sl id l ex n hn =>
      subst e6
      exact ⟨cv, _, (id, ⟨sz, l⟩) :: h0, e1, e2, e3.trim, e4, [(id, ⟨sz, l⟩)], .sl id l n hn, rfl⟩⟩
end Go.AG
