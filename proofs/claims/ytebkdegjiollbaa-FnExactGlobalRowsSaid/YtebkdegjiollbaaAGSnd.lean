/- The conditions of our own small layer are right: the theorem. No statement about the program is made here. -/
import Derived.Test.YtebkdegjiollbaaAGStep
namespace Go.AG
open Go.RowKit
section
variable {C : Cx} {e : Env} {h : Heap} {w0 : World} {D0 : List Nat} {tmps : Array Value} {w : World} {R : AV → Heap → Prop} {cs : List Frame}

theorem cItems_cons {P : Program} {M : List Nat} {nt : Nat} {k : List Item} {x : SItem} {xs : List SItem} (hk : cItems P M nt k = some (x :: xs)) : ∃ i r, k = i :: r ∧ cItem P M nt i = some x ∧ cItems P M nt r = some xs := by
  cases k with
  | nil => simp [cItems] at hk
  | cons i r =>
    simp only [cItems] at hk
    split at hk <;> first | (cases hk; done) | skip
    rename_i y ys h1 h2
    cases hk
    exact ⟨i, r, rfl, h1, h2⟩
theorem cItems_nil {P : Program} {M : List Nat} {nt : Nat} {k : List Item} (hk : cItems P M nt k = some []) : k = [] := by
  cases k with
  | nil => rfl
  | cons i r =>
    simp only [cItems] at hk
    split at hk <;> cases hk
theorem cItem_code {P : Program} {M : List Nat} {nt : Nat} {i : Item} {c : SCode} (hk : cItem P M nt i = some (.code c)) : ∃ c0, i = .code c0 ∧ cCode P M nt c0 = c := by
  cases i <;> simp [cItem] at hk
  exact ⟨_, rfl, hk⟩
theorem cItem_inBlock {P : Program} {M : List Nat} {nt : Nat} {i : Item} {id : Nat} (hk : cItem P M nt i = some (.inBlock id)) : i = .inBlock id := by
  cases i <;> simp [cItem] at hk
  rw [hk]
theorem cItem_inLoop {P : Program} {M : List Nat} {nt : Nat} {i : Item} {c : SCode} (hk : cItem P M nt i = some (.inLoop c)) : ∃ c0, i = .inLoop c0 ∧ cCode P M nt c0 = c := by
  cases i <;> simp [cItem] at hk
  exact ⟨_, rfl, hk⟩
theorem sExit_spec {P : Program} {M : List Nat} {nt : Nat} {id : Nat} : ∀ {k : List Item} {sk sk' : List SItem}, cItems P M nt k = some sk → sExit id sk = some sk' → ∃ k', exitTo id k = some k' ∧ cItems P M nt k' = some sk'
  | [], sk, sk', hk, hs => by simp [cItems] at hk; subst hk; simp [sExit] at hs
  | i :: r, sk, sk', hk, hs => by
    simp only [cItems] at hk
    split at hk <;> first | (cases hk; done) | skip
    rename_i x xs h1 h2
    cases hk
    cases i <;> simp only [cItem] at h1 <;> first | (cases h1; done) | skip
    · cases h1; simpa [exitTo] using sExit_spec h2 (by simpa [sExit] using hs)
    · cases h1
      rename_i id'
      simp only [sExit] at hs
      simp only [exitTo]
      split at hs
      · rename_i hid; cases hs; subst hid; exact ⟨r, by simp, h2⟩
      · rename_i hid
        obtain ⟨k', g1, g2⟩ := sExit_spec h2 hs
        exact ⟨k', by simp [hid, g1], g2⟩
    · cases h1; simpa [exitTo] using sExit_spec h2 (by simpa [sExit] using hs)

theorem cInstrs_all (ops : Array Oper) : ∀ (os : List Oper) (is : List SI) (j : Nat), cInstrs C.P C.M C.nt ops os = some is → ops.toList.drop j = os → AllOps C ops is (List.range' j os.length)
  | [], is, j, hc, _ => by simp [cInstrs] at hc; subst hc; rfl
  | o :: os, is, j, hc, hd => by
    simp only [cInstrs] at hc
    split at hc <;> first | (cases hc; done) | skip
    rename_i i is' h1 h2
    cases hc
    refine ⟨j, List.range' (j + 1) os.length, o, rfl, ?_, h1, cInstrs_all ops os is' (j + 1) h2 (by rw [← List.drop_drop, hd]; rfl)⟩
    have := congrArg (·[0]?) hd
    simpa using this

theorem Go.cont {is : List SI} {sk : List SItem} (g : Go C is sk e h R) {ops : Array Oper} {r : List Nat} {k : List Item} (ha : AllOps C ops is r) (hk : cItems C.P C.M C.nt k = some sk) (S : SRel C e h w0 D0 tmps w) :
    Fin C w0 D0 R cs (lone ((bF C.fn).at ⟨tmps, []⟩ (.inRegion ops r :: k)) cs w) := by
  cases is with
  | nil =>
    cases ha
    exact Fin.head step_region_end (g k tmps w cs w0 D0 hk S)
  | cons i is => exact g ops r k tmps w cs w0 D0 ha hk S

theorem SRel.know (S : SRel C e h w0 D0 tmps w) {s : Nat} {v : AV} (hv : Rep w (dom h) v (tmps.getD s undef)) : SRel C ((s, v) :: e) h w0 D0 tmps w :=
  ⟨fun t => by
    simp only [eget]
    by_cases hst : s = t
    · subst hst; rw [if_pos rfl]; exact hv
    · rw [if_neg hst]; exact S.env t, S.size, S.heap, S.ev⟩

end
end Go.AG
