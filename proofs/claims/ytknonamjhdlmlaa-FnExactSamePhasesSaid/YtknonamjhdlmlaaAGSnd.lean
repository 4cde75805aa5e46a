/- The conditions of our own small layer are right: the theorem. No statement about the program is made here. -/
import Derived.Test.YtknonamjhdlmlaaAGStep
namespace Go.AG
open Go.RowKit
section
variable {C : Cx} {e : Env} {h : Heap} {w0 : World} {D0 : List Nat} {tmps : Array Value} {w : World} {R : AV → Heap → Prop} {cs : List Frame}

theorem cItems_cons {P : Program} {M : List Nat} {nt : Nat} {k : List Item} {x : SItem} {xs : List SItem} (hk : cItems P M nt k = some (x :: xs)) : ∃ i r, k = i :: r ∧ cItem P M nt i = some x ∧ cItems P M nt r = some xs := by
  cases k with
  | nil => simp [cItems] at hk
  | cons i r =>
    simp only [cItems] at hk
    split at hk <;> first | (cases hk; done) | skip
    rename_i y ys h1 h2
    cases hk
    exact ⟨i, r, rfl, h1, h2⟩
theorem cItems_nil {P : Program} {M : List Nat} {nt : Nat} {k : List Item} (hk : cItems P M nt k = some []) : k = [] := by
  cases k with
  | nil => rfl
  | cons i r =>
    simp only [cItems] at hk
    split at hk <;> cases hk
theorem cItem_code {P : Program} {M : List Nat} {nt : Nat} {i : Item} {c : SCode} (hk : cItem P M nt i = some (.code c)) : ∃ c0, i = .code c0 ∧ cCode P M nt c0 = c := by
  cases i <;> simp [cItem] at hk
  exact ⟨_, rfl, hk⟩
theorem cItem_inBlock {P : Program} {M : List Nat} {nt : Nat} {i : Item} {id : Nat} (hk : cItem P M nt i = some (.inBlock id)) : i = .inBlock id := by
  cases i <;> simp [cItem] at hk
  rw [hk]
theorem cItem_inLoop {P : Program} {M : List Nat} {nt : Nat} {i : Item} {c : SCode} (hk : cItem P M nt i = some (.inLoop c)) : ∃ c0, i = .inLoop c0 ∧ cCode P M nt c0 = c := by
  cases i <;> simp [cItem] at hk
  exact ⟨_, rfl, hk⟩
theorem sExit_spec {P : Program} {M : List Nat} {nt : Nat} {id : Nat} : ∀ {k : List Item} {sk sk' : List SItem}, cItems P M nt k = some sk → sExit id sk = some sk' → ∃ k', exitTo id k = some k' ∧ cItems P M nt k' = some sk'
  | [], sk, sk', hk, hs => by simp [cItems] at hk; subst hk; simp [sExit] at hs
  | i :: r, sk, sk', hk, hs => by
    simp only [cItems] at hk
    split at hk <;> first | (cases hk; done) | skip
    rename_i x xs h1 h2
    cases hk
    cases i <;> simp only [cItem] at h1 <;> first | (cases h1; done) | skip
    · cases h1; simpa [exitTo] using sExit_spec h2 (by simpa [sExit] using hs)
    · cases h1
      rename_i id'
      simp only [sExit] at hs
      simp only [exitTo]
      split at hs
      · rename_i hid; cases hs; subst hid; exact ⟨r, by simp, h2⟩
      · rename_i hid
        obtain ⟨k', g1, g2⟩ := sExit_spec h2 hs
        exact ⟨k', by simp [hid, g1], g2⟩
    · cases h1; simpa [exitTo] using sExit_spec h2 (by simpa [sExit] using hs)

theorem cInstrs_all (ops : Array Oper) : ∀ (os : List Oper) (is : List SI) (j : Nat), cInstrs C.P C.M C.nt ops os = some is → ops.toList.drop j = os → AllOps C ops is (List.range' j os.length)
  | [], is, j, hc, _ => by simp [cInstrs] at hc; subst hc; rfl
  | o :: os, is, j, hc, hd => by
    simp only [cInstrs] at hc
    split at hc <;> first | (cases hc; done) | skip
    rename_i i is' h1 h2
    cases hc
    refine ⟨j, List.range' (j + 1) os.length, o, rfl, ?_, h1, cInstrs_all ops os is' (j + 1) h2 (by rw [← List.drop_drop, hd]; rfl)⟩
    have := congrArg (·[0]?) hd
    simpa using this

theorem Go.cont {is : List SI} {sk : List SItem} (g : Go C is sk e h R) {ops : Array Oper} {r : List Nat} {k : List Item} (ha : AllOps C ops is r) (hk : cItems C.P C.M C.nt k = some sk) (S : SRel C e h w0 D0 tmps w) :
    Fin C w0 D0 R cs (lone ((bF C.fn).at ⟨tmps, []⟩ (.inRegion ops r :: k)) cs w) := by
  cases is with
  | nil =>
    cases ha
    exact Fin.head step_region_end (g k tmps w cs w0 D0 hk S)
  | cons i is => exact g ops r k tmps w cs w0 D0 ha hk S

theorem SRel.know (S : SRel C e h w0 D0 tmps w) {s : Nat} {v : AV} (hv : Rep w (dom h) v (tmps.getD s undef)) : SRel C ((s, v) :: e) h w0 D0 tmps w :=
  ⟨fun t => by
    simp only [eget]
    by_cases hst : s = t
    · subst hst; rw [if_pos rfl]; exact hv
    · rw [if_neg hst]; exact S.env t, S.size, S.heap, S.ev⟩

def instrVC (C : Cx) (n : Nat) (i : SI) (is : List SI) (sk : List SItem) (h : Heap) (R : AV → Heap → Prop) (e : Env) : Prop := match i.op with
  | .call g args => ACalls C.P g (args.map (ev e)) h fun v h' => Go C is sk (put e i.dst v) h' R
  | .callv f args => match ev e f with
    | .fn g caps => ACalls C.P g (args.map (ev e) ++ caps) h fun v h' => Go C is sk (put e i.dst v) h' R
    | _ => False
  | op => effVC h e op fun v h' => if newK op then Go C is sk (put e i.dst v) h' R else vc C n is sk (put e i.dst v) h' R

theorem instr_sound {n : Nat} {i : SI} {is : List SI} {sk : List SItem} (ih : ∀ e h, vc C n is sk e h R → Go C is sk e h R) (hk : instrVC C n i is sk h R e) {ops : Array Oper} {j : Nat} {r : List Nat} {o : Oper} {k : List Item}
    (ho : ops[j]? = some o) (hc : cInstr C.P C.M C.nt ops o = some i) (ha : AllOps C ops is r) (hki : cItems C.P C.M C.nt k = some sk) (S : SRel C e h w0 D0 tmps w) (hw : Region.wanted o (yielded ops tmps) = true) :
    Fin C w0 D0 R cs (lone ((bF C.fn).at ⟨tmps, []⟩ (.inRegion ops (j :: r) :: k)) cs w) := by
  unfold instrVC at hk
  split at hk
  · rename_i g args hop
    exact call_step S ho hc hw (.inl ⟨args, hop, rfl⟩) hk fun v h' tmps' w' g S' => Go.cont g ha hki S'
  · rename_i f args hop
    split at hk <;> first | (exact hk.elim) | skip
    rename_i g caps hev
    exact call_step S ho hc hw (.inr ⟨f, args, caps, hop, hev, rfl⟩) hk fun v h' tmps' w' g S' => Go.cont g ha hki S'
  · refine op_step S ho hc hw hk fun v h' tmps' w' g S' => ?_
    split at g
    · exact Go.cont g ha hki S'
    · exact Go.cont (ih _ _ g) ha hki S'

theorem ops_sound {n : Nat} {i : SI} {is : List SI} {sk : List SItem} (ih : ∀ e h, vc C n is sk e h R → Go C is sk e h R) (hk : vc C (n + 1) (i :: is) sk e h R) : Go C (i :: is) sk e h R := by
  intro ops l k tmps w cs w0 D0 ha hki S
  obtain ⟨j, r, o, rfl, ho, hc, ha⟩ := ha
  obtain ⟨hd, hdst, hop, hg⟩ := cInstr_spec hc
  have hk' : (match i.guard with
    | none => instrVC C n i is sk h R e
    | some (s, b) => match eget e s with
      | .bool t => (t = b → instrVC C n i is sk h R ((s, .bool b) :: e)) ∧ (t = !b → vc C n is sk (put ((s, .bool !b) :: e) i.dst (.tup [])) h R)
      | .tup [] => vc C n is sk (put e i.dst (.tup [])) h R
      | _ => False) := hk
  rcases hg with ⟨hg, hgi⟩ | ⟨j', b, s, hg, hs, hlt, hgi⟩
  · rw [hgi] at hk'
    exact instr_sound ih hk' ho hc ha hki S (by simp [Region.wanted, hg])
  · rw [hgi] at hk'
    simp only at hk'
    have hlt' : s < tmps.size := by rw [S.size]; exact hlt
    have hE := S.env s
    split at hk' <;> first | (exact hk'.elim) | skip
    · rename_i t ht
      rw [ht] at hE
      have hw := wanted_spec (tmps := tmps) hg hs hlt' (show tmps.getD s undef = .bool t from hE)
      simp only [boolIs] at hw
      by_cases htb : t = b
      · subst htb
        exact instr_sound ih (hk'.1 rfl) ho hc ha hki (S.know hE) (by rw [hw]; simp)
      · have htb' : t = !b := by cases t <;> cases b <;> simp_all
        refine op_skip (S.know (v := .bool !b) (by rw [← htb']; exact hE)) ho hc (by rw [hw, htb']; cases b <;> rfl) fun tmps' S' => ?_
        exact Go.cont (ih _ _ (hk'.2 htb')) ha hki S'
    · rename_i ht
      rw [ht] at hE
      obtain ⟨vs, hv, hvs⟩ := hE
      have hw := wanted_spec (tmps := tmps) hg hs hlt' hv
      exact op_skip S ho hc (by rw [hw]; rfl) fun tmps' S' => Go.cont (ih _ _ hk') ha hki S'
end
end Go.AG
