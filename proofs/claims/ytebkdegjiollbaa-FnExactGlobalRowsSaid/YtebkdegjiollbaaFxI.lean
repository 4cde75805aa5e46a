/- The closure of a complex, as the reference makes it: the complex again. No statement is made here. -/
import Derived.Test.YtebkdegjiollbaaFxH
import Derived.Test.YtebkdegjiollbaaFxE
namespace Go.AG
open Go.Proofs Go.Proofs.Ytebkdegjiollbaa
set_option linter.unusedSimpArgs false
set_option linter.unusedVariables false
set_option maxRecDepth 4000
theorem Wk.ip1 {a b : AV} (h : Wk a b) : Wk (.ip [a]) (.ip [b]) := fun w D v ⟨bl, o, e, h1, h2, ⟨⟨u, q1, q2, q3⟩, q4⟩⟩ => ⟨bl, o, e, h1, h2, ⟨⟨u, q1, q2, h w D u q3⟩, q4⟩⟩
theorem lend1_ip1 (L : Heap) (a : AV) : lend1 L (.ip [a]) = .ip [lend1 L a] := by
  induction L generalizing a with
  | nil => rfl
  | cons p L ih => simp only [lend1, fz, fzs]; exact ih _
theorem find_ptr {id : Nat} {w u : AV} (hu : cellsOf u = [w]) {rs : List (List Int)} {hp h : Heap} (G : Grow 1 w (rs.map il) hp) (s : List Int) (hl : ssTot rs ≤ 1048576) : ACalls Try.prog 100 [.ptr id 1 0 0, .snap 1 (s.map iv)] ((id, ⟨1, [u]⟩) :: (hp ++ h)) (fun v h' => v = .int .i64 (ixS rs s) ∧ h' = (id, ⟨1, [u]⟩) :: (hp ++ h)) := by
  refine ACalls.reads ((id, ⟨1, [u]⟩) :: hp) (fun p hp => ?_) ?_ rfl
  · rcases List.mem_cons.1 hp with rfl | hp
    · exact List.mem_cons_self ..
    · exact List.mem_cons_of_mem _ (List.mem_append_left _ hp)
  · rw [lend_cons, lend_cons, lend_nil', lend1_cold _ (x := .snap 1 (s.map iv)) (by simp [cold])]
    have e : lend1 ((id, (⟨1, [u]⟩ : Blk)) :: hp) (.ptr id 1 0 0) = .ip [lend1 hp w] := by
      simp only [lend1, fz, and_self, if_true, List.getElem?_cons_zero, hu, List.drop_zero]
      exact lend1_ip1 hp w
    rw [e]
    exact ACalls.wk (.cons (Wk.ip1 G.lentWk) (.cons (.refl _) .nil)) (l05Find_s rs [] s [] hl)
noncomputable def o_l00Own : List AV → Option (Prop × AV) := tab (fun (x : List Int) => match x with | l => [.snap 1 (l.map iv)]) (fun x => match x with | l => l.length ≤ 1048576) (fun x => match x with | l => .snap 1 (l.map iv))
@[simp] theorem o_l00Own_e (l : List Int) : o_l00Own [.snap 1 (l.map iv)] = some (l.length ≤ 1048576, .snap 1 (l.map iv)) := tab_at (enc := fun (x : List Int) => match x with | l => [.snap 1 (l.map iv)]) (fun x y h => by
  simp at h; simp [h] <;> omega) _ _ l
theorem o_l00Own_k : Knows Try.prog 47 o_l00Own := tab_knows fun x hx h => by
  exact (ACalls.post ((l00Own_g x h hx).mono fun v h' ⟨hp, g, e⟩ => by subst e; exact g.froze (fun x => x) (fun _ _ _ => rfl) (fun _ _ h => h) (.base ⟨rfl, rfl⟩)))
noncomputable def orcI : List (Nat × (List AV → Option (Prop × AV))) := (47, o_l00Own) :: (101, o_l05Drop) :: (99, o_l05Before) :: []
theorem orcI_p : Pure Try.prog (lk orcI) := (lk_pure o_l00Own_k (lk_pure o_l05Drop_k (lk_pure o_l05Before_k lk_pure0)))
@[simp] theorem orcI_l (b : Bool) (g : FuncId) (l : List AV) : lk orcI b g l = if g = 47 then o_l00Own l else if g = 101 then o_l05Drop l else if g = 99 then o_l05Before l else none := nr rfl
theorem cxOk.take_new {rs : List (List Int)} (h : cxOk rs) {i : Nat} (hi : i < rs.length) : rs[i] ∉ rs.take i ∧ (∀ f ∈ faces rs[i], f ∈ rs.take i) ∧ ∀ r ∈ rs.take i, cmpS r rs[i] < 0 := by
  have hlt : ∀ r ∈ rs.take i, cmpS r rs[i] < 0 := fun r hr => by
    obtain ⟨j, hj, rfl⟩ := List.mem_iff_getElem.1 hr
    simp only [List.length_take] at hj
    simp only [List.getElem_take]
    exact h.sort.lt (by omega) hi
  refine ⟨fun hm => ?_, (((cxOk_iff rs).1 h).1 i hi).2.2, hlt⟩
  have := hlt _ hm
  have := (cmpS_zero rs[i] rs[i]).2 rfl
  omega

end Go.AG
