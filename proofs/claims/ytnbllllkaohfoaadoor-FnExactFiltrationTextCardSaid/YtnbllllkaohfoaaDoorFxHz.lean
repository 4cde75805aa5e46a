/- A list of numbers copied; blocks of lists that are appended one by one. No statement is made here. -/
import Derived.Test.YtnbllllkaohfoaaDoorFxF
import Derived.Test.YtnbllllkaohfoaaDoorFxU
import Derived.Test.YtnbllllkaohfoaaDoorInpl
namespace Go.AG
open Go.Proofs Go.Proofs.YtnbllllkaohfoaaDoor
set_option linter.unusedSimpArgs false
set_option linter.unusedVariables false
set_option maxRecDepth 4000
def OwnP (us : List AV) (rs : List (List Int)) (hp : Heap) : Prop := ∃ hi, OwnLs us rs hi ∧ hp.Perm hi
theorem OwnP.app {us : List AV} {rs : List (List Int)} {hp : Heap} (o : OwnP us rs hp) {u : AV} {r : List Int} {h1 : Heap} (o1 : OwnL iv 1 u r h1) (hd : ∀ i ∈ dom h1, i ∉ dom hp) : OwnP (us ++ [u]) (rs ++ [r]) (h1 ++ hp) := by
  obtain ⟨hi, o, p⟩ := o
  refine ⟨hi ++ h1, o.append (.one o1) fun i hi hm => hd i hm ?_, ?_⟩
  · exact ((p.map (·.1)).mem_iff).2 hi
  · exact List.perm_append_comm.trans (p.append_right h1)
theorem OwnLL.of_grow {w : AV} {us : List AV} {rs : List (List Int)} {hp hi : Heap} (g : Grow 1 w us hp) (o : OwnP us rs hi) (nd : (dom (hp ++ hi)).Nodup) : ∃ h', (hp ++ hi).Perm h' ∧ OwnLL w rs h' := by
  obtain ⟨hj, o, p⟩ := o
  cases g with
  | nil =>
    cases o
    exact ⟨[], by simpa using p, .nil⟩
  | emp =>
    cases o
    exact ⟨[], by simpa using p, .emp⟩
  | sl id us n hn =>
    subst hn
    refine ⟨(id, ⟨1, us ++ []⟩) :: hj, by simpa using p, .sl id _ none [] (by rw [o.len]) rfl o fun hm => ?_⟩
    have h1 : id ∈ dom hi := ((p.map (·.1)).mem_iff).2 hm
    simp only [List.cons_append, List.nil_append, dom_cons, List.nodup_cons] at nd
    exact nd.1 h1
/-- The first place of a number, or -1. -/
def ixI (l : List Int) (n : Int) : Int := idxf (fun a => decide (n = a)) l
end Go.AG
