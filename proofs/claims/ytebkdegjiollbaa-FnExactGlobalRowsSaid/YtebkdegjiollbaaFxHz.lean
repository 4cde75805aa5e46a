/- A list of numbers copied; blocks of lists that are appended one by one. No statement is made here. -/
import Derived.Test.YtebkdegjiollbaaFxF
import Derived.Test.YtebkdegjiollbaaFxU
import Derived.Test.YtebkdegjiollbaaInpl
namespace Go.AG
open Go.Proofs Go.Proofs.Ytebkdegjiollbaa
set_option linter.unusedSimpArgs false
set_option linter.unusedVariables false
set_option maxRecDepth 4000
abbrev k96_o0 : List AJ := [.o ⟨(some 2), none, false, .mv (.c .nilsl), (some [0])⟩]
abbrev k96_o1 : List AJ := [.o ⟨(some 3), none, false, .mv (.t 0), none⟩, .o ⟨(some 4), none, false, .eqn 0 false (.t 3), (some [0, 4])⟩]
abbrev k96_o2 : List AJ := [.o ⟨(some 2), none, false, .mv (.c .nilsl), (some [2])⟩]
def k96_3 : ACode := .seq (.region k96_o2) .ret
def k96_4 : ACode := .cond (.t 4) k96_3 .skip
def k96_5 : ACode := .seq (.region k96_o1) k96_4
abbrev k96_o3 : List AJ := [.e 5 1 none, .o ⟨(some 6), none, false, .mv (.t 0), none⟩, .o ⟨(some 7), none, false, .append 1 8 (.t 5) (.t 6), none⟩, .o ⟨(some 2), none, false, .mv (.t 7), (some [2])⟩]
def k96_7 : ACode := .seq (.region k96_o3) .ret
def k96_8 : ACode := .seq k96_5 k96_7
def k96_9 : ACode := .seq (.region k96_o0) k96_8
@[simp, simp ↓] theorem k96_3r : sR k96_3 k96_o2 .ret := yR rfl
@[simp, simp ↓] theorem k96_4r : rC k96_4 (.t 4) k96_3 .skip := zC rfl
@[simp, simp ↓] theorem k96_5r : sR k96_5 k96_o1 k96_4 := yR rfl
@[simp, simp ↓] theorem k96_7r : sR k96_7 k96_o3 .ret := yR rfl
@[simp, simp ↓] theorem k96_8r : rS k96_8 k96_5 k96_7 := zS rfl
@[simp, simp ↓] theorem k96_9r : sR k96_9 k96_o0 k96_8 := yR rfl
noncomputable abbrev k96_C : Orc → Cx := mkC Try.prog [5] 96 8 [.tmp 2]
theorem k96_of0 : OfP0 Try.prog Try.f96 96 8 k96_C k96_9 := @ofP0 _ _ _ _ _ _ _ _ Try.func96 (by decide +kernel) rfl (by kernel_rfl) rfl (by kernel_rfl)
theorem Clone_w (l : List Int) (h : Heap) (hl : l.length ≤ 1048576) : ACalls Try.prog 96 [.snap 1 (l.map iv)] h (fun v h' => ∃ hp, Grow 1 v (l.map iv) hp ∧ h' = hp ++ h) := by
  refine k96_of0 rfl noPure fun I => ?_
  cases l with
  | nil =>
    refine Run2.of I 1000 ?_
    simp -implicitDefEqProofs
    exact ⟨.nil, .emp⟩
  | cons a l =>
    refine Run2.of I 1000 ?_
    simp -implicitDefEqProofs
    refine ⟨by simp at hl; omega, fun id hid => ⟨[(id, _)], .sl id _ _ (by simp), rfl⟩⟩
/-- Slices in blocks of their own, in whatever order these stand. -/
def OwnP (us : List AV) (rs : List (List Int)) (hp : Heap) : Prop := ∃ hi, OwnLs us rs hi ∧ hp.Perm hi
theorem OwnP.app {us : List AV} {rs : List (List Int)} {hp : Heap} (o : OwnP us rs hp) {u : AV} {r : List Int} {h1 : Heap} (o1 : OwnL iv 1 u r h1) (hd : ∀ i ∈ dom h1, i ∉ dom hp) : OwnP (us ++ [u]) (rs ++ [r]) (h1 ++ hp) := by
  obtain ⟨hi, o, p⟩ := o
  refine ⟨hi ++ h1, o.append (.one o1) fun i hi hm => hd i hm ?_, ?_⟩
  · exact ((p.map (·.1)).mem_iff).2 hi
  · exact List.perm_append_comm.trans (p.append_right h1)
theorem OwnLL.of_grow {w : AV} {us : List AV} {rs : List (List Int)} {hp hi : Heap} (g : Grow 1 w us hp) (o : OwnP us rs hi) (nd : (dom (hp ++ hi)).Nodup) : ∃ h', (hp ++ hi).Perm h' ∧ OwnLL w rs h' := by
  obtain ⟨hj, o, p⟩ := o
  cases g with
  | nil =>
    cases o
    exact ⟨[], by simpa using p, .nil⟩
  | emp =>
    cases o
    exact ⟨[], by simpa using p, .emp⟩
  | sl id us n hn =>
    subst hn
    refine ⟨(id, ⟨1, us ++ []⟩) :: hj, by simpa using p, .sl id _ none [] (by rw [o.len]) rfl o fun hm => ?_⟩
    have h1 : id ∈ dom hi := ((p.map (·.1)).mem_iff).2 hm
    simp only [List.cons_append, List.nil_append, dom_cons, List.nodup_cons] at nd
    exact nd.1 h1
/-- The first place of a number, or -1. -/
def ixI (l : List Int) (n : Int) : Int := idxf (fun a => decide (n = a)) l
end Go.AG
