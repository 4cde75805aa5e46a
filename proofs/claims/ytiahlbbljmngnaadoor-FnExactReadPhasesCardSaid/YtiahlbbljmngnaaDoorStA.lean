/- Texts: numbers in decimal, the program and the reference. No statement is made here. -/
import Derived.Test.YtiahlbbljmngnaaDoorStF
import Derived.Test.YtiahlbbljmngnaaDoorAGLists2
import Derived.Test.YtiahlbbljmngnaaDoorIntS
namespace Go.AG
open Go.Proofs Go.Proofs.YtiahlbbljmngnaaDoor
set_option linter.unusedSimpArgs false
set_option linter.unusedVariables false
set_option maxRecDepth 4000
abbrev k41_o0 : List AJ := [.o ⟨(some 2), none, false, .mv (.c (.str [])), (some [0])⟩]
abbrev k41_o1 : List AJ := [.o ⟨(some 3), none, false, .mv (.t 0), none⟩, .o ⟨(some 4), none, false, .call 61 [(.t 3), (.c (.int .i64 10))], none⟩, .o ⟨(some 2), none, false, .mv (.t 4), (some [2])⟩]
def k41_2 : ACode := .seq (.region k41_o1) .ret
def k41_3 : ACode := .seq (.region k41_o0) k41_2
@[simp, simp ↓] theorem k41_2r : sR k41_2 k41_o1 .ret := yR rfl
@[simp, simp ↓] theorem k41_3r : sR k41_3 k41_o0 k41_2 := yR rfl
noncomputable abbrev k41_C : Orc → Cx := mkC Tryd.prog [] 41 5 [.tmp 2]
theorem k41_of0 : OfP0 Tryd.prog Tryd.f41 41 5 k41_C k41_3 := @ofP0 _ _ _ _ _ _ _ _ Tryd.func41 (by decide +kernel) rfl (by kernel_rfl) rfl (by kernel_rfl)
theorem Decimal_c (n : Int) (h : Heap) (hn : in64 n) : ACalls Tryd.prog 41 [.int .i64 n] h (fun v h' => v = .str (Lib.itoa n) ∧ h' = h) := by
  refine k41_of0 rfl noPure fun I => ?_
  refine Run2.of I 1000 ?_
  simp -implicitDefEqProofs
  refine (fmt10_c n h (by have := hn; unfold in64 at this; omega) (by have := hn; unfold in64 at this; omega)).mono ?_
  rintro v h' ⟨rfl, rfl⟩
  refine gK.go ?_
  simp -implicitDefEqProofs
noncomputable def o_Decimal : List AV → Option (Prop × AV) := tab (fun (x : Int) => match x with | n => [.int .i64 n]) (fun x => match x with | n => in64 n) (fun x => match x with | n => .str (Lib.itoa n))
@[simp] theorem o_Decimal_e (n : Int) : o_Decimal [.int .i64 n] = some (in64 n, .str (Lib.itoa n)) := tab_at (enc := fun (x : Int) => match x with | n => [.int .i64 n]) (fun x y h => by
  simp at h; simp [h] <;> omega) _ _ n
theorem o_Decimal_k : Knows Tryd.prog 41 o_Decimal := tab_knows fun x hx h => by
  exact Decimal_c x h hx
end Go.AG
