/- What a filtration is: the program. No statement is made here. -/
import Derived.Test.YtebkdegjiollbaaFxE
namespace Go.AG
open Go.Proofs Go.Proofs.Ytebkdegjiollbaa
set_option linter.unusedSimpArgs false
set_option linter.unusedVariables false
set_option maxRecDepth 4000
noncomputable def orcF1 : List (Nat × (List AV → Option (Prop × AV))) := (106, o_facesOf) :: (108, o_indexOf) :: []
theorem orcF1_p : Pure Try.prog (lk orcF1) := (lk_pure o_facesOf_k (lk_pure o_indexOf_k lk_pure0))
@[simp] theorem orcF1_l (b : Bool) (g : FuncId) (l : List AV) : lk orcF1 b g l = if g = 106 then o_facesOf l else if g = 108 then o_indexOf l else none := nr rfl

abbrev k84_o0 : List AJ := [.o ⟨(some 2), none, false, .mv (.c (.int .i64 0)), (some [0])⟩]
abbrev k84_o1 : List AJ := [.o ⟨(some 3), none, false, .mv (.t 0), none⟩, .o ⟨(some 4), none, false, .len (.t 3), none⟩, .o ⟨(some 2), none, false, .mv (.t 4), (some [2])⟩]
def k84_2 : ACode := .seq (.region k84_o1) .ret
def k84_3 : ACode := .seq (.region k84_o0) k84_2
@[simp, simp ↓] theorem k84_2r : sR k84_2 k84_o1 .ret := yR rfl
@[simp, simp ↓] theorem k84_3r : sR k84_3 k84_o0 k84_2 := yR rfl
noncomputable abbrev k84_C : Orc → Cx := mkC Try.prog [] 84 5 [.tmp 2]
theorem k84_of0 : OfP0 Try.prog Try.f84 84 5 k84_C k84_3 := @ofP0 _ _ _ _ _ _ _ _ Try.func84 (by decide +kernel) rfl (by kernel_rfl) rfl (by kernel_rfl)
theorem sizeSS_s (l : List (List Int)) (h : Heap) : ACalls Try.prog 84 [.snap 1 (l.map il)] h (fun v h' => v = .int .i64 l.length ∧ h' = h) := by
  refine k84_of0 rfl noPure fun I => ?_
  refine Run2.of I 1000 ?_
  simp -implicitDefEqProofs
noncomputable def o_sizeSS : List AV → Option (Prop × AV) := tab (fun (x : LS) => match x with | l => [.snap 1 (l.map il)]) (fun x => match x with | l => True) (fun x => match x with | l => .int .i64 l.length)
@[simp] theorem o_sizeSS_e (l : LS) : o_sizeSS [.snap 1 (l.map il)] = some (True, .int .i64 l.length) := tab_at (enc := fun (x : LS) => match x with | l => [.snap 1 (l.map il)]) (fun x y h => by
  simp at h; simp [h] <;> omega) _ _ l
theorem o_sizeSS_k : Knows Try.prog 84 o_sizeSS := tab_knows fun x hx h => by
  exact sizeSS_s x h
noncomputable def orcF2 : List (Nat × (List AV → Option (Prop × AV))) := (84, o_sizeSS) :: []
theorem orcF2_p : Pure Try.prog (lk orcF2) := (lk_pure o_sizeSS_k lk_pure0)
@[simp] theorem orcF2_l (b : Bool) (g : FuncId) (l : List AV) : lk orcF2 b g l = if g = 84 then o_sizeSS l else none := nr rfl
/-- The faces of all simplices: number, place, number of the face. -/
abbrev I3 := Int × Int × Int
@[simp] def ar3 (a : I3) : AV := .agg [.int .i64 a.1, .int .i64 a.2.1, .int .i64 a.2.2]
def arwK (i : Nat) (fs : List Int) : List I3 := (List.range fs.length).map fun (k : Nat) => ((i : Int), (k : Int), fs.getD k 0)
def arw (rs : List (List Int)) : List I3 := (List.range rs.length).flatMap fun i => arwK i (facesI rs (rs.getD i []))
theorem arw_mem {rs : List (List Int)} {a : I3} : a ∈ arw rs ↔ ∃ i, ∃ hi : i < rs.length, ∃ k, ∃ hk : k < (facesI rs rs[i]).length, a = ((i : Int), (k : Int), (facesI rs rs[i])[k]) := by
  unfold arw arwK
  simp only [List.mem_flatMap, List.mem_range, List.mem_map]
  constructor
  · rintro ⟨i, hi, k, hk, rfl⟩
    have hget : rs.getD i [] = rs[i] := by simp [hi]
    rw [hget] at hk
    exact ⟨i, hi, k, hk, by rw [hget]; simp [hk]⟩
  · rintro ⟨i, hi, k, hk, rfl⟩
    have hget : rs.getD i [] = rs[i] := by simp [hi]
    exact ⟨i, hi, k, by rw [hget]; exact hk, by rw [hget]; simp [hk]⟩
section
variable {α : Type}
/-- The first place where q holds. -/
def idxg (q : α → Bool) (l : List α) : Int := match l.findIdx? q with
  | some i => i
  | none => -1
theorem idxg_at {q : α → Bool} {l : List α} {i : Nat} (h : i < l.length) (hb : ∀ j (hj : j < l.length), j < i → q l[j] = false) (ht : q l[i] = true) : idxg q l = i := by
  have : l.findIdx? q = some i := List.findIdx?_eq_some_iff_getElem.2 ⟨h, ht, fun j hj => by simp [hb j (by omega) hj]⟩
  unfold idxg; rw [this]
theorem idxg_none {q : α → Bool} {l : List α} (hb : ∀ j (hj : j < l.length), q l[j] = false) : idxg q l = -1 := by
  have : l.findIdx? q = none := List.findIdx?_eq_none_iff.2 fun a ha => by
    obtain ⟨j, hj, rfl⟩ := List.mem_iff_getElem.1 ha
    simp [hb j hj]
  unfold idxg; rw [this]
theorem idxg_any (q : α → Bool) (l : List α) : decide (0 ≤ idxg q l) = l.any q := by
  rw [Bool.eq_iff_iff, decide_eq_true_eq, List.any_eq_true]
  unfold idxg
  cases h : l.findIdx? q with
  | none =>
    rw [List.findIdx?_eq_none_iff] at h
    simp only [show ¬ (0 : Int) ≤ -1 by omega, false_iff]
    rintro ⟨a, ha, hq⟩
    have := h a ha
    rw [hq] at this; cases this
  | some i =>
    obtain ⟨hi, hq, _⟩ := List.findIdx?_eq_some_iff_getElem.1 h
    simp only [Int.natCast_nonneg, true_iff]
    exact ⟨_, List.getElem_mem hi, hq⟩
end
abbrev k120_o0 : List AJ := [.o ⟨(some 2), none, false, .mv (.c (.bool false)), (some [0])⟩]
abbrev k120_o1 : List AJ := [.o ⟨(some 3), none, false, .mv (.t 0), none⟩, .o ⟨(some 4), none, false, .call 91 [(.t 3), (.c (.int .i64 0)), (.c (.int .i64 1000))], none⟩, .o ⟨(some 2), none, false, .mv (.t 4), (some [2])⟩]
def k120_2 : ACode := .seq (.region k120_o1) .ret
def k120_3 : ACode := .seq (.region k120_o0) k120_2
@[simp, simp ↓] theorem k120_2r : sR k120_2 k120_o1 .ret := yR rfl
@[simp, simp ↓] theorem k120_3r : sR k120_3 k120_o0 k120_2 := yR rfl
noncomputable abbrev k120_C : Orc → Cx := mkC Try.prog [] 120 5 [.tmp 2]
theorem k120_of0 : OfP0 Try.prog Try.f120 120 5 k120_C k120_3 := @ofP0 _ _ _ _ _ _ _ _ Try.func120 (by decide +kernel) rfl (by kernel_rfl) rfl (by kernel_rfl)
theorem isTime_c (a : Int) (h : Heap) : ACalls Try.prog 120 [.int .i64 a] h (fun v h' => v = .bool (decide (0 ≤ a) && decide (a ≤ 1000)) ∧ h' = h) := by
  refine k120_of0 rfl orc1_p fun I => ?_
  refine Run2.of I 1000 ?_
  simp -implicitDefEqProofs
noncomputable def o_isTime : List AV → Option (Prop × AV) := tab (fun (x : Int) => match x with | a => [.int .i64 a]) (fun x => match x with | a => True) (fun x => match x with | a => .bool (decide (0 ≤ a) && decide (a ≤ 1000)))
@[simp] theorem o_isTime_e (a : Int) : o_isTime [.int .i64 a] = some (True, .bool (decide (0 ≤ a) && decide (a ≤ 1000))) := tab_at (enc := fun (x : Int) => match x with | a => [.int .i64 a]) (fun x y h => by
  simp at h; simp [h] <;> omega) _ _ a
theorem o_isTime_k : Knows Try.prog 120 o_isTime := tab_knows fun x hx h => by
  exact isTime_c _ h
noncomputable def orcT : List (Nat × (List AV → Option (Prop × AV))) := (120, o_isTime) :: []
theorem orcT_p : Pure Try.prog (lk orcT) := (lk_pure o_isTime_k lk_pure0)
@[simp] theorem orcT_l (b : Bool) (g : FuncId) (l : List AV) : lk orcT b g l = if g = 120 then o_isTime l else none := nr rfl
noncomputable def orcF3 : List (Nat × (List AV → Option (Prop × AV))) := (57, o_validCx) :: []
theorem orcF3_p : Pure Try.prog (lk orcF3) := (lk_pure o_validCx_k lk_pure0)
@[simp] theorem orcF3_l (b : Bool) (g : FuncId) (l : List AV) : lk orcF3 b g l = if g = 57 then o_validCx l else none := nr rfl

end Go.AG
