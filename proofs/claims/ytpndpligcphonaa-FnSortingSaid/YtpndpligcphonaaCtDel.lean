/- Lists of numbers out of which some are taken. No statement is made here. -/
import Derived.Test.YtpndpligcphonaaCtR2
namespace Go.AG
open Go.Proofs Go.Proofs.Ytpndpligcphonaa
set_option linter.unusedSimpArgs false
set_option linter.unusedVariables false
set_option maxRecDepth 4000
abbrev k33_o0 : List AJ := [.o ⟨(some 2), none, false, .mv (.c .nilsl), (some [0])⟩]
abbrev k33_o1 : List AJ := [.o ⟨(some 3), none, false, .mv (.t 0), none⟩, .o ⟨(some 4), none, false, .eqn 0 false (.t 3), (some [0, 4])⟩]
abbrev k33_o2 : List AJ := [.o ⟨(some 2), none, false, .mv (.c .nilsl), (some [2])⟩]
def k33_3 : ACode := .seq (.region k33_o2) .ret
def k33_4 : ACode := .cond (.t 4) k33_3 .skip
def k33_5 : ACode := .seq (.region k33_o1) k33_4
abbrev k33_o3 : List AJ := [.e 5 1 none, .o ⟨(some 6), none, false, .mv (.t 0), none⟩, .o ⟨(some 7), none, false, .append 1 8 (.t 5) (.t 6), none⟩, .o ⟨(some 2), none, false, .mv (.t 7), (some [2])⟩]
def k33_7 : ACode := .seq (.region k33_o3) .ret
def k33_8 : ACode := .seq k33_5 k33_7
def k33_9 : ACode := .seq (.region k33_o0) k33_8
@[simp, simp ↓] theorem k33_3r : sR k33_3 k33_o2 .ret := yR rfl
@[simp, simp ↓] theorem k33_4r : rC k33_4 (.t 4) k33_3 .skip := zC rfl
@[simp, simp ↓] theorem k33_5r : sR k33_5 k33_o1 k33_4 := yR rfl
@[simp, simp ↓] theorem k33_7r : sR k33_7 k33_o3 .ret := yR rfl
@[simp, simp ↓] theorem k33_8r : rS k33_8 k33_5 k33_7 := zS rfl
@[simp, simp ↓] theorem k33_9r : sR k33_9 k33_o0 k33_8 := yR rfl
noncomputable abbrev k33_C : Orc → Cx := mkC Try.prog [5] 33 8 [.tmp 2]
theorem k33_of0 : OfP0 Try.prog Try.f33 33 8 k33_C k33_9 := @ofP0 _ _ _ _ _ _ _ _ Try.func33 (by decide +kernel) rfl (by kernel_rfl) rfl (by kernel_rfl)
theorem Clone_w (l : List Int) (h : Heap) (hl : l.length ≤ 1048576) : ACalls Try.prog 33 [.snap 1 (l.map iv)] h (fun v h' => ∃ hp, Grow 1 v (l.map iv) hp ∧ h' = hp ++ h) := by
  refine k33_of0 rfl noPure fun I => ?_
  cases l with
  | nil =>
    refine Run2.of I 1000 ?_
    simp -implicitDefEqProofs
    exact ⟨.nil, .emp⟩
  | cons a l =>
    refine Run2.of I 1000 ?_
    simp -implicitDefEqProofs
    refine ⟨by simp at hl; omega, fun id hid => ⟨[(id, _)], .sl id _ _ (by simp), rfl⟩⟩
theorem idxf_cases (q : Int → Bool) (l : List Int) : (idxf q l = -1 ∧ l.filter (fun x => !q x) = l) ∨ ∃ (i : Nat) (hi : i < l.length), idxf q l = i ∧ q l[i] = true ∧ (l.take (i + 1)).filter (fun x => !q x) = l.take i := by
  unfold idxf
  cases h : l.findIdx? q with
  | none =>
    rw [List.findIdx?_eq_none_iff] at h
    exact .inl ⟨rfl, List.filter_eq_self.2 fun a ha => by simp [h a ha]⟩
  | some i =>
    obtain ⟨hi, hq, hb⟩ := List.findIdx?_eq_some_iff_getElem.1 h
    refine .inr ⟨i, hi, rfl, hq, ?_⟩
    rw [List.take_succ_eq_append_getElem hi, List.filter_append]
    have : (l.take i).filter (fun x => !q x) = l.take i := List.filter_eq_self.2 fun a ha => by
      obtain ⟨j, hj, rfl⟩ := List.mem_iff_getElem.1 ha
      simp only [List.length_take] at hj
      simp only [List.getElem_take]
      simpa using hb j (by omega)
    rw [this]
    simp [hq]
/-- What is left of the first j when those are taken out. -/
theorem filt_succ (q : Int → Bool) (l : List Int) {j : Nat} (hj : j < l.length) : (l.take (j + 1)).filter (fun x => !q x) = (l.take j).filter (fun x => !q x) ++ if q l[j] then [] else [l[j]] := by
  rw [List.take_succ_eq_append_getElem hj, List.filter_append]
  congr 1
  by_cases h : q l[j] = true <;> simp [h]
/-- What stands in the block while those are taken out: i of the first j are left. -/
structure DInv (q : Int → Bool) (l A : List Int) (i j : Nat) : Prop where
  lt : i < j
  le : j ≤ l.length
  len : A.length = l.length
  left : A.take i = (l.take j).filter (fun x => !q x)
  rest : ∀ k, j ≤ k → A[k]? = l[k]?
theorem DInv.skip {q : Int → Bool} {l A : List Int} {i j : Nat} (D : DInv q l A i j) (hj : j < l.length) (h : q l[j] = true) : DInv q l A i (j + 1) :=
  ⟨by have := D.lt; omega, hj, D.len, by rw [D.left, filt_succ q l hj, h]; simp, fun k hk => D.rest k (by omega)⟩
theorem DInv.put {q : Int → Bool} {l A : List Int} {i j : Nat} (D : DInv q l A i j) (hj : j < l.length) (h : q l[j] = false) : DInv q l (A.set i l[j]) (i + 1) (j + 1) := by
  have h1 := D.lt
  have h2 := D.len
  refine ⟨by omega, hj, by simp [D.len], ?_, fun k hk => ?_⟩
  · rw [filt_succ q l hj, h, ← D.left]
    have hi : i < (A.set i l[j]).length := by simp; omega
    rw [List.take_succ_eq_append_getElem hi, List.take_set_of_le (Nat.le_refl _)]
    simp
  · rw [List.getElem?_set_ne (by omega)]
    exact D.rest k (by omega)
end Go.AG
