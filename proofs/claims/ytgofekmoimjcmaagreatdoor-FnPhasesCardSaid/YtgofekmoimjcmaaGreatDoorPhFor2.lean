/- The reference's forest of a graph and the phases along it: what they are. No statement is made here. -/
import Derived.Test.YtgofekmoimjcmaaGreatDoorPhTurnB
namespace Go.AG.P
open Go.Proofs Go.Proofs.YtgofekmoimjcmaaGreatDoor
set_option linter.unusedSimpArgs false
set_option linter.unusedVariables false
set_option maxRecDepth 4000
/-- A list that is changed in place: the first v are new. -/
def inpl {α : Type} (l l' : List α) (v : Nat) : List α := l'.take v ++ l.drop v
section
variable {α β : Type} {l l' : List α} {v : Nat}
theorem inpl_len (h : l'.length = l.length) : (inpl l l' v).length = l.length := by simp [inpl]; omega
@[simp] theorem inpl_zero : inpl l l' 0 = l := by simp [inpl]
theorem inpl_end (h : l'.length = l.length) : inpl l l' l.length = l' := by simp [inpl, ← h]
theorem inpl_get (h : l'.length = l.length) (hv : v < l.length) (h2 : v < (inpl l l' v).length) : (inpl l l' v)[v] = l[v] := by
  simp only [inpl]
  rw [List.getElem_append_right (by simp; omega)]
  simp [Nat.min_eq_left (show v ≤ l'.length by omega)]
theorem inpl_old (h : l'.length = l.length) {j : Nat} (hj : j < v) (hv : v < l.length) (h2 : j < (inpl l l' v).length) : (inpl l l' v)[j] = l'[j] := by
  simp only [inpl]
  rw [List.getElem_append_left (by simp; omega)]
  simp
theorem inpl_set (h : l'.length = l.length) (hv : v < l.length) : (inpl l l' v).set v (l'[v]'(h ▸ hv)) = inpl l l' (v + 1) := by
  have h1 : (l'.take v).length = v := by simp; omega
  unfold inpl
  rw [List.take_succ_eq_append_getElem (by omega), List.set_append_right _ _ (by omega), h1, Nat.sub_self, List.drop_eq_getElem_cons hv]
  simp only [List.set_cons_zero, List.append_assoc, List.cons_append, List.nil_append]
theorem inpl_keep (h : l'.length = l.length) (hv : v < l.length) (he : l'[v]'(h ▸ hv) = l[v]) : inpl l l' v = inpl l l' (v + 1) := by
  rw [← inpl_set h hv, he, ← inpl_get h hv (by rw [inpl_len h]; exact hv), List.set_getElem_self]
theorem inpl_map (f : α → β) : (inpl l l' v).map f = inpl (l.map f) (l'.map f) v := by simp [inpl]
end
end Go.AG.P
namespace Go.AG.P
open Go.Proofs Go.Proofs.YtgofekmoimjcmaaGreatDoor
set_option linter.unusedSimpArgs false
set_option linter.unusedVariables false
set_option maxRecDepth 4000
/-- One edge more: parts, phases, edges that join parts. -/
def fstep (x : Ph) (i : Nat) (s : List Int × List Int × List Int) : List Int × List Int × List Int :=
  let t := x.ts.getD i default
  let a := s.1.getD t.f.toNat 0
  let b := s.1.getD t.t.toNat 0
  if a = b then s else
    let d := (s.2.1.getD t.f.toNat 0 + t.s - s.2.1.getD t.t.toNat 0) % x.m
    (s.1.map fun c => if c = b then a else c, List.zipWith (fun c q => if c = b then (q + d) % x.m else q) s.1 s.2.1, s.2.2 ++ [(i : Int)])
def fstate (x : Ph) : Nat → List Int × List Int × List Int
  | 0 => ((List.range x.n.toNat).map Int.ofNat, List.replicate x.n.toNat 0, [])
  | i + 1 => fstep x i (fstate x i)
def fsti (P : List Int) (v : Nat) : Nat := P.findIdx fun c => decide (c = P.getD v 0)
def norm1 (m : Int) (P F : List Int) : List Int := (List.range F.length).map fun v => if fsti P v < v then (F.getD v 0 - F.getD (fsti P v) 0) % m else F.getD v 0
def norm2 (P F : List Int) : List Int := (List.range F.length).map fun v => if fsti P v = v then 0 else F.getD v 0
def Ph.forest (x : Ph) : List Int := (fstate x x.ts.length).2.2
def Ph.pots (x : Ph) : List Int := norm2 (fstate x x.ts.length).1 (norm1 x.m (fstate x x.ts.length).1 (fstate x x.ts.length).2.1)
theorem fsti_spec {P : List Int} {v : Nat} (hv : v < P.length) : ∃ (hk : fsti P v ≤ v), P[fsti P v] = P[v] ∧ ∀ (j : Nat) (hj : j < fsti P v), P[j] ≠ P[v] := by
  have hg : P.getD v 0 = P[v] := by simp [hv]
  have hle : fsti P v ≤ v := by
    refine Nat.le_of_not_lt fun hlt => ?_
    have := List.not_of_lt_findIdx hlt
    simp [hv] at this
  refine ⟨hle, ?_, fun j hj => ?_⟩
  · have := List.findIdx_getElem (p := fun c => decide (c = P.getD v 0)) (xs := P) (w := show fsti P v < P.length by omega)
    unfold fsti
    simpa [hv] using this
  · have := List.not_of_lt_findIdx hj
    simpa [hv] using this
theorem fsti_idem {P : List Int} {v : Nat} (hv : v < P.length) : fsti P (fsti P v) = fsti P v := by
  obtain ⟨hk, h1, _⟩ := fsti_spec hv
  unfold fsti
  congr 1
  funext c
  have e1 : P.getD (fsti P v) 0 = P[fsti P v] := by simp [show fsti P v < P.length by omega]
  have e2 : P.getD v 0 = P[v] := by simp [hv]
  have : P.getD (P.findIdx fun c => decide (c = P.getD v 0)) 0 = P.getD v 0 := by rw [show (P.findIdx fun c => decide (c = P.getD v 0)) = fsti P v from rfl, e1, e2, h1]
  rw [this]
structure FOk (x : Ph) (s : List Int × List Int × List Int) : Prop where
  p : s.1.length = x.n.toNat
  f : s.2.1.length = x.n.toNat
  b : ∀ (v : Nat) (h : v < s.2.1.length), 0 ≤ s.2.1[v] ∧ s.2.1[v] < x.m
theorem fstep_len (x : Ph) (i : Nat) (s : List Int × List Int × List Int) : (fstep x i s).2.2.length ≤ s.2.2.length + 1 := by
  unfold fstep
  simp only
  split <;> simp
theorem fstate_len (x : Ph) : ∀ i, (fstate x i).2.2.length ≤ i
  | 0 => by simp [fstate]
  | i + 1 => by have := fstate_len x i; have := fstep_len x i (fstate x i); simp only [fstate]; omega
theorem fstep_ok {x : Ph} (hm : 2 ≤ x.m) {i : Nat} {s : List Int × List Int × List Int} (o : FOk x s) : FOk x (fstep x i s) := by
  unfold fstep
  simp only
  split
  · exact o
  · refine ⟨by simp [o.p], by simp [o.p, o.f], fun v h => ?_⟩
    simp only [List.length_zipWith] at h
    simp only [List.getElem_zipWith]
    split
    · exact ⟨Int.emod_nonneg _ (by omega), Int.emod_lt_of_pos _ (by omega)⟩
    · exact o.b v (by omega)
theorem fstate_ok {x : Ph} (hm : 2 ≤ x.m) : ∀ i, FOk x (fstate x i)
  | 0 => ⟨by simp [fstate], by simp [fstate], fun v h => by simp [fstate]; omega⟩
  | i + 1 => fstep_ok hm (fstate_ok hm i)
end Go.AG.P
