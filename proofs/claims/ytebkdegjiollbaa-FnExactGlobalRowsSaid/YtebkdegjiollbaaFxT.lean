/- Complexes as plain data: order, faces, places. No statement is made here. -/
import Derived.Test.YtebkdegjiollbaaAGInts
namespace Go.AG
set_option linter.unusedSimpArgs false
set_option linter.unusedVariables false
set_option maxRecDepth 4000
def cmpZ (a b : Int) : Int := if a < b then -1 else if b < a then 1 else 0
theorem cmpZ_neg (a b : Int) : cmpZ a b < 0 ↔ a < b := by unfold cmpZ; grind
theorem cmpZ_zero (a b : Int) : cmpZ a b = 0 ↔ a = b := by unfold cmpZ; grind
theorem cmpZ_in (a b : Int) : -1 ≤ cmpZ a b ∧ cmpZ a b ≤ 1 := by unfold cmpZ; grind
/-- As in a dictionary. -/
def lexC : List Int → List Int → Int
  | [], [] => 0
  | [], _ :: _ => -1
  | _ :: _, [] => 1
  | a :: x, b :: y => if cmpZ a b = 0 then lexC x y else cmpZ a b
theorem lexC_in : ∀ a b : List Int, -1 ≤ lexC a b ∧ lexC a b ≤ 1
  | [], [] => by simp [lexC]
  | [], _ :: _ => by simp [lexC]
  | _ :: _, [] => by simp [lexC]
  | a :: x, b :: y => by
    simp only [lexC]
    split
    · exact lexC_in x y
    · exact cmpZ_in a b
theorem lexC_zero : ∀ a b : List Int, lexC a b = 0 ↔ a = b
  | [], [] => by simp [lexC]
  | [], _ :: _ => by simp [lexC]
  | _ :: _, [] => by simp [lexC]
  | a :: x, b :: y => by
    simp only [lexC]
    split
    · rename_i h
      rw [cmpZ_zero] at h
      rw [lexC_zero x y, h]; simp
    · rename_i h
      simp only [h, false_iff, List.cons.injEq, not_and]
      intro e; exact absurd ((cmpZ_zero _ _).2 e) h
theorem lexC_trans : ∀ a b c : List Int, lexC a b < 0 → lexC b c < 0 → lexC a c < 0
  | [], [], c, h, _ => by simp [lexC] at h
  | [], _ :: _, [], _, h => by simp [lexC] at h
  | [], _ :: _, _ :: _, _, _ => by simp [lexC]
  | _ :: _, [], _, h, _ => by simp [lexC] at h
  | _ :: _, _ :: _, [], _, h => by simp [lexC] at h
  | a :: x, b :: y, c :: z, h1, h2 => by
    simp only [lexC] at h1 h2 ⊢
    have t := lexC_trans x y z
    have e1 := cmpZ_zero a b; have e2 := cmpZ_zero b c; have e3 := cmpZ_zero a c
    have n1 := cmpZ_neg a b; have n2 := cmpZ_neg b c; have n3 := cmpZ_neg a c
    split at h1 <;> split at h2 <;> split
    all_goals first | exact t h1 h2 | (exfalso; omega) | omega
theorem lexC_total : ∀ a b : List Int, lexC a b = - lexC b a
  | [], [] => by simp [lexC]
  | [], _ :: _ => by simp [lexC]
  | _ :: _, [] => by simp [lexC]
  | a :: x, b :: y => by
    simp only [lexC]
    have := lexC_total x y
    unfold cmpZ
    grind
/-- By their lengths, then as in a dictionary. -/
def cmpS (a b : List Int) : Int := if cmpZ a.length b.length = 0 then lexC a b else cmpZ a.length b.length
theorem cmpS_in (a b : List Int) : -1 ≤ cmpS a b ∧ cmpS a b ≤ 1 := by
  unfold cmpS; split
  · exact lexC_in a b
  · exact cmpZ_in _ _
theorem cmpS_zero (a b : List Int) : cmpS a b = 0 ↔ a = b := by
  unfold cmpS
  split
  · exact lexC_zero a b
  · rename_i h
    simp only [h, false_iff]
    rintro rfl
    exact h ((cmpZ_zero _ _).2 rfl)
theorem cmpS_trans {a b c : List Int} (h1 : cmpS a b < 0) (h2 : cmpS b c < 0) : cmpS a c < 0 := by
  unfold cmpS at *
  have t := lexC_trans a b c
  have e1 := cmpZ_zero a.length b.length; have e2 := cmpZ_zero b.length c.length; have e3 := cmpZ_zero a.length c.length
  have n1 := cmpZ_neg a.length b.length; have n2 := cmpZ_neg b.length c.length; have n3 := cmpZ_neg a.length c.length
  split at h1 <;> split at h2 <;> split
  all_goals first | exact t h1 h2 | (exfalso; omega) | omega
theorem cmpS_total (a b : List Int) : cmpS a b = - cmpS b a := by
  unfold cmpS
  have := lexC_total a b
  unfold cmpZ
  grind
theorem cmpS_short {a b : List Int} (h : a.length < b.length) : cmpS a b < 0 := by
  unfold cmpS cmpZ
  grind
/-- Strictly in order. -/
def sortS (rs : List (List Int)) : Prop := ∀ i (h : i + 1 < rs.length), cmpS rs[i] rs[i + 1] < 0
theorem sortS.lt {rs : List (List Int)} (h : sortS rs) {i j : Nat} (hij : i < j) (hj : j < rs.length) : cmpS rs[i] rs[j] < 0 := by
  induction j with
  | zero => omega
  | succ j ih =>
    have h1 := h j hj
    rcases Nat.lt_or_ge i j with h2 | h2
    · exact cmpS_trans (ih h2 (by omega)) h1
    · obtain rfl : i = j := by omega
      exact h1
theorem sortS.take {rs : List (List Int)} (h : sortS rs) (k : Nat) : sortS (rs.take k) := fun i hi => by
  simp only [List.length_take] at hi
  simp only [List.getElem_take]
  exact h i (by omega)
theorem sortS.nodup {rs : List (List Int)} (h : sortS rs) : rs.Nodup := by
  rw [List.nodup_iff_pairwise_ne, List.pairwise_iff_getElem]
  intro i j hi hj hij e
  have := h.lt hij hj
  rw [e] at this
  have := (cmpS_zero rs[j] rs[j]).2 rfl
  omega
/-- The place of a list, or -1. -/
def ixS (rs : List (List Int)) (s : List Int) : Int := match rs.findIdx? (fun r => decide (r = s)) with
  | some i => i
  | none => -1
theorem ixS_at {rs : List (List Int)} {s : List Int} {i : Nat} (hi : i < rs.length) (h : rs[i] = s) (hb : ∀ j (hj : j < rs.length), j < i → rs[j] ≠ s) : ixS rs s = i := by
  have : rs.findIdx? (fun r => decide (r = s)) = some i := List.findIdx?_eq_some_iff_getElem.2 ⟨hi, by simpa using h, fun j hj => by simpa using hb j (by omega) hj⟩
  unfold ixS; rw [this]
theorem ixS_none {rs : List (List Int)} {s : List Int} (h : s ∉ rs) : ixS rs s = -1 := by
  have : rs.findIdx? (fun r => decide (r = s)) = none := List.findIdx?_eq_none_iff.2 fun a ha => by
    have : a ≠ s := fun e => h (e ▸ ha)
    simpa using this
  unfold ixS; rw [this]
theorem ixS_mem {rs : List (List Int)} {s : List Int} (h : s ∈ rs) : ∃ i, ∃ hi : i < rs.length, rs[i] = s ∧ ixS rs s = i := by
  cases hh : rs.findIdx? (fun r => decide (r = s)) with
  | none =>
    rw [List.findIdx?_eq_none_iff] at hh
    have := hh s h
    simp at this
  | some i =>
    obtain ⟨hi, hq, hb⟩ := List.findIdx?_eq_some_iff_getElem.1 hh
    exact ⟨i, hi, by simpa using hq, by unfold ixS; rw [hh]⟩
theorem ixS_neg {rs : List (List Int)} {s : List Int} : ixS rs s < 0 ↔ s ∉ rs := by
  constructor
  · intro h hm
    obtain ⟨i, hi, _, e⟩ := ixS_mem hm
    omega
  · intro h
    rw [ixS_none h]; omega
theorem sortS.ix {rs : List (List Int)} (h : sortS rs) {i : Nat} (hi : i < rs.length) : ixS rs rs[i] = i :=
  ixS_at hi rfl fun j hj hji e => by
    have := h.lt hji hi
    rw [e] at this
    have := (cmpS_zero rs[i] rs[i]).2 rfl
    omega
/-- Without the number at a place. -/
def dropK (s : List Int) (k : Nat) : List Int := s.take k ++ s.drop (k + 1)
theorem dropK_length {s : List Int} {k : Nat} (h : k < s.length) : (dropK s k).length + 1 = s.length := by
  simp [dropK]; omega
/-- The faces with one vertex less. -/
def faces (s : List Int) : List (List Int) := if 1 < s.length then (List.range s.length).map (dropK s) else []
theorem faces_mem {s f : List Int} : f ∈ faces s ↔ 1 < s.length ∧ ∃ k, k < s.length ∧ dropK s k = f := by
  unfold faces
  split
  · rename_i h; simp [h]
  · rename_i h; simp [h]
theorem faces_short {s f : List Int} (h : f ∈ faces s) : f.length < s.length := by
  obtain ⟨_, k, hk, rfl⟩ := faces_mem.1 h
  have := dropK_length hk
  omega
def riseS (s : List Int) : Prop := ∀ j (h : j + 1 < s.length), s[j] < s[j + 1]
noncomputable instance (s : List Int) : Decidable (riseS s) := Classical.propDecidable _
/-- A simplex. -/
def smOk (s : List Int) : Prop := (1 ≤ s.length ∧ s.length ≤ 4) ∧ riseS s ∧ ∀ v ∈ s, 0 ≤ v ∧ v ≤ 9
noncomputable instance (s : List Int) : Decidable (smOk s) := Classical.propDecidable _
/-- The i-th simplex is as it must be. -/
def cxAt (rs : List (List Int)) (i : Nat) (h : i < rs.length) : Prop := smOk rs[i] ∧ (0 < i → cmpS rs[i - 1] rs[i] < 0) ∧ ∀ f ∈ faces rs[i], f ∈ rs
/-- A complex. -/
def cxOk (rs : List (List Int)) : Prop := (∀ i (h : i < rs.length), cxAt rs i h) ∧ rs.length ≤ 48
noncomputable instance (rs : List (List Int)) : Decidable (cxOk rs) := Classical.propDecidable _
theorem cxOk.sort {rs : List (List Int)} (h : cxOk rs) : sortS rs := fun i hi => (h.1 (i + 1) hi).2.1 (by omega)
/-- The same, with faces ahead of it. -/
def cxAtB (rs : List (List Int)) (i : Nat) (h : i < rs.length) : Prop := smOk rs[i] ∧ (0 < i → cmpS rs[i - 1] rs[i] < 0) ∧ ∀ f ∈ faces rs[i], f ∈ rs.take i
theorem cxOk_iff (rs : List (List Int)) : cxOk rs ↔ (∀ i (h : i < rs.length), cxAtB rs i h) ∧ rs.length ≤ 48 := by
  constructor
  · intro h
    refine ⟨fun i hi => ⟨(h.1 i hi).1, (h.1 i hi).2.1, fun f hf => ?_⟩, h.2⟩
    have h1 := (h.1 i hi).2.2 f hf
    obtain ⟨j, hj, rfl⟩ := List.mem_iff_getElem.1 h1
    have h2 := cmpS_short (faces_short hf)
    rcases Nat.lt_trichotomy j i with h3 | rfl | h3
    · exact List.mem_iff_getElem.2 ⟨j, by simp; omega, by simp⟩
    · have := (cmpS_zero rs[j] rs[j]).2 rfl; omega
    · have := h.sort.lt h3 hj
      have h4 := cmpS_total rs[i] rs[j]
      omega
  · intro h
    exact ⟨fun i hi => ⟨(h.1 i hi).1, (h.1 i hi).2.1, fun f hf => List.mem_of_mem_take ((h.1 i hi).2.2 f hf)⟩, h.2⟩
structure Fil where
  rs : List (List Int)
  ts : List Int
  deriving DecidableEq
def Fil.faceOk (x : Fil) (k : Nat) (h : k < x.rs.length) : Prop := ∀ f ∈ faces x.rs[k], x.ts.getD (ixS x.rs f).toNat 0 ≤ x.ts.getD k 0
/-- A filtration. -/
def Fil.valid (x : Fil) : Prop := cxOk x.rs ∧ (x.ts.length = x.rs.length ∧ ∀ t ∈ x.ts, 0 ≤ t ∧ t ≤ 1000) ∧ ∀ k (h : k < x.rs.length), x.faceOk k h
noncomputable instance (x : Fil) : Decidable x.valid := Classical.propDecidable _
end Go.AG
