/- The reference's forest of a graph and the phases along it: what they are. No statement is made here. -/
import Derived.Test.YtdjamhallkijmaaPhFor
namespace Go.AG
open Go.Proofs Go.Proofs.Ytdjamhallkijmaa
set_option linter.unusedSimpArgs false
set_option linter.unusedVariables false
set_option maxRecDepth 4000
/-- One edge more: parts, phases, edges that join parts. -/
def fstep (x : Ph) (i : Nat) (s : List Int × List Int × List Int) : List Int × List Int × List Int :=
  let t := x.ts.getD i default
  let a := s.1.getD t.f.toNat 0
  let b := s.1.getD t.t.toNat 0
  if a = b then s else
    let d := (s.2.1.getD t.f.toNat 0 + t.s - s.2.1.getD t.t.toNat 0) % x.m
    (s.1.map fun c => if c = b then a else c, List.zipWith (fun c q => if c = b then (q + d) % x.m else q) s.1 s.2.1, s.2.2 ++ [(i : Int)])
def fstate (x : Ph) : Nat → List Int × List Int × List Int
  | 0 => ((List.range x.n.toNat).map Int.ofNat, List.replicate x.n.toNat 0, [])
  | i + 1 => fstep x i (fstate x i)
def fsti (P : List Int) (v : Nat) : Nat := P.findIdx fun c => decide (c = P.getD v 0)
def norm1 (m : Int) (P F : List Int) : List Int := (List.range F.length).map fun v => if fsti P v < v then (F.getD v 0 - F.getD (fsti P v) 0) % m else F.getD v 0
def norm2 (P F : List Int) : List Int := (List.range F.length).map fun v => if fsti P v = v then 0 else F.getD v 0
def Ph.forest (x : Ph) : List Int := (fstate x x.ts.length).2.2
def Ph.pots (x : Ph) : List Int := norm2 (fstate x x.ts.length).1 (norm1 x.m (fstate x x.ts.length).1 (fstate x x.ts.length).2.1)
theorem fsti_spec {P : List Int} {v : Nat} (hv : v < P.length) : ∃ (hk : fsti P v ≤ v), P[fsti P v] = P[v] ∧ ∀ (j : Nat) (hj : j < fsti P v), P[j] ≠ P[v] := by
  have hg : P.getD v 0 = P[v] := by simp [hv]
  have hle : fsti P v ≤ v := by
    refine Nat.le_of_not_lt fun hlt => ?_
    have := List.not_of_lt_findIdx hlt
    simp [hv] at this
  refine ⟨hle, ?_, fun j hj => ?_⟩
  · have := List.findIdx_getElem (p := fun c => decide (c = P.getD v 0)) (xs := P) (w := show fsti P v < P.length by omega)
    unfold fsti
    simpa [hv] using this
  · have := List.not_of_lt_findIdx hj
    simpa [hv] using this
theorem fsti_idem {P : List Int} {v : Nat} (hv : v < P.length) : fsti P (fsti P v) = fsti P v := by
  obtain ⟨hk, h1, _⟩ := fsti_spec hv
  unfold fsti
  congr 1
  funext c
  have e1 : P.getD (fsti P v) 0 = P[fsti P v] := by simp [show fsti P v < P.length by omega]
  have e2 : P.getD v 0 = P[v] := by simp [hv]
  have : P.getD (P.findIdx fun c => decide (c = P.getD v 0)) 0 = P.getD v 0 := by rw [show (P.findIdx fun c => decide (c = P.getD v 0)) = fsti P v from rfl, e1, e2, h1]
  rw [this]
structure FOk (x : Ph) (s : List Int × List Int × List Int) : Prop where
  p : s.1.length = x.n.toNat
  f : s.2.1.length = x.n.toNat
  b : ∀ (v : Nat) (h : v < s.2.1.length), 0 ≤ s.2.1[v] ∧ s.2.1[v] < x.m
theorem fstep_len (x : Ph) (i : Nat) (s : List Int × List Int × List Int) : (fstep x i s).2.2.length ≤ s.2.2.length + 1 := by
  unfold fstep
  simp only
  split <;> simp
theorem fstate_len (x : Ph) : ∀ i, (fstate x i).2.2.length ≤ i
  | 0 => by simp [fstate]
  | i + 1 => by have := fstate_len x i; have := fstep_len x i (fstate x i); simp only [fstate]; omega
theorem fstep_ok {x : Ph} (hm : 2 ≤ x.m) {i : Nat} {s : List Int × List Int × List Int} (o : FOk x s) : FOk x (fstep x i s) := by
  unfold fstep
  simp only
  split
  · exact o
  · refine ⟨by simp [o.p], by simp [o.p, o.f], fun v h => ?_⟩
    simp only [List.length_zipWith] at h
    simp only [List.getElem_zipWith]
    split
    · exact ⟨Int.emod_nonneg _ (by omega), Int.emod_lt_of_pos _ (by omega)⟩
    · exact o.b v (by omega)
theorem fstate_ok {x : Ph} (hm : 2 ≤ x.m) : ∀ i, FOk x (fstate x i)
  | 0 => ⟨by simp [fstate], by simp [fstate], fun v h => by simp [fstate]; omega⟩
  | i + 1 => fstep_ok hm (fstate_ok hm i)
theorem l23Forest_c (x : Ph) (h : Heap) (hv : x.valid) : ACalls Try.prog 49 [.ip [.int .i64 x.n, .int .i64 x.m, .snap 3 (x.ts.map T.av)], .snap 1 []] h (fun v h' => v = .tup [.snap 1 (x.forest.map iv), .snap 1 (x.pots.map iv)] ∧ h' = h) := by
  have hn1 := hv.1
  have hn2 := hv.2.1
  have hm1 := hv.2.2.1
  have hm2 := hv.2.2.2.1
  have hl2 := hv.2.2.2.2.2
  have fo := fstate_ok (x := x) hm1
  have fl := fstate_len x
  have f0 : fstate x 0 = ((List.range x.n.toNat).map Int.ofNat, List.replicate x.n.toNat 0, []) := rfl
  obtain ⟨N, hN⟩ : ∃ N : Nat, x.n.toNat = N := ⟨_, rfl⟩
  have hNx : x.n = (N : Int) := by omega
  have foP := fun i => (fo i).p
  have foF := fun i => (fo i).f
  have foB := fun i => (fo i).b
  simp only [hN] at foP foF f0
  have hN12 : N ≤ 12 := by omega
  refine k49_of rfl orcT2_p fun I => ?_
  refine Run2.of I 1000 ?_
  simp -implicitDefEqProofs
  refine Run2.loopE (α := Nat × (AV × Heap) × (AV × Heap)) (fun s => [(0, .ip [.int .i64 x.n, .int .i64 x.m, .snap 3 (x.ts.map T.av)]), (1, .snap 1 []), (6, s.2.1.1), (7, s.2.2.1), (8, .int .i64 (s.1 : Nat))])
    (fun s => s.2.2.2 ++ (s.2.1.2 ++ h)) (fun s => N - s.1) (fun s => s.1 ≤ N ∧ Grow 1 s.2.1.1 (((List.range s.1).map Int.ofNat).map iv) s.2.1.2 ∧ Grow 1 s.2.2.1 ((List.replicate s.1 0).map iv) s.2.2.2 ∧ (∀ j ∈ dom s.2.1.2, j ∉ dom h) ∧ (∀ j ∈ dom s.2.2.2, j ∉ dom (s.2.1.2 ++ h))) (0, (.emp, []), (.emp, [])) (by simp) rfl ⟨Nat.zero_le _, by simpa using Grow.emp, by simpa using Grow.emp, by simp [dom], by simp [dom]⟩ ?_
  rintro ⟨v, ⟨wp, gp⟩, ⟨wf, gf⟩⟩ ⟨hi, hgp, hgf, hd1, hd2⟩ ih
  simp only at hi hgp hgf hd1 hd2 ih ⊢
  by_cases hlt : v < N
  · have hlt' : (v : Int) < x.n := by omega
    have go := fun wp' gp' wf' gf' a b c d => ih (v + 1, (wp', gp'), (wf', gf')) ⟨by simp; omega, a, b, c, d⟩ (by simp; omega)
    clear ih
    refine Run2.of I 1000 ?_
    simp -implicitDefEqProofs [hlt']
    refine Grow.app_mid (pre := gf) hgp (fun j hj hj2 => hd2 j hj2 (by simp [hj])) (by simp; omega) (by simp) fun wp' gp' hgp' hf1 => ?_
    simp -implicitDefEqProofs
    refine Grow.app_mid (pre := gp') hgf (fun j hj hj2 => hf1 j hj2 (by simp [hj])) (by simp; omega) (by simp) fun wf' gf' hgf' hf2 => ?_
    simp -implicitDefEqProofs
    refine ⟨by omega, ?_⟩
    have := go wp' gp' wf' gf' (by simpa [List.range_succ] using hgp') (by simpa [List.replicate_succ'] using hgf') (fun j hj hj2 => hf1 j hj (by simp [hj2])) hf2
    simpa using this
  · obtain rfl : v = N := by omega
    clear ih
    have hlt' : ¬ (v : Int) < x.n := by omega
    generalize hLp : ((List.range v).map Int.ofNat).map iv = Lp at hgp
    generalize hLf : (List.replicate v (0 : Int)).map iv = Lf at hgf
    cases hgp with
    | nil => have := congrArg List.length hLp; simp at this; omega
    | emp => have := congrArg List.length hLp; simp at this; omega
    | sl idp _ np hnp =>
    cases hgf with
    | nil => have := congrArg List.length hLf; simp at this; omega
    | emp => have := congrArg List.length hLf; simp at this; omega
    | sl idf _ nf hnf =>
    obtain rfl : v = np := by rw [hnp, ← hLp]; simp
    obtain rfl : v = nf := by rw [hnf, ← hLf]; simp
    subst hLp; subst hLf
    have hne : ¬ idf = idp := fun hh => hd2 idf (by simp [dom]) (by simp [dom, hh])
    have hph : idp ∉ dom h := hd1 idp (by simp [dom])
    have hfh : idf ∉ dom h := fun hh => hd2 idf (by simp [dom]) (by simp [hh])
    clear hd1 hd2 hnp hnf
    refine Run2.of I 1000 ?_
    simp -implicitDefEqProofs [hlt']
    refine Run2.loopE (α := Nat × AV × Heap) (fun s => [(0, .ip [.int .i64 x.n, .int .i64 x.m, .snap 3 (x.ts.map T.av)]), (1, .snap 1 []), (6, .sl idp 1 0 v none), (7, .sl idf 1 0 v none), (9, s.2.1), (10, .int .i64 (s.1 : Nat))])
      (fun s => s.2.2 ++ ((idf, ⟨1, (fstate x s.1).2.1.map iv⟩) :: (idp, ⟨1, (fstate x s.1).1.map iv⟩) :: h)) (fun s => x.ts.length - s.1) (fun s => s.1 ≤ x.ts.length ∧ Grow 1 s.2.1 ((fstate x s.1).2.2.map iv) s.2.2 ∧ idp ∉ dom s.2.2 ∧ idf ∉ dom s.2.2) (0, .emp, []) (by simp) (by simp [f0]) ⟨Nat.zero_le _, by simpa [f0] using Grow.emp, by simp [dom], by simp [dom]⟩ ?_
    rintro ⟨i, u, ga⟩ ⟨hi2, hg, hpa, hfa⟩ ih
    simp only at hi2 hg hpa hfa ih ⊢
    have foP := foP i
    have foF := foF i
    have foB := foB i
    have fl := fl i
    by_cases hlt2 : i < x.ts.length
    · have go := fun w' ga' a b c => ih (i + 1, w', ga') ⟨by simp; omega, a, b, c⟩ (by simp; omega)
      clear ih
      have hst : fstate x (i + 1) = fstep x i (fstate x i) := rfl
      generalize hS : fstate x i = S at *
      obtain ⟨P, F, out⟩ := S
      simp only at foP foF foB hg fl
      obtain ⟨e1, e2, e3, e4, e5⟩ := Ph.edge hv hlt2
      have ef : x.ts[i].f.toNat < P.length := by omega
      have et : x.ts[i].t.toNat < P.length := by omega
      have ef' : x.ts[i].f.toNat < F.length := by omega
      have et' : x.ts[i].t.toNat < F.length := by omega
      have e6 : 0 ≤ x.ts[i].t := by omega
      have evf : x.ts[i].f.toNat < v := by omega
      have evt : x.ts[i].t.toNat < v := by omega
      have hs2 : fstep x i (P, F, out) = if P[x.ts[i].f.toNat] = P[x.ts[i].t.toNat] then (P, F, out) else
          (P.map fun c => if c = P[x.ts[i].t.toNat] then P[x.ts[i].f.toNat] else c, List.zipWith (fun c q => if c = P[x.ts[i].t.toNat] then (q + (F[x.ts[i].f.toNat] + x.ts[i].s - F[x.ts[i].t.toNat]) % x.m) % x.m else q) P F, out ++ [(i : Int)]) := by
        unfold fstep
        simp [hlt2, ef, et, ef', et']
      have bf := foB _ ef'
      have bt := foB _ et'
      by_cases hab : P[x.ts[i].f.toNat] = P[x.ts[i].t.toNat]
      · rw [if_pos hab] at hs2
        refine Run2.of I 1000 ?_
        simp -implicitDefEqProofs [hlt2, hget_app hpa, hget_app hfa, hne, e1, e6, ef, et, evf, evt, hab]
        refine ⟨by omega, ?_⟩
        have := go u ga (by simp only [hst, hs2]; exact hg) hpa hfa
        simp only [hst, hs2] at this
        simpa using this
      · rw [if_neg hab] at hs2
        refine Run2.of I 1000 ?_
        simp -implicitDefEqProofs [hlt2, hget_app hpa, hget_app hfa, hne, e1, e6, ef, et, evf, evt, hab]
        refine Grow.app_mid (pre := []) hg (fun j hj => by simp [dom]) (by simp; omega) (by simp) fun w' ga' hg' hf => ?_
        have hfb : idf ∉ dom ga' := fun h => hf idf h (by simp [dom])
        have hpb : idp ∉ dom ga' := fun h => hf idp h (by simp [dom])
        simp -implicitDefEqProofs [hget_app hpb, hget_app hfb, hne, e1, e6, ef', et', evf, evt]
        refine ⟨by omega, by omega, by omega, ?_⟩
        have go := go w' ga' (by simp only [hst, hs2]; simpa using hg') hpb hfb
        simp only [hst, hs2] at go
        refine for_inner (x := x) (P' := P.map fun c => if c = P[x.ts[i].t.toNat] then P[x.ts[i].f.toNat] else c) (F' := List.zipWith (fun c q => if c = P[x.ts[i].t.toNat] then (q + (F[x.ts[i].f.toNat] + x.ts[i].s - F[x.ts[i].t.toNat]) % x.m) % x.m else q) P F)
          I hne hpb hfb foP foF (by simp [foP]) (by simp [foP, foF]) (fun v h1 h2 => by simp) (fun v h1 h2 h3 => by simp) foB ⟨Int.emod_nonneg _ (by omega), Int.emod_lt_of_pos _ (by omega)⟩ hm2 hN12 ?_
        simp -implicitDefEqProofs
        refine ⟨by omega, ?_⟩
        simpa using go
    · obtain rfl : i = x.ts.length := by omega
      clear ih
      have hfo : (fstate x x.ts.length).2.2 = x.forest := rfl
      have hpo : norm2 (fstate x x.ts.length).1 (norm1 x.m (fstate x x.ts.length).1 (fstate x x.ts.length).2.1) = x.pots := rfl
      generalize hS : fstate x x.ts.length = S at *
      obtain ⟨P, F, out⟩ := S
      simp only at foP foF foB hg fl hfo hpo ⊢
      subst hfo
      have hfP := fun (v : Nat) (hv : v < P.length) => fsti_spec hv
      have n1l : (norm1 x.m P F).length = v := by simp [norm1, foF]
      have n2l : (norm2 P (norm1 x.m P F)).length = v := by simp [norm2, n1l]
      refine Run2.of I 1000 ?_
      simp -implicitDefEqProofs
      refine for_norm1 (x := x) (F' := norm1 x.m P F) I (fsti P) hne hpa hfa foP foF n1l hfP (fun v hv => fsti_idem (by omega)) (fun v h1 h2 h3 => ?_) foB ⟨hm1, hm2⟩ hN12 ?_
      · simp [norm1, h1, h3]
      simp -implicitDefEqProofs
      refine for_norm2 (x := x) (F' := norm2 P (norm1 x.m P F)) I (fsti P) hne hpa hfa foP n1l n2l hfP (fun v hv => fsti_idem (by omega)) (fun v h1 h2 h3 => ?_) (fun j h1 => ?_) ⟨hm1, hm2⟩ hN12 ?_
      · simp [norm2, h1]
      · have hvF : j < F.length := by omega
        simp only [norm1, List.getElem_map, List.getElem_range]
        split
        · exact ⟨Int.emod_nonneg _ (by omega), Int.emod_lt_of_pos _ (by omega)⟩
        · simp only [List.getD_eq_getElem?_getD, List.getElem?_eq_getElem hvF, Option.getD_some]; exact foB _ hvF
      simp -implicitDefEqProofs
      rw [hpo]
      have hpl : (x.pots.map iv).length = v := by rw [← hpo]; simp [n2l]
      have hpl2 : v ≤ x.pots.length := by rw [List.length_map] at hpl; omega
      have hpl3 : x.pots.length ≤ v := by rw [List.length_map] at hpl; omega
      generalize hO : x.forest.map iv = O at hg
      cases hg with
      | nil =>
        refine .wk (.tup (.cons (.nil 1) (.cons (.refl _) .nil))) (.freeze idf (by simp [hget]; rfl) (.drop idp (.base ?_)))
        simp [hdel, hne, hpl2]
        rw [List.take_of_length_le (by simpa using hpl3)]
      | emp =>
        refine .wk (.tup (.cons (.emp 1) (.cons (.refl _) .nil))) (.freeze idf (by simp [hget]; rfl) (.drop idp (.base ?_)))
        simp [hdel, hne, hpl2]
        rw [List.take_of_length_le (by simpa using hpl3)]
      | sl idu _ nu hnu =>
        have hu1 : ¬ idu = idf := fun h => hfa (by simp [dom, h])
        have hu2 : ¬ idu = idp := fun h => hpa (by simp [dom, h])
        refine .freeze idu (by simp [hget]; rfl) (.freeze idf (by simp [hget, hdel]; rfl) (.drop idp (.base ?_)))
        subst hO
        simp [hdel, hne, hu1, hu2, hnu, Ne.symm hu1, hpl2]
        exact ⟨by rw [List.take_of_length_le (by simp)]; exact fzs_iv _ _ _, List.take_of_length_le (by simpa using hpl3)⟩
end Go.AG
