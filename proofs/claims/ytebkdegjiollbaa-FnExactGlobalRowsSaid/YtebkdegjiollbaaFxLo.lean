/- Times by the greatest value of the vertices: vertices, their values. No statement is made here. -/
import Derived.Test.YtebkdegjiollbaaFxHz
namespace Go.AG
open Go.Proofs Go.Proofs.Ytebkdegjiollbaa
set_option linter.unusedSimpArgs false
set_option linter.unusedVariables false
set_option maxRecDepth 4000
/-- The vertices. -/
def vt (rs : List (List Int)) : List Int := (rs.filter fun r => decide (r.length = 1)).map fun r => r.getD 0 0
theorem vt_pos {rs : List (List Int)} {i : Nat} (hi : i < rs.length) (h : rs[i].length = 1) : vt (rs.take (i + 1)) = vt (rs.take i) ++ [rs[i].getD 0 0] := by
  unfold vt
  rw [List.take_succ_eq_append_getElem hi, List.filter_append, List.map_append]
  simp [h]
theorem vt_neg {rs : List (List Int)} {i : Nat} (hi : i < rs.length) (h : ¬ rs[i].length = 1) : vt (rs.take (i + 1)) = vt (rs.take i) := by
  unfold vt
  rw [List.take_succ_eq_append_getElem hi, List.filter_append, List.map_append]
  simp [h]
theorem vt_len (rs : List (List Int)) : (vt rs).length ≤ rs.length := by
  unfold vt
  rw [List.length_map]
  exact List.length_filter_le ..
theorem vt_in {rs : List (List Int)} (h : cxOk rs) : ∀ (n : Nat) (s : List Int), s.length = n → s ∈ rs → ∀ v ∈ s, v ∈ vt rs := by
  intro n
  induction n using Nat.strongRecOn with
  | ind n ih =>
    intro s hn hs v hv
    obtain ⟨p, hp, rfl⟩ := List.mem_iff_getElem.1 hv
    by_cases h1 : s.length = 1
    · have hp0 : p = 0 := by omega
      subst hp0
      unfold vt
      exact List.mem_map.2 ⟨s, List.mem_filter.2 ⟨hs, by simpa using h1⟩, by simp [h1]⟩
    · have hk : ∃ k, k < s.length ∧ k ≠ p := by
        by_cases h0 : p = 0
        · exact ⟨1, by omega, by omega⟩
        · exact ⟨0, by omega, by omega⟩
      obtain ⟨k, hk, hne⟩ := hk
      have hf : dropK s k ∈ faces s := faces_mem.2 ⟨by omega, k, hk, rfl⟩
      refine ih _ ?_ (dropK s k) rfl ((h.mem hs).2 _ hf) _ ?_
      · have := dropK_length hk; omega
      · unfold dropK
        rw [List.mem_append]
        rcases Nat.lt_or_gt_of_ne hne with h2 | h2
        · exact .inr (List.mem_iff_getElem.2 ⟨p - (k + 1), by simp; omega, by simp; congr 1; omega⟩)
        · exact .inl (List.mem_iff_getElem.2 ⟨p, by simp; omega, by simp⟩)
theorem ixI_at {l : List Int} {v : Int} (h : v ∈ l) : ∃ (k : Nat) (hk : k < l.length), ixI l v = k ∧ l[k] = v := by
  unfold ixI idxf
  cases hf : l.findIdx? (fun a => decide (v = a)) with
  | none =>
    have := List.findIdx?_eq_none_iff.1 hf v h
    simp at this
  | some k =>
    obtain ⟨hk, h1, _⟩ := List.findIdx?_eq_some_iff_getElem.1 hf
    exact ⟨k, hk, rfl, by simpa using (of_decide_eq_true h1).symm⟩
/-- The value of a vertex. -/
def vl (vs xs : List Int) (v : Int) : Int := xs.getD (ixI vs v).toNat 0
theorem vl_at {vs xs : List Int} (hlen : xs.length = vs.length) {v : Int} (h : v ∈ vs) : ∃ (k : Nat) (hk : k < vs.length) (hx : k < xs.length), ixI vs v = k ∧ vs[k] = v ∧ xs[k] = vl vs xs v := by
  obtain ⟨k, hk, e1, e2⟩ := ixI_at h
  have hx : k < xs.length := by omega
  exact ⟨k, hk, hx, e1, e2, by unfold vl; rw [e1]; simp [hx]⟩
def low (vs xs : List Int) (s : List Int) : Int := s.foldl (fun m v => max m (vl vs xs v)) 0
theorem low_succ (vs xs : List Int) {s : List Int} {j : Nat} (hj : j < s.length) : low vs xs (s.take (j + 1)) = max (low vs xs (s.take j)) (vl vs xs s[j]) := by
  unfold low
  rw [List.take_succ_eq_append_getElem hj, List.foldl_append]
  rfl
abbrev k109_o0 : List AJ := [.o ⟨(some 1), none, false, .box false 1 (.t 0), none⟩, .o ⟨(some 2), none, false, .mv (.c .nilsl), (some [1])⟩]
abbrev k109_o1 : List AJ := [.o ⟨(some 3), none, false, .mv (.c .nilsl), (some [1, 3])⟩]
abbrev k109_o2 : List AJ := [.o ⟨(some 6), none, false, .fieldA 0 (.t 1), none⟩, .o ⟨(some 7), none, false, .load 1 false (.t 6), none⟩, .o ⟨(some 8), none, false, .len (.t 7), none⟩, .o ⟨(some 9), none, false, .mv (.c (.int .i64 0)), (some [3, 7, 8, 9])⟩]
abbrev k109_o3 : List AJ := [.o ⟨(some 10), none, false, .bin .lss (.t 9) (.t 8), (some [3, 7, 8, 9, 10])⟩]
abbrev k109_o4 : List AJ := [.o ⟨(some 11), none, false, .idxA 1 (.t 7) (.t 9), none⟩, .o ⟨(some 12), none, false, .load 1 false (.t 11), none⟩, .o ⟨(some 5), none, false, .mv (.t 12), (some [3, 5, 7, 8, 9])⟩]
abbrev k109_o5 : List AJ := [.o ⟨(some 13), none, false, .mv (.t 5), none⟩, .o ⟨(some 14), none, false, .len (.t 13), none⟩, .o ⟨(some 15), none, false, .bin .eql (.t 14) (.c (.int .i64 1)), (some [3, 5, 7, 8, 9, 15])⟩]
abbrev k109_o6 : List AJ := [.o ⟨(some 16), none, false, .mv (.t 3), none⟩, .o ⟨(some 17), none, false, .mv (.t 5), none⟩, .o ⟨(some 18), none, false, .idxA 1 (.t 17) (.c (.int .i64 0)), none⟩, .o ⟨(some 19), none, false, .load 1 false (.t 18), none⟩, .o ⟨(some 20), none, false, .bsl false 1 [(.t 19)], none⟩, .o ⟨(some 21), none, false, .append 1 8 (.t 16) (.t 20), none⟩, .o ⟨(some 3), none, false, .mv (.t 21), (some [3, 7, 8, 9])⟩]
def k109_7 : ACode := .region k109_o6
def k109_8 : ACode := .cond (.t 15) k109_7 .skip
def k109_9 : ACode := .seq (.region k109_o5) k109_8
def k109_10 : ACode := .seq (.region k109_o4) k109_9
abbrev k109_o7 : List AJ := [.o ⟨(some 22), none, true, .bin .add (.t 9) (.c (.int .i64 1)), none⟩, .o ⟨(some 9), none, false, .mv (.t 22), (some [3, 7, 8, 9])⟩]
def k109_12 : ACode := .region k109_o7
def k109_13 : ACode := .seq (.block 1 k109_10) k109_12
def k109_14 : ACode := .seq (.cond (.t 10) .skip (.exit 0)) k109_13
def k109_15 : ACode := .seq (.region k109_o3) k109_14
def k109_16 : ACode := .loop k109_15
def k109_17 : ACode := .block 0 k109_16
def k109_18 : ACode := .seq (.region k109_o2) k109_17
abbrev k109_o8 : List AJ := [.o ⟨(some 23), none, false, .mv (.t 3), none⟩, .o ⟨(some 2), none, false, .mv (.t 23), (some [2])⟩]
def k109_20 : ACode := .seq (.region k109_o8) .ret
def k109_21 : ACode := .seq k109_18 k109_20
def k109_22 : ACode := .seq (.region k109_o1) k109_21
def k109_23 : ACode := .seq (.region k109_o0) k109_22
@[simp, simp ↓] theorem k109_7r : rR k109_7 k109_o6 := zR rfl
@[simp, simp ↓] theorem k109_8r : rC k109_8 (.t 15) k109_7 .skip := zC rfl
@[simp, simp ↓] theorem k109_9r : sR k109_9 k109_o5 k109_8 := yR rfl
@[simp, simp ↓] theorem k109_10r : sR k109_10 k109_o4 k109_9 := yR rfl
@[simp, simp ↓] theorem k109_12r : rR k109_12 k109_o7 := zR rfl
@[simp, simp ↓] theorem k109_13r : sB k109_13 1 k109_10 k109_12 := yB rfl
@[simp, simp ↓] theorem k109_14r : sC k109_14 (.t 10) .skip (.exit 0) k109_13 := yC rfl
@[simp, simp ↓] theorem k109_15r : sR k109_15 k109_o3 k109_14 := yR rfl
@[simp, simp ↓] theorem k109_16r : rL k109_16 k109_15 := zL rfl
@[simp, simp ↓] theorem k109_17r : rB k109_17 0 k109_16 := zB rfl
@[simp, simp ↓] theorem k109_18r : sR k109_18 k109_o2 k109_17 := yR rfl
@[simp, simp ↓] theorem k109_20r : sR k109_20 k109_o8 .ret := yR rfl
@[simp, simp ↓] theorem k109_21r : rS k109_21 k109_18 k109_20 := zS rfl
@[simp, simp ↓] theorem k109_22r : sR k109_22 k109_o1 k109_21 := yR rfl
@[simp, simp ↓] theorem k109_23r : sR k109_23 k109_o0 k109_22 := yR rfl
noncomputable abbrev k109_C : Orc → Cx := mkC Try.prog [] 109 24 [.tmp 2]
theorem k109_of : OfP Try.prog Try.f109 109 24 k109_C k109_23 := @ofP _ _ _ _ _ _ _ _ Try.func109 (by decide +kernel) rfl (by kernel_rfl) rfl (by kernel_rfl)
theorem vtx_s (rs : List (List Int)) (h : Heap) (hl : ssTot rs ≤ 1048576) : ACalls Try.prog 109 [cx rs] h (fun v h' => v = .snap 1 ((vt rs).map iv) ∧ h' = h) := by
  have hf := fit_of_tot hl
  have hn := hf.1
  refine k109_of rfl noPure fun I => ?_
  refine Run2.of I 1000 ?_
  simp -implicitDefEqProofs
  refine Run2.loopE (α := Nat × AV × Heap) (fun p => [(3, p.2.1), (7, .snap 1 (rs.map il)), (8, .int .i64 rs.length), (9, .int .i64 (p.1 : Nat))]) (fun p => p.2.2 ++ h) (fun p => rs.length - p.1) (fun p => p.1 ≤ rs.length ∧ Grow 1 p.2.1 ((vt (rs.take p.1)).map iv) p.2.2) (0, .nilsl, []) (by simp) rfl ⟨Nat.zero_le _, by simpa [vt] using Grow.nil⟩ ?_
  rintro ⟨i, w, hp⟩ ⟨hi, hg⟩ ih
  simp only at hi hg
  have hcell := hg.cell
  by_cases hlt : i < rs.length
  · have hvl := vt_len (rs.take i)
    rw [List.length_take] at hvl
    by_cases h1 : rs[i].length = 1
    · have go := fun w' hp' (g : Grow 1 w' ((vt (rs.take i)).map iv ++ [.int .i64 (rs[i].getD 0 0)]) hp') => ih (i + 1, w', hp') ⟨hlt, by
        simp only
        rw [vt_pos hlt h1, List.map_append]
        exact g⟩ (by simp; omega)
      have h0 : (rs[i])[0]?.getD 0 = (rs[i])[0]'(by omega) := by simp [h1]
      clear ih
      refine Run2.of I 1000 ?_
      simp -implicitDefEqProofs [hlt, h1, hcell]
      refine hg.app (by simp; omega) (by simp) fun w' hp' hg' => ?_
      have hcell' := hg'.cell
      have := go w' hp' (by simpa [h1] using hg')
      simp -implicitDefEqProofs [hcell']
      refine ⟨by omega, ?_⟩
      simpa using this
    · have h1' : ¬ (rs[i].length : Int) = 1 := by omega
      have go := ih (i + 1, w, hp) ⟨hlt, by simp only; rw [vt_neg hlt h1]; exact hg⟩ (by simp; omega)
      clear ih
      refine Run2.of I 1000 ?_
      simp -implicitDefEqProofs [hlt, h1', hcell]
      refine ⟨by omega, ?_⟩
      simpa using go
  · obtain rfl : i = rs.length := by omega
    rw [List.take_length] at hg
    refine Run2.of I 1000 ?_
    simp -implicitDefEqProofs [hlt, hcell]
    exact hg.froze (fun x => x) (fun _ _ _ => rfl) (fun _ _ h => h) (.base ⟨rfl, rfl⟩)
abbrev k55_o0 : List AJ := [.o ⟨(some 2), none, false, .mv (.c .nilsl), (some [0])⟩]
abbrev k55_o1 : List AJ := [.e 5 1 none, .o ⟨(some 3), none, false, .mv (.t 5), (some [0, 3])⟩]
abbrev k55_o2 : List AJ := [.o ⟨(some 4), none, false, .mv (.c (.int .i64 0)), (some [0, 3, 4])⟩]
abbrev k55_o3 : List AJ := [.o ⟨(some 6), none, false, .mv (.t 4), none⟩, .o ⟨(some 7), none, false, .mv (.t 0), none⟩, .o ⟨(some 8), none, false, .nilchk (.t 7), none⟩, .o ⟨(some 9), none, false, .fieldA 0 (.t 8), none⟩, .o ⟨(some 10), none, false, .load 1 false (.t 9), none⟩, .o ⟨(some 11), none, false, .len (.t 10), none⟩, .o ⟨(some 12), none, false, .bin .lss (.t 6) (.t 11), (some [0, 3, 4, 12])⟩]
def k55_4 : ACode := .cond (.t 12) .skip (.exit 0)
def k55_5 : ACode := .seq (.region k55_o3) k55_4
abbrev k55_o4 : List AJ := [.o ⟨(some 15), none, false, .mv (.t 0), none⟩, .o ⟨(some 16), none, false, .nilchk (.t 15), none⟩, .o ⟨(some 17), none, false, .fieldA 0 (.t 16), none⟩, .o ⟨(some 18), none, false, .load 1 false (.t 17), none⟩, .o ⟨(some 19), none, false, .mv (.t 4), none⟩, .o ⟨(some 20), none, false, .idxA 1 (.t 18) (.t 19), none⟩, .o ⟨(some 21), none, false, .load 1 false (.t 20), none⟩, .o ⟨(some 22), none, false, .len (.t 21), none⟩, .o ⟨(some 23), none, false, .bin .eql (.t 22) (.c (.int .i64 1)), (some [0, 3, 4, 23])⟩]
abbrev k55_o5 : List AJ := [.o ⟨(some 24), none, false, .mv (.t 3), none⟩, .o ⟨(some 25), none, false, .mv (.t 0), none⟩, .o ⟨(some 26), none, false, .nilchk (.t 25), none⟩, .o ⟨(some 27), none, false, .fieldA 0 (.t 26), none⟩, .o ⟨(some 28), none, false, .load 1 false (.t 27), none⟩, .o ⟨(some 29), none, false, .mv (.t 4), none⟩, .o ⟨(some 30), none, false, .idxA 1 (.t 28) (.t 29), none⟩, .o ⟨(some 31), none, false, .load 1 false (.t 30), none⟩, .o ⟨(some 32), none, false, .idxA 1 (.t 31) (.c (.int .i64 0)), none⟩, .o ⟨(some 33), none, false, .load 1 false (.t 32), none⟩, .o ⟨(some 34), none, false, .bsl false 1 [(.t 33)], none⟩, .o ⟨(some 35), none, false, .append 1 8 (.t 24) (.t 34), none⟩, .o ⟨(some 3), none, false, .mv (.t 35), (some [0, 3, 4])⟩]
def k55_7 : ACode := .region k55_o5
def k55_8 : ACode := .cond (.t 23) k55_7 .skip
def k55_9 : ACode := .seq (.region k55_o4) k55_8
abbrev k55_o6 : List AJ := [.o ⟨(some 13), none, false, .mv (.t 4), none⟩, .o ⟨(some 14), none, true, .bin .add (.t 13) (.c (.int .i64 1)), none⟩, .o ⟨(some 4), none, false, .mv (.t 14), (some [0, 3, 4])⟩]
def k55_11 : ACode := .region k55_o6
def k55_12 : ACode := .seq (.block 1 k55_9) k55_11
def k55_13 : ACode := .seq k55_5 k55_12
def k55_14 : ACode := .loop k55_13
def k55_15 : ACode := .block 0 k55_14
def k55_16 : ACode := .seq (.region k55_o2) k55_15
abbrev k55_o7 : List AJ := [.o ⟨(some 36), none, false, .mv (.t 3), none⟩, .o ⟨(some 2), none, false, .mv (.t 36), (some [2])⟩]
def k55_18 : ACode := .seq (.region k55_o7) .ret
def k55_19 : ACode := .seq k55_16 k55_18
def k55_20 : ACode := .seq (.region k55_o1) k55_19
def k55_21 : ACode := .seq (.region k55_o0) k55_20
@[simp, simp ↓] theorem k55_4r : rC k55_4 (.t 12) .skip (.exit 0) := zC rfl
@[simp, simp ↓] theorem k55_5r : sR k55_5 k55_o3 k55_4 := yR rfl
@[simp, simp ↓] theorem k55_7r : rR k55_7 k55_o5 := zR rfl
@[simp, simp ↓] theorem k55_8r : rC k55_8 (.t 23) k55_7 .skip := zC rfl
@[simp, simp ↓] theorem k55_9r : sR k55_9 k55_o4 k55_8 := yR rfl
@[simp, simp ↓] theorem k55_11r : rR k55_11 k55_o6 := zR rfl
@[simp, simp ↓] theorem k55_12r : sB k55_12 1 k55_9 k55_11 := yB rfl
@[simp, simp ↓] theorem k55_13r : rS k55_13 k55_5 k55_12 := zS rfl
@[simp, simp ↓] theorem k55_14r : rL k55_14 k55_13 := zL rfl
@[simp, simp ↓] theorem k55_15r : rB k55_15 0 k55_14 := zB rfl
@[simp, simp ↓] theorem k55_16r : sR k55_16 k55_o2 k55_15 := yR rfl
@[simp, simp ↓] theorem k55_18r : sR k55_18 k55_o7 .ret := yR rfl
@[simp, simp ↓] theorem k55_19r : rS k55_19 k55_16 k55_18 := zS rfl
@[simp, simp ↓] theorem k55_20r : sR k55_20 k55_o1 k55_19 := yR rfl
@[simp, simp ↓] theorem k55_21r : sR k55_21 k55_o0 k55_20 := yR rfl
noncomputable abbrev k55_C : Orc → Cx := mkC Try.prog [5] 55 37 [.tmp 2]
theorem k55_of : OfP Try.prog Try.f55 55 37 k55_C k55_21 := @ofP _ _ _ _ _ _ _ _ Try.func55 (by decide +kernel) rfl (by kernel_rfl) rfl (by kernel_rfl)
theorem l08Vtx_s (rs : List (List Int)) (e : List AV) (h : Heap) (hl : ssTot rs ≤ 1048576) : ACalls Try.prog 55 [.ip (.snap 1 (rs.map il) :: e)] h (fun v h' => v = .snap 1 ((vt rs).map iv) ∧ h' = h) := by
  have hf := fit_of_tot hl
  have hn := hf.1
  refine k55_of rfl noPure fun I => ?_
  refine Run2.of I 1000 ?_
  simp -implicitDefEqProofs
  refine Run2.loopE (α := Nat × AV × Heap) (fun p => [(0, .ip (.snap 1 (rs.map il) :: e)), (3, p.2.1), (4, .int .i64 (p.1 : Nat))]) (fun p => p.2.2 ++ h) (fun p => rs.length - p.1) (fun p => p.1 ≤ rs.length ∧ Grow 1 p.2.1 ((vt (rs.take p.1)).map iv) p.2.2) (0, .emp, []) (by simp) rfl ⟨Nat.zero_le _, by simpa [vt] using Grow.emp⟩ ?_
  rintro ⟨i, w, hp⟩ ⟨hi, hg⟩ ih
  simp only at hi hg
  have hcell := hg.cell
  by_cases hlt : i < rs.length
  · have hvl := vt_len (rs.take i)
    rw [List.length_take] at hvl
    by_cases h1 : rs[i].length = 1
    · have go := fun w' hp' (g : Grow 1 w' ((vt (rs.take i)).map iv ++ [.int .i64 (rs[i].getD 0 0)]) hp') => ih (i + 1, w', hp') ⟨hlt, by
        simp only
        rw [vt_pos hlt h1, List.map_append]
        exact g⟩ (by simp; omega)
      clear ih
      refine Run2.of I 1000 ?_
      simp -implicitDefEqProofs [hlt, h1, hcell]
      refine hg.app (by simp; omega) (by simp) fun w' hp' hg' => ?_
      have hcell' := hg'.cell
      have := go w' hp' (by simpa [h1] using hg')
      simp -implicitDefEqProofs [hcell']
      refine ⟨by omega, ?_⟩
      simpa using this
    · have h1' : ¬ (rs[i].length : Int) = 1 := by omega
      have go := ih (i + 1, w, hp) ⟨hlt, by simp only; rw [vt_neg hlt h1]; exact hg⟩ (by simp; omega)
      clear ih
      refine Run2.of I 1000 ?_
      simp -implicitDefEqProofs [hlt, h1', hcell]
      refine ⟨by omega, ?_⟩
      simpa using go
  · obtain rfl : i = rs.length := by omega
    rw [List.take_length] at hg
    refine Run2.of I 1000 ?_
    simp -implicitDefEqProofs [hlt, hcell]
    exact hg.froze (fun x => x) (fun _ _ _ => rfl) (fun _ _ h => h) (.base ⟨rfl, rfl⟩)
abbrev k160_o0 : List AJ := [.o ⟨(some 6), none, false, .mv (.c (.int .i64 0)), (some [0, 1, 2])⟩]
abbrev k160_o1 : List AJ := [.o ⟨(some 7), none, false, .mv (.c (.int .i64 0)), (some [0, 1, 2, 7])⟩]
abbrev k160_o2 : List AJ := [.o ⟨(some 8), none, false, .mv (.t 7), none⟩, .o ⟨(some 9), none, false, .mv (.t 1), none⟩, .o ⟨(some 10), none, false, .len (.t 9), none⟩, .o ⟨(some 11), none, false, .bin .lss (.t 8) (.t 10), (some [0, 1, 2, 7, 11])⟩]
def k160_3 : ACode := .cond (.t 11) .skip (.exit 0)
def k160_4 : ACode := .seq (.region k160_o2) k160_3
abbrev k160_o3 : List AJ := [.o ⟨(some 14), none, false, .mv (.t 0), none⟩, .o ⟨(some 15), none, false, .mv (.t 7), none⟩, .o ⟨(some 16), none, false, .idxA 1 (.t 14) (.t 15), none⟩, .o ⟨(some 17), none, false, .load 1 false (.t 16), none⟩, .o ⟨(some 18), none, false, .mv (.t 2), none⟩, .o ⟨(some 19), none, false, .bin .eql (.t 17) (.t 18), (some [0, 1, 2, 7, 19])⟩]
abbrev k160_o4 : List AJ := [.o ⟨(some 20), none, false, .mv (.t 1), none⟩, .o ⟨(some 21), none, false, .mv (.t 7), none⟩, .o ⟨(some 22), none, false, .idxA 1 (.t 20) (.t 21), none⟩, .o ⟨(some 23), none, false, .load 1 false (.t 22), none⟩, .o ⟨(some 6), none, false, .mv (.t 23), (some [6])⟩]
def k160_7 : ACode := .seq (.region k160_o4) .ret
def k160_8 : ACode := .cond (.t 19) k160_7 .skip
def k160_9 : ACode := .seq (.region k160_o3) k160_8
abbrev k160_o5 : List AJ := [.o ⟨(some 12), none, false, .mv (.t 7), none⟩, .o ⟨(some 13), none, true, .bin .add (.t 12) (.c (.int .i64 1)), none⟩, .o ⟨(some 7), none, false, .mv (.t 13), (some [0, 1, 2, 7])⟩]
def k160_11 : ACode := .region k160_o5
def k160_12 : ACode := .seq (.block 1 k160_9) k160_11
def k160_13 : ACode := .seq k160_4 k160_12
def k160_14 : ACode := .loop k160_13
def k160_15 : ACode := .block 0 k160_14
def k160_16 : ACode := .seq (.region k160_o1) k160_15
abbrev k160_o6 : List AJ := [.o ⟨(some 6), none, false, .mv (.c (.int .i64 (-1))), (some [6])⟩]
def k160_18 : ACode := .seq (.region k160_o6) .ret
def k160_19 : ACode := .seq k160_16 k160_18
def k160_20 : ACode := .seq (.region k160_o0) k160_19
@[simp, simp ↓] theorem k160_3r : rC k160_3 (.t 11) .skip (.exit 0) := zC rfl
@[simp, simp ↓] theorem k160_4r : sR k160_4 k160_o2 k160_3 := yR rfl
@[simp, simp ↓] theorem k160_7r : sR k160_7 k160_o4 .ret := yR rfl
@[simp, simp ↓] theorem k160_8r : rC k160_8 (.t 19) k160_7 .skip := zC rfl
@[simp, simp ↓] theorem k160_9r : sR k160_9 k160_o3 k160_8 := yR rfl
@[simp, simp ↓] theorem k160_11r : rR k160_11 k160_o5 := zR rfl
@[simp, simp ↓] theorem k160_12r : sB k160_12 1 k160_9 k160_11 := yB rfl
@[simp, simp ↓] theorem k160_13r : rS k160_13 k160_4 k160_12 := zS rfl
@[simp, simp ↓] theorem k160_14r : rL k160_14 k160_13 := zL rfl
@[simp, simp ↓] theorem k160_15r : rB k160_15 0 k160_14 := zB rfl
@[simp, simp ↓] theorem k160_16r : sR k160_16 k160_o1 k160_15 := yR rfl
@[simp, simp ↓] theorem k160_18r : sR k160_18 k160_o6 .ret := yR rfl
@[simp, simp ↓] theorem k160_19r : rS k160_19 k160_16 k160_18 := zS rfl
@[simp, simp ↓] theorem k160_20r : sR k160_20 k160_o0 k160_19 := yR rfl
noncomputable abbrev k160_C : Orc → Cx := mkC Try.prog [] 160 24 [.tmp 6]
theorem k160_of0 : OfP0 Try.prog Try.f160 160 24 k160_C k160_20 := @ofP0 _ _ _ _ _ _ _ _ Try.func160 (by decide +kernel) rfl (by kernel_rfl) rfl (by kernel_rfl)
theorem l08Told_s (vs xs : List Int) (v : Int) (h : Heap) (hlen : xs.length = vs.length) (hv : v ∈ vs) (hl : xs.length ≤ 1048576) : ACalls Try.prog 160 [.snap 1 (vs.map iv), .snap 1 (xs.map iv), .int .i64 v] h (fun r h' => r = .int .i64 (vl vs xs v) ∧ h' = h) := by
  refine k160_of0 rfl noPure fun I => ?_
  refine Run2.of I 1000 ?_
  simp -implicitDefEqProofs
  refine Run2.loopE (fun (i : Nat) => [(0, .snap 1 (vs.map iv)), (1, .snap 1 (xs.map iv)), (2, .int .i64 v), (7, .int .i64 i)]) (fun i => h) (fun i => xs.length - i) (fun i => i ≤ xs.length ∧ ∀ j (hj : j < vs.length), j < i → decide (v = vs[j]) = false) 0 (by simp) rfl ⟨Nat.zero_le _, fun _ _ h => absurd h (Nat.not_lt_zero _)⟩ fun i hi ih => ?_
  by_cases hlt : i < xs.length
  · have hlt2 : i < vs.length := by omega
    by_cases he : vs[i] = v
    · have hat := idxf_at (q := fun a => decide (v = a)) hlt2 hi.2 (by simp [he])
      have hvl : vl vs xs v = xs[i] := by unfold vl ixI; rw [hat]; simp [hlt]
      clear ih
      refine Run2.of I 1000 ?_
      simp -implicitDefEqProofs [hlt, hlt2, he]
      exact hvl.symm
    · have go := ih (i + 1) ⟨by omega, fun j hj hji => by
        rcases Nat.lt_or_ge j i with h | h
        · exact hi.2 j hj h
        · obtain rfl : j = i := by omega
          simpa using Ne.symm he⟩ (by omega)
      clear ih
      refine Run2.of I 1000 ?_
      simp -implicitDefEqProofs [hlt, hlt2, he]
      exact ⟨by omega, by simpa using go⟩
  · exfalso
    obtain ⟨k, hk, hx, _, e, _⟩ := vl_at hlen hv
    have := hi.2 k hk (by omega)
    simp [e] at this
abbrev k67_o0 : List AJ := [.o ⟨(some 4), none, false, .mv (.c (.int .i64 0)), (some [0, 1])⟩]
abbrev k67_o1 : List AJ := [.o ⟨(some 5), none, false, .mv (.t 0), none⟩, .o ⟨(some 6), none, false, .mv (.t 1), none⟩, .o ⟨(some 7), none, false, .bin .gtr (.t 5) (.t 6), (some [0, 1, 7])⟩]
abbrev k67_o2 : List AJ := [.o ⟨(some 8), none, false, .mv (.t 0), none⟩, .o ⟨(some 4), none, false, .mv (.t 8), (some [4])⟩]
def k67_3 : ACode := .seq (.region k67_o2) .ret
def k67_4 : ACode := .cond (.t 7) k67_3 .skip
def k67_5 : ACode := .seq (.region k67_o1) k67_4
abbrev k67_o3 : List AJ := [.o ⟨(some 9), none, false, .mv (.t 1), none⟩, .o ⟨(some 4), none, false, .mv (.t 9), (some [4])⟩]
def k67_7 : ACode := .seq (.region k67_o3) .ret
def k67_8 : ACode := .seq k67_5 k67_7
def k67_9 : ACode := .seq (.region k67_o0) k67_8
@[simp, simp ↓] theorem k67_3r : sR k67_3 k67_o2 .ret := yR rfl
@[simp, simp ↓] theorem k67_4r : rC k67_4 (.t 7) k67_3 .skip := zC rfl
@[simp, simp ↓] theorem k67_5r : sR k67_5 k67_o1 k67_4 := yR rfl
@[simp, simp ↓] theorem k67_7r : sR k67_7 k67_o3 .ret := yR rfl
@[simp, simp ↓] theorem k67_8r : rS k67_8 k67_5 k67_7 := zS rfl
@[simp, simp ↓] theorem k67_9r : sR k67_9 k67_o0 k67_8 := yR rfl
noncomputable abbrev k67_C : Orc → Cx := mkC Try.prog [] 67 10 [.tmp 4]
theorem k67_of0 : OfP0 Try.prog Try.f67 67 10 k67_C k67_9 := @ofP0 _ _ _ _ _ _ _ _ Try.func67 (by decide +kernel) rfl (by kernel_rfl) rfl (by kernel_rfl)
theorem l00Max_l (a b : Int) (h : Heap) : ACalls Try.prog 67 [.int .i64 a, .int .i64 b] h (fun v h' => v = .int .i64 (max a b) ∧ h' = h) := by
  refine k67_of0 rfl noPure fun I => ?_
  refine Run2.of I 1000 ?_
  simp -implicitDefEqProofs
  omega
noncomputable def o_vtx : List AV → Option (Prop × AV) := tab (fun (x : LS) => match x with | rs => [.agg [.snap 1 (rs.map il)]]) (fun x => match x with | rs => ssTot rs ≤ 1048576) (fun x => match x with | rs => .snap 1 ((vt rs).map iv))
@[simp] theorem o_vtx_e (rs : LS) : o_vtx [.agg [.snap 1 (rs.map il)]] = some (ssTot rs ≤ 1048576, .snap 1 ((vt rs).map iv)) := tab_at (enc := fun (x : LS) => match x with | rs => [.agg [.snap 1 (rs.map il)]]) (fun x y h => by
  simp at h; simp [h] <;> omega) _ _ rs
theorem o_vtx_k : Knows Try.prog 109 o_vtx := tab_knows fun x hx h => by
  exact vtx_s x h hx
noncomputable def o_l08Vtx : List AV → Option (Prop × AV) := tab (fun (x : LS × List AV) => match x with | (rs, e) => [.ip (.snap 1 (rs.map il) :: e)]) (fun x => match x with | (rs, e) => ssTot rs ≤ 1048576) (fun x => match x with | (rs, e) => .snap 1 ((vt rs).map iv))
@[simp] theorem o_l08Vtx_e (rs : LS) (e : List AV) : o_l08Vtx [.ip (.snap 1 (rs.map il) :: e)] = some (ssTot rs ≤ 1048576, .snap 1 ((vt rs).map iv)) := tab_at (enc := fun (x : LS × List AV) => match x with | (rs, e) => [.ip (.snap 1 (rs.map il) :: e)]) (fun x y h => by
  obtain ⟨rs1, e1⟩ := x; obtain ⟨rs2, e2⟩ := y; simp at h; simp [h] <;> omega) _ _ (rs, e)
theorem o_l08Vtx_k : Knows Try.prog 55 o_l08Vtx := tab_knows fun x hx h => by
  obtain ⟨rs, e⟩ := x; exact l08Vtx_s rs e h hx
end Go.AG
