/- Times by the greatest value of the vertices: vertices, their values. No statement is made here. -/
import Derived.Test.YtamjnegnoijjlaaFxHz
namespace Go.AG
open Go.Proofs Go.Proofs.Ytamjnegnoijjlaa
set_option linter.unusedSimpArgs false
set_option linter.unusedVariables false
set_option maxRecDepth 4000
/-- The vertices. -/
def vt (rs : List (List Int)) : List Int := (rs.filter fun r => decide (r.length = 1)).map fun r => r.getD 0 0
theorem vt_pos {rs : List (List Int)} {i : Nat} (hi : i < rs.length) (h : rs[i].length = 1) : vt (rs.take (i + 1)) = vt (rs.take i) ++ [rs[i].getD 0 0] := by
  unfold vt
  rw [List.take_succ_eq_append_getElem hi, List.filter_append, List.map_append]
  simp [h]
theorem vt_neg {rs : List (List Int)} {i : Nat} (hi : i < rs.length) (h : ¬ rs[i].length = 1) : vt (rs.take (i + 1)) = vt (rs.take i) := by
  unfold vt
  rw [List.take_succ_eq_append_getElem hi, List.filter_append, List.map_append]
  simp [h]
theorem vt_len (rs : List (List Int)) : (vt rs).length ≤ rs.length := by
  unfold vt
  rw [List.length_map]
  exact List.length_filter_le ..
theorem vt_in {rs : List (List Int)} (h : cxOk rs) : ∀ (n : Nat) (s : List Int), s.length = n → s ∈ rs → ∀ v ∈ s, v ∈ vt rs := by
  intro n
  induction n using Nat.strongRecOn with
  | ind n ih =>
    intro s hn hs v hv
    obtain ⟨p, hp, rfl⟩ := List.mem_iff_getElem.1 hv
    by_cases h1 : s.length = 1
    · have hp0 : p = 0 := by omega
      subst hp0
      unfold vt
      exact List.mem_map.2 ⟨s, List.mem_filter.2 ⟨hs, by simpa using h1⟩, by simp [h1]⟩
    · have hk : ∃ k, k < s.length ∧ k ≠ p := by
        by_cases h0 : p = 0
        · exact ⟨1, by omega, by omega⟩
        · exact ⟨0, by omega, by omega⟩
      obtain ⟨k, hk, hne⟩ := hk
      have hf : dropK s k ∈ faces s := faces_mem.2 ⟨by omega, k, hk, rfl⟩
      refine ih _ ?_ (dropK s k) rfl ((h.mem hs).2 _ hf) _ ?_
      · have := dropK_length hk; omega
      · unfold dropK
        rw [List.mem_append]
        rcases Nat.lt_or_gt_of_ne hne with h2 | h2
        · exact .inr (List.mem_iff_getElem.2 ⟨p - (k + 1), by simp; omega, by simp; congr 1; omega⟩)
        · exact .inl (List.mem_iff_getElem.2 ⟨p, by simp; omega, by simp⟩)
theorem ixI_at {l : List Int} {v : Int} (h : v ∈ l) : ∃ (k : Nat) (hk : k < l.length), ixI l v = k ∧ l[k] = v := by
  unfold ixI idxf
  cases hf : l.findIdx? (fun a => decide (v = a)) with
  | none =>
    have := List.findIdx?_eq_none_iff.1 hf v h
    simp at this
  | some k =>
    obtain ⟨hk, h1, _⟩ := List.findIdx?_eq_some_iff_getElem.1 hf
    exact ⟨k, hk, rfl, by simpa using (of_decide_eq_true h1).symm⟩
/-- The value of a vertex. -/
def vl (vs xs : List Int) (v : Int) : Int := xs.getD (ixI vs v).toNat 0
theorem vl_at {vs xs : List Int} (hlen : xs.length = vs.length) {v : Int} (h : v ∈ vs) : ∃ (k : Nat) (hk : k < vs.length) (hx : k < xs.length), ixI vs v = k ∧ vs[k] = v ∧ xs[k] = vl vs xs v := by
  obtain ⟨k, hk, e1, e2⟩ := ixI_at h
  have hx : k < xs.length := by omega
  exact ⟨k, hk, hx, e1, e2, by unfold vl; rw [e1]; simp [hx]⟩
def low (vs xs : List Int) (s : List Int) : Int := s.foldl (fun m v => max m (vl vs xs v)) 0
theorem low_succ (vs xs : List Int) {s : List Int} {j : Nat} (hj : j < s.length) : low vs xs (s.take (j + 1)) = max (low vs xs (s.take j)) (vl vs xs s[j]) := by
  unfold low
  rw [List.take_succ_eq_append_getElem hj, List.foldl_append]
  rfl
abbrev k80_o0 : List AJ := [.o ⟨(some 1), none, false, .box false 1 (.t 0), none⟩, .o ⟨(some 2), none, false, .mv (.c .nilsl), (some [1])⟩]
abbrev k80_o1 : List AJ := [.o ⟨(some 3), none, false, .mv (.c .nilsl), (some [1, 3])⟩]
abbrev k80_o2 : List AJ := [.o ⟨(some 6), none, false, .fieldA 0 (.t 1), none⟩, .o ⟨(some 7), none, false, .load 1 false (.t 6), none⟩, .o ⟨(some 8), none, false, .len (.t 7), none⟩, .o ⟨(some 9), none, false, .mv (.c (.int .i64 0)), (some [3, 7, 8, 9])⟩]
abbrev k80_o3 : List AJ := [.o ⟨(some 10), none, false, .bin .lss (.t 9) (.t 8), (some [3, 7, 8, 9, 10])⟩]
abbrev k80_o4 : List AJ := [.o ⟨(some 11), none, false, .idxA 1 (.t 7) (.t 9), none⟩, .o ⟨(some 12), none, false, .load 1 false (.t 11), none⟩, .o ⟨(some 5), none, false, .mv (.t 12), (some [3, 5, 7, 8, 9])⟩]
abbrev k80_o5 : List AJ := [.o ⟨(some 13), none, false, .mv (.t 5), none⟩, .o ⟨(some 14), none, false, .len (.t 13), none⟩, .o ⟨(some 15), none, false, .bin .eql (.t 14) (.c (.int .i64 1)), (some [3, 5, 7, 8, 9, 15])⟩]
abbrev k80_o6 : List AJ := [.o ⟨(some 16), none, false, .mv (.t 3), none⟩, .o ⟨(some 17), none, false, .mv (.t 5), none⟩, .o ⟨(some 18), none, false, .idxA 1 (.t 17) (.c (.int .i64 0)), none⟩, .o ⟨(some 19), none, false, .load 1 false (.t 18), none⟩, .o ⟨(some 20), none, false, .bsl false 1 [(.t 19)], none⟩, .o ⟨(some 21), none, false, .append 1 8 (.t 16) (.t 20), none⟩, .o ⟨(some 3), none, false, .mv (.t 21), (some [3, 7, 8, 9])⟩]
def k80_7 : ACode := .region k80_o6
def k80_8 : ACode := .cond (.t 15) k80_7 .skip
def k80_9 : ACode := .seq (.region k80_o5) k80_8
def k80_10 : ACode := .seq (.region k80_o4) k80_9
abbrev k80_o7 : List AJ := [.o ⟨(some 22), none, true, .bin .add (.t 9) (.c (.int .i64 1)), none⟩, .o ⟨(some 9), none, false, .mv (.t 22), (some [3, 7, 8, 9])⟩]
def k80_12 : ACode := .region k80_o7
def k80_13 : ACode := .seq (.block 1 k80_10) k80_12
def k80_14 : ACode := .seq (.cond (.t 10) .skip (.exit 0)) k80_13
def k80_15 : ACode := .seq (.region k80_o3) k80_14
def k80_16 : ACode := .loop k80_15
def k80_17 : ACode := .block 0 k80_16
def k80_18 : ACode := .seq (.region k80_o2) k80_17
abbrev k80_o8 : List AJ := [.o ⟨(some 23), none, false, .mv (.t 3), none⟩, .o ⟨(some 2), none, false, .mv (.t 23), (some [2])⟩]
def k80_20 : ACode := .seq (.region k80_o8) .ret
def k80_21 : ACode := .seq k80_18 k80_20
def k80_22 : ACode := .seq (.region k80_o1) k80_21
def k80_23 : ACode := .seq (.region k80_o0) k80_22
@[simp, simp ↓] theorem k80_7r : rR k80_7 k80_o6 := zR rfl
@[simp, simp ↓] theorem k80_8r : rC k80_8 (.t 15) k80_7 .skip := zC rfl
@[simp, simp ↓] theorem k80_9r : sR k80_9 k80_o5 k80_8 := yR rfl
@[simp, simp ↓] theorem k80_10r : sR k80_10 k80_o4 k80_9 := yR rfl
@[simp, simp ↓] theorem k80_12r : rR k80_12 k80_o7 := zR rfl
@[simp, simp ↓] theorem k80_13r : sB k80_13 1 k80_10 k80_12 := yB rfl
@[simp, simp ↓] theorem k80_14r : sC k80_14 (.t 10) .skip (.exit 0) k80_13 := yC rfl
@[simp, simp ↓] theorem k80_15r : sR k80_15 k80_o3 k80_14 := yR rfl
@[simp, simp ↓] theorem k80_16r : rL k80_16 k80_15 := zL rfl
@[simp, simp ↓] theorem k80_17r : rB k80_17 0 k80_16 := zB rfl
@[simp, simp ↓] theorem k80_18r : sR k80_18 k80_o2 k80_17 := yR rfl
@[simp, simp ↓] theorem k80_20r : sR k80_20 k80_o8 .ret := yR rfl
@[simp, simp ↓] theorem k80_21r : rS k80_21 k80_18 k80_20 := zS rfl
@[simp, simp ↓] theorem k80_22r : sR k80_22 k80_o1 k80_21 := yR rfl
@[simp, simp ↓] theorem k80_23r : sR k80_23 k80_o0 k80_22 := yR rfl
noncomputable abbrev k80_C : Orc → Cx := mkC Try.prog [] 80 24 [.tmp 2]
theorem k80_of : OfP Try.prog Try.f80 80 24 k80_C k80_23 := @ofP _ _ _ _ _ _ _ _ Try.func80 (by decide +kernel) rfl (by kernel_rfl) rfl (by kernel_rfl)
theorem vtx_s (rs : List (List Int)) (h : Heap) (hl : ssTot rs ≤ 1048576) : ACalls Try.prog 80 [cx rs] h (fun v h' => v = .snap 1 ((vt rs).map iv) ∧ h' = h) := by
  have hf := fit_of_tot hl
  have hn := hf.1
  refine k80_of rfl noPure fun I => ?_
  refine Run2.of I 1000 ?_
  simp -implicitDefEqProofs
  refine Run2.loopE (α := Nat × AV × Heap) (fun p => [(3, p.2.1), (7, .snap 1 (rs.map il)), (8, .int .i64 rs.length), (9, .int .i64 (p.1 : Nat))]) (fun p => p.2.2 ++ h) (fun p => rs.length - p.1) (fun p => p.1 ≤ rs.length ∧ Grow 1 p.2.1 ((vt (rs.take p.1)).map iv) p.2.2) (0, .nilsl, []) (by simp) rfl ⟨Nat.zero_le _, by simpa [vt] using Grow.nil⟩ ?_
  rintro ⟨i, w, hp⟩ ⟨hi, hg⟩ ih
  simp only at hi hg
  have hcell := hg.cell
  by_cases hlt : i < rs.length
  · have hvl := vt_len (rs.take i)
    rw [List.length_take] at hvl
    by_cases h1 : rs[i].length = 1
    · have go := fun w' hp' (g : Grow 1 w' ((vt (rs.take i)).map iv ++ [.int .i64 (rs[i].getD 0 0)]) hp') => ih (i + 1, w', hp') ⟨hlt, by
        simp only
        rw [vt_pos hlt h1, List.map_append]
        exact g⟩ (by simp; omega)
      have h0 : (rs[i])[0]?.getD 0 = (rs[i])[0]'(by omega) := by simp [h1]
      clear ih
      refine Run2.of I 1000 ?_
      simp -implicitDefEqProofs [hlt, h1, hcell]
      refine hg.app (by simp; omega) (by simp) fun w' hp' hg' => ?_
      have hcell' := hg'.cell
      have := go w' hp' (by simpa [h1] using hg')
      simp -implicitDefEqProofs [hcell']
      refine ⟨by omega, ?_⟩
      simpa using this
    · have h1' : ¬ (rs[i].length : Int) = 1 := by omega
      have go := ih (i + 1, w, hp) ⟨hlt, by simp only; rw [vt_neg hlt h1]; exact hg⟩ (by simp; omega)
      clear ih
      refine Run2.of I 1000 ?_
      simp -implicitDefEqProofs [hlt, h1', hcell]
      refine ⟨by omega, ?_⟩
      simpa using go
  · obtain rfl : i = rs.length := by omega
    rw [List.take_length] at hg
    refine Run2.of I 1000 ?_
    simp -implicitDefEqProofs [hlt, hcell]
    exact hg.froze (fun x => x) (fun _ _ _ => rfl) (fun _ _ h => h) (.base ⟨rfl, rfl⟩)
abbrev k77_o0 : List AJ := [.o ⟨(some 2), none, false, .mv (.c .nilsl), (some [0])⟩]
abbrev k77_o1 : List AJ := [.e 5 1 none, .o ⟨(some 3), none, false, .mv (.t 5), (some [0, 3])⟩]
abbrev k77_o2 : List AJ := [.o ⟨(some 4), none, false, .mv (.c (.int .i64 0)), (some [0, 3, 4])⟩]
abbrev k77_o3 : List AJ := [.o ⟨(some 6), none, false, .mv (.t 4), none⟩, .o ⟨(some 7), none, false, .mv (.t 0), none⟩, .o ⟨(some 8), none, false, .nilchk (.t 7), none⟩, .o ⟨(some 9), none, false, .fieldA 0 (.t 8), none⟩, .o ⟨(some 10), none, false, .load 1 false (.t 9), none⟩, .o ⟨(some 11), none, false, .len (.t 10), none⟩, .o ⟨(some 12), none, false, .bin .lss (.t 6) (.t 11), (some [0, 3, 4, 12])⟩]
def k77_4 : ACode := .cond (.t 12) .skip (.exit 0)
def k77_5 : ACode := .seq (.region k77_o3) k77_4
abbrev k77_o4 : List AJ := [.o ⟨(some 15), none, false, .mv (.t 0), none⟩, .o ⟨(some 16), none, false, .nilchk (.t 15), none⟩, .o ⟨(some 17), none, false, .fieldA 0 (.t 16), none⟩, .o ⟨(some 18), none, false, .load 1 false (.t 17), none⟩, .o ⟨(some 19), none, false, .mv (.t 4), none⟩, .o ⟨(some 20), none, false, .idxA 1 (.t 18) (.t 19), none⟩, .o ⟨(some 21), none, false, .load 1 false (.t 20), none⟩, .o ⟨(some 22), none, false, .len (.t 21), none⟩, .o ⟨(some 23), none, false, .bin .eql (.t 22) (.c (.int .i64 1)), (some [0, 3, 4, 23])⟩]
abbrev k77_o5 : List AJ := [.o ⟨(some 24), none, false, .mv (.t 3), none⟩, .o ⟨(some 25), none, false, .mv (.t 0), none⟩, .o ⟨(some 26), none, false, .nilchk (.t 25), none⟩, .o ⟨(some 27), none, false, .fieldA 0 (.t 26), none⟩, .o ⟨(some 28), none, false, .load 1 false (.t 27), none⟩, .o ⟨(some 29), none, false, .mv (.t 4), none⟩, .o ⟨(some 30), none, false, .idxA 1 (.t 28) (.t 29), none⟩, .o ⟨(some 31), none, false, .load 1 false (.t 30), none⟩, .o ⟨(some 32), none, false, .idxA 1 (.t 31) (.c (.int .i64 0)), none⟩, .o ⟨(some 33), none, false, .load 1 false (.t 32), none⟩, .o ⟨(some 34), none, false, .bsl false 1 [(.t 33)], none⟩, .o ⟨(some 35), none, false, .append 1 8 (.t 24) (.t 34), none⟩, .o ⟨(some 3), none, false, .mv (.t 35), (some [0, 3, 4])⟩]
def k77_7 : ACode := .region k77_o5
def k77_8 : ACode := .cond (.t 23) k77_7 .skip
def k77_9 : ACode := .seq (.region k77_o4) k77_8
abbrev k77_o6 : List AJ := [.o ⟨(some 13), none, false, .mv (.t 4), none⟩, .o ⟨(some 14), none, true, .bin .add (.t 13) (.c (.int .i64 1)), none⟩, .o ⟨(some 4), none, false, .mv (.t 14), (some [0, 3, 4])⟩]
def k77_11 : ACode := .region k77_o6
def k77_12 : ACode := .seq (.block 1 k77_9) k77_11
def k77_13 : ACode := .seq k77_5 k77_12
def k77_14 : ACode := .loop k77_13
def k77_15 : ACode := .block 0 k77_14
def k77_16 : ACode := .seq (.region k77_o2) k77_15
abbrev k77_o7 : List AJ := [.o ⟨(some 36), none, false, .mv (.t 3), none⟩, .o ⟨(some 2), none, false, .mv (.t 36), (some [2])⟩]
def k77_18 : ACode := .seq (.region k77_o7) .ret
def k77_19 : ACode := .seq k77_16 k77_18
def k77_20 : ACode := .seq (.region k77_o1) k77_19
def k77_21 : ACode := .seq (.region k77_o0) k77_20
@[simp, simp ↓] theorem k77_4r : rC k77_4 (.t 12) .skip (.exit 0) := zC rfl
@[simp, simp ↓] theorem k77_5r : sR k77_5 k77_o3 k77_4 := yR rfl
@[simp, simp ↓] theorem k77_7r : rR k77_7 k77_o5 := zR rfl
@[simp, simp ↓] theorem k77_8r : rC k77_8 (.t 23) k77_7 .skip := zC rfl
@[simp, simp ↓] theorem k77_9r : sR k77_9 k77_o4 k77_8 := yR rfl
@[simp, simp ↓] theorem k77_11r : rR k77_11 k77_o6 := zR rfl
@[simp, simp ↓] theorem k77_12r : sB k77_12 1 k77_9 k77_11 := yB rfl
@[simp, simp ↓] theorem k77_13r : rS k77_13 k77_5 k77_12 := zS rfl
@[simp, simp ↓] theorem k77_14r : rL k77_14 k77_13 := zL rfl
@[simp, simp ↓] theorem k77_15r : rB k77_15 0 k77_14 := zB rfl
@[simp, simp ↓] theorem k77_16r : sR k77_16 k77_o2 k77_15 := yR rfl
@[simp, simp ↓] theorem k77_18r : sR k77_18 k77_o7 .ret := yR rfl
@[simp, simp ↓] theorem k77_19r : rS k77_19 k77_16 k77_18 := zS rfl
@[simp, simp ↓] theorem k77_20r : sR k77_20 k77_o1 k77_19 := yR rfl
@[simp, simp ↓] theorem k77_21r : sR k77_21 k77_o0 k77_20 := yR rfl
noncomputable abbrev k77_C : Orc → Cx := mkC Try.prog [5] 77 37 [.tmp 2]
theorem k77_of : OfP Try.prog Try.f77 77 37 k77_C k77_21 := @ofP _ _ _ _ _ _ _ _ Try.func77 (by decide +kernel) rfl (by kernel_rfl) rfl (by kernel_rfl)
theorem l08Vtx_s (rs : List (List Int)) (e : List AV) (h : Heap) (hl : ssTot rs ≤ 1048576) : ACalls Try.prog 77 [.ip (.snap 1 (rs.map il) :: e)] h (fun v h' => v = .snap 1 ((vt rs).map iv) ∧ h' = h) := by
  have hf := fit_of_tot hl
  have hn := hf.1
  refine k77_of rfl noPure fun I => ?_
  refine Run2.of I 1000 ?_
  simp -implicitDefEqProofs
  refine Run2.loopE (α := Nat × AV × Heap) (fun p => [(0, .ip (.snap 1 (rs.map il) :: e)), (3, p.2.1), (4, .int .i64 (p.1 : Nat))]) (fun p => p.2.2 ++ h) (fun p => rs.length - p.1) (fun p => p.1 ≤ rs.length ∧ Grow 1 p.2.1 ((vt (rs.take p.1)).map iv) p.2.2) (0, .emp, []) (by simp) rfl ⟨Nat.zero_le _, by simpa [vt] using Grow.emp⟩ ?_
  rintro ⟨i, w, hp⟩ ⟨hi, hg⟩ ih
  simp only at hi hg
  have hcell := hg.cell
  by_cases hlt : i < rs.length
  · have hvl := vt_len (rs.take i)
    rw [List.length_take] at hvl
    by_cases h1 : rs[i].length = 1
    · have go := fun w' hp' (g : Grow 1 w' ((vt (rs.take i)).map iv ++ [.int .i64 (rs[i].getD 0 0)]) hp') => ih (i + 1, w', hp') ⟨hlt, by
        simp only
        rw [vt_pos hlt h1, List.map_append]
        exact g⟩ (by simp; omega)
      clear ih
      refine Run2.of I 1000 ?_
      simp -implicitDefEqProofs [hlt, h1, hcell]
      refine hg.app (by simp; omega) (by simp) fun w' hp' hg' => ?_
      have hcell' := hg'.cell
      have := go w' hp' (by simpa [h1] using hg')
      simp -implicitDefEqProofs [hcell']
      refine ⟨by omega, ?_⟩
      simpa using this
    · have h1' : ¬ (rs[i].length : Int) = 1 := by omega
      have go := ih (i + 1, w, hp) ⟨hlt, by simp only; rw [vt_neg hlt h1]; exact hg⟩ (by simp; omega)
      clear ih
      refine Run2.of I 1000 ?_
      simp -implicitDefEqProofs [hlt, h1', hcell]
      refine ⟨by omega, ?_⟩
      simpa using go
  · obtain rfl : i = rs.length := by omega
    rw [List.take_length] at hg
    refine Run2.of I 1000 ?_
    simp -implicitDefEqProofs [hlt, hcell]
    exact hg.froze (fun x => x) (fun _ _ _ => rfl) (fun _ _ h => h) (.base ⟨rfl, rfl⟩)
abbrev k79_o0 : List AJ := [.o ⟨(some 6), none, false, .mv (.c (.int .i64 0)), (some [0, 1, 2])⟩]
abbrev k79_o1 : List AJ := [.o ⟨(some 7), none, false, .mv (.c (.int .i64 0)), (some [0, 1, 2, 7])⟩]
abbrev k79_o2 : List AJ := [.o ⟨(some 8), none, false, .mv (.t 7), none⟩, .o ⟨(some 9), none, false, .mv (.t 1), none⟩, .o ⟨(some 10), none, false, .len (.t 9), none⟩, .o ⟨(some 11), none, false, .bin .lss (.t 8) (.t 10), (some [0, 1, 2, 7, 11])⟩]
def k79_3 : ACode := .cond (.t 11) .skip (.exit 0)
def k79_4 : ACode := .seq (.region k79_o2) k79_3
abbrev k79_o3 : List AJ := [.o ⟨(some 14), none, false, .mv (.t 0), none⟩, .o ⟨(some 15), none, false, .mv (.t 7), none⟩, .o ⟨(some 16), none, false, .idxA 1 (.t 14) (.t 15), none⟩, .o ⟨(some 17), none, false, .load 1 false (.t 16), none⟩, .o ⟨(some 18), none, false, .mv (.t 2), none⟩, .o ⟨(some 19), none, false, .bin .eql (.t 17) (.t 18), (some [0, 1, 2, 7, 19])⟩]
abbrev k79_o4 : List AJ := [.o ⟨(some 20), none, false, .mv (.t 1), none⟩, .o ⟨(some 21), none, false, .mv (.t 7), none⟩, .o ⟨(some 22), none, false, .idxA 1 (.t 20) (.t 21), none⟩, .o ⟨(some 23), none, false, .load 1 false (.t 22), none⟩, .o ⟨(some 6), none, false, .mv (.t 23), (some [6])⟩]
def k79_7 : ACode := .seq (.region k79_o4) .ret
def k79_8 : ACode := .cond (.t 19) k79_7 .skip
def k79_9 : ACode := .seq (.region k79_o3) k79_8
abbrev k79_o5 : List AJ := [.o ⟨(some 12), none, false, .mv (.t 7), none⟩, .o ⟨(some 13), none, true, .bin .add (.t 12) (.c (.int .i64 1)), none⟩, .o ⟨(some 7), none, false, .mv (.t 13), (some [0, 1, 2, 7])⟩]
def k79_11 : ACode := .region k79_o5
def k79_12 : ACode := .seq (.block 1 k79_9) k79_11
def k79_13 : ACode := .seq k79_4 k79_12
def k79_14 : ACode := .loop k79_13
def k79_15 : ACode := .block 0 k79_14
def k79_16 : ACode := .seq (.region k79_o1) k79_15
abbrev k79_o6 : List AJ := [.o ⟨(some 6), none, false, .mv (.c (.int .i64 (-1))), (some [6])⟩]
def k79_18 : ACode := .seq (.region k79_o6) .ret
def k79_19 : ACode := .seq k79_16 k79_18
def k79_20 : ACode := .seq (.region k79_o0) k79_19
@[simp, simp ↓] theorem k79_3r : rC k79_3 (.t 11) .skip (.exit 0) := zC rfl
@[simp, simp ↓] theorem k79_4r : sR k79_4 k79_o2 k79_3 := yR rfl
@[simp, simp ↓] theorem k79_7r : sR k79_7 k79_o4 .ret := yR rfl
@[simp, simp ↓] theorem k79_8r : rC k79_8 (.t 19) k79_7 .skip := zC rfl
@[simp, simp ↓] theorem k79_9r : sR k79_9 k79_o3 k79_8 := yR rfl
@[simp, simp ↓] theorem k79_11r : rR k79_11 k79_o5 := zR rfl
@[simp, simp ↓] theorem k79_12r : sB k79_12 1 k79_9 k79_11 := yB rfl
@[simp, simp ↓] theorem k79_13r : rS k79_13 k79_4 k79_12 := zS rfl
@[simp, simp ↓] theorem k79_14r : rL k79_14 k79_13 := zL rfl
@[simp, simp ↓] theorem k79_15r : rB k79_15 0 k79_14 := zB rfl
@[simp, simp ↓] theorem k79_16r : sR k79_16 k79_o1 k79_15 := yR rfl
@[simp, simp ↓] theorem k79_18r : sR k79_18 k79_o6 .ret := yR rfl
@[simp, simp ↓] theorem k79_19r : rS k79_19 k79_16 k79_18 := zS rfl
@[simp, simp ↓] theorem k79_20r : sR k79_20 k79_o0 k79_19 := yR rfl
noncomputable abbrev k79_C : Orc → Cx := mkC Try.prog [] 79 24 [.tmp 6]
theorem k79_of0 : OfP0 Try.prog Try.f79 79 24 k79_C k79_20 := @ofP0 _ _ _ _ _ _ _ _ Try.func79 (by decide +kernel) rfl (by kernel_rfl) rfl (by kernel_rfl)
theorem l08Told_s (vs xs : List Int) (v : Int) (h : Heap) (hlen : xs.length = vs.length) (hv : v ∈ vs) (hl : xs.length ≤ 1048576) : ACalls Try.prog 79 [.snap 1 (vs.map iv), .snap 1 (xs.map iv), .int .i64 v] h (fun r h' => r = .int .i64 (vl vs xs v) ∧ h' = h) := by
  refine k79_of0 rfl noPure fun I => ?_
  refine Run2.of I 1000 ?_
  simp -implicitDefEqProofs
  refine Run2.loopE (fun (i : Nat) => [(0, .snap 1 (vs.map iv)), (1, .snap 1 (xs.map iv)), (2, .int .i64 v), (7, .int .i64 i)]) (fun i => h) (fun i => xs.length - i) (fun i => i ≤ xs.length ∧ ∀ j (hj : j < vs.length), j < i → decide (v = vs[j]) = false) 0 (by simp) rfl ⟨Nat.zero_le _, fun _ _ h => absurd h (Nat.not_lt_zero _)⟩ fun i hi ih => ?_
  by_cases hlt : i < xs.length
  · have hlt2 : i < vs.length := by omega
    by_cases he : vs[i] = v
    · have hat := idxf_at (q := fun a => decide (v = a)) hlt2 hi.2 (by simp [he])
      have hvl : vl vs xs v = xs[i] := by unfold vl ixI; rw [hat]; simp [hlt]
      clear ih
      refine Run2.of I 1000 ?_
      simp -implicitDefEqProofs [hlt, hlt2, he]
      exact hvl.symm
    · have go := ih (i + 1) ⟨by omega, fun j hj hji => by
        rcases Nat.lt_or_ge j i with h | h
        · exact hi.2 j hj h
        · obtain rfl : j = i := by omega
          simpa using Ne.symm he⟩ (by omega)
      clear ih
      refine Run2.of I 1000 ?_
      simp -implicitDefEqProofs [hlt, hlt2, he]
      exact ⟨by omega, by simpa using go⟩
  · exfalso
    obtain ⟨k, hk, hx, _, e, _⟩ := vl_at hlen hv
    have := hi.2 k hk (by omega)
    simp [e] at this
abbrev k81_o0 : List AJ := [.o ⟨(some 2), none, false, .mv (.c (.bool false)), (some [0])⟩]
abbrev k81_o1 : List AJ := [.o ⟨(some 3), none, false, .mv (.t 0), none⟩, .o ⟨(some 4), none, false, .call 57 [(.t 3)], none⟩, .o ⟨(some 5), none, false, .un .not (.t 4), none⟩, .o ⟨(some 2), none, false, .mv (.t 5), (some [2])⟩]
def k81_2 : ACode := .seq (.region k81_o1) .ret
def k81_3 : ACode := .seq (.region k81_o0) k81_2
@[simp, simp ↓] theorem k81_2r : sR k81_2 k81_o1 .ret := yR rfl
@[simp, simp ↓] theorem k81_3r : sR k81_3 k81_o0 k81_2 := yR rfl
noncomputable abbrev k81_C : Orc → Cx := mkC Try.prog [] 81 6 [.tmp 2]
theorem k81_of0 : OfP0 Try.prog Try.f81 81 6 k81_C k81_3 := @ofP0 _ _ _ _ _ _ _ _ Try.func81 (by decide +kernel) rfl (by kernel_rfl) rfl (by kernel_rfl)
theorem LF1_c (a : Int) (h : Heap) : ACalls Try.prog 81 [.int .i64 a] h (fun v h' => v = .bool (!(decide (0 ≤ a) && decide (a ≤ 1000))) ∧ h' = h) := by
  refine k81_of0 rfl orcT_p fun I => ?_
  refine Run2.of I 1000 ?_
  simp -implicitDefEqProofs
abbrev k78_o0 : List AJ := [.o ⟨(some 4), none, false, .mv (.c (.int .i64 0)), (some [0, 1])⟩]
abbrev k78_o1 : List AJ := [.o ⟨(some 5), none, false, .mv (.t 0), none⟩, .o ⟨(some 6), none, false, .mv (.t 1), none⟩, .o ⟨(some 7), none, false, .bin .gtr (.t 5) (.t 6), (some [0, 1, 7])⟩]
abbrev k78_o2 : List AJ := [.o ⟨(some 8), none, false, .mv (.t 0), none⟩, .o ⟨(some 4), none, false, .mv (.t 8), (some [4])⟩]
def k78_3 : ACode := .seq (.region k78_o2) .ret
def k78_4 : ACode := .cond (.t 7) k78_3 .skip
def k78_5 : ACode := .seq (.region k78_o1) k78_4
abbrev k78_o3 : List AJ := [.o ⟨(some 9), none, false, .mv (.t 1), none⟩, .o ⟨(some 4), none, false, .mv (.t 9), (some [4])⟩]
def k78_7 : ACode := .seq (.region k78_o3) .ret
def k78_8 : ACode := .seq k78_5 k78_7
def k78_9 : ACode := .seq (.region k78_o0) k78_8
@[simp, simp ↓] theorem k78_3r : sR k78_3 k78_o2 .ret := yR rfl
@[simp, simp ↓] theorem k78_4r : rC k78_4 (.t 7) k78_3 .skip := zC rfl
@[simp, simp ↓] theorem k78_5r : sR k78_5 k78_o1 k78_4 := yR rfl
@[simp, simp ↓] theorem k78_7r : sR k78_7 k78_o3 .ret := yR rfl
@[simp, simp ↓] theorem k78_8r : rS k78_8 k78_5 k78_7 := zS rfl
@[simp, simp ↓] theorem k78_9r : sR k78_9 k78_o0 k78_8 := yR rfl
noncomputable abbrev k78_C : Orc → Cx := mkC Try.prog [] 78 10 [.tmp 4]
theorem k78_of0 : OfP0 Try.prog Try.f78 78 10 k78_C k78_9 := @ofP0 _ _ _ _ _ _ _ _ Try.func78 (by decide +kernel) rfl (by kernel_rfl) rfl (by kernel_rfl)
theorem l00Max_l (a b : Int) (h : Heap) : ACalls Try.prog 78 [.int .i64 a, .int .i64 b] h (fun v h' => v = .int .i64 (max a b) ∧ h' = h) := by
  refine k78_of0 rfl noPure fun I => ?_
  refine Run2.of I 1000 ?_
  simp -implicitDefEqProofs
  omega
noncomputable def o_vtx : List AV → Option (Prop × AV) := tab (fun (x : LS) => match x with | rs => [.agg [.snap 1 (rs.map il)]]) (fun x => match x with | rs => ssTot rs ≤ 1048576) (fun x => match x with | rs => .snap 1 ((vt rs).map iv))
@[simp] theorem o_vtx_e (rs : LS) : o_vtx [.agg [.snap 1 (rs.map il)]] = some (ssTot rs ≤ 1048576, .snap 1 ((vt rs).map iv)) := tab_at (enc := fun (x : LS) => match x with | rs => [.agg [.snap 1 (rs.map il)]]) (fun x y h => by
  simp at h; simp [h] <;> omega) _ _ rs
theorem o_vtx_k : Knows Try.prog 80 o_vtx := tab_knows fun x hx h => by
  exact vtx_s x h hx
noncomputable def o_l08Vtx : List AV → Option (Prop × AV) := tab (fun (x : LS × List AV) => match x with | (rs, e) => [.ip (.snap 1 (rs.map il) :: e)]) (fun x => match x with | (rs, e) => ssTot rs ≤ 1048576) (fun x => match x with | (rs, e) => .snap 1 ((vt rs).map iv))
@[simp] theorem o_l08Vtx_e (rs : LS) (e : List AV) : o_l08Vtx [.ip (.snap 1 (rs.map il) :: e)] = some (ssTot rs ≤ 1048576, .snap 1 ((vt rs).map iv)) := tab_at (enc := fun (x : LS × List AV) => match x with | (rs, e) => [.ip (.snap 1 (rs.map il) :: e)]) (fun x y h => by
  obtain ⟨rs1, e1⟩ := x; obtain ⟨rs2, e2⟩ := y; simp at h; simp [h] <;> omega) _ _ (rs, e)
theorem o_l08Vtx_k : Knows Try.prog 77 o_l08Vtx := tab_knows fun x hx h => by
  obtain ⟨rs, e⟩ := x; exact l08Vtx_s rs e h hx
end Go.AG
