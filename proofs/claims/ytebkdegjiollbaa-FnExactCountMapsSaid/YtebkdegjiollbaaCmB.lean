/- Maps of complexes: images and what fits, the program and the reference. No statement is made here. -/
import Derived.Test.YtebkdegjiollbaaCmA
namespace Go.AG
open Go.Proofs Go.Proofs.Ytebkdegjiollbaa
set_option linter.unusedSimpArgs false
set_option linter.unusedVariables false
set_option maxRecDepth 4000
noncomputable def orcCm1 : List (Nat × (List AV → Option (Prop × AV))) := (109, o_vtx) :: (165, o_indexI) :: []
theorem orcCm1_p : Pure Try.prog (lk orcCm1) := (lk_pure o_vtx_k (lk_pure o_indexI_k lk_pure0))
@[simp] theorem orcCm1_l (b : Bool) (g : FuncId) (l : List AV) : lk orcCm1 b g l = if g = 109 then o_vtx l else if g = 165 then o_indexI l else none := nr rfl
abbrev k145_o0 : List AJ := [.o ⟨(some 3), none, false, .box false 1 (.t 0), none⟩, .o ⟨(some 6), none, false, .mv (.c .nilsl), (some [1, 2, 3])⟩]
abbrev k145_o1 : List AJ := [.o ⟨(some 11), none, false, .load 1 true (.t 3), none⟩, .o ⟨(some 12), none, false, .call 109 [(.t 11)], none⟩, .o ⟨(some 7), none, false, .mv (.t 12), (some [1, 2, 7])⟩]
abbrev k145_o2 : List AJ := [.o ⟨(some 8), none, false, .mv (.c .nilsl), (some [1, 2, 7, 8])⟩]
abbrev k145_o3 : List AJ := [.o ⟨(some 13), none, false, .mv (.t 2), none⟩, .o ⟨(some 14), none, false, .len (.t 13), none⟩, .o ⟨(some 15), none, false, .mv (.c (.int .i64 0)), (some [1, 7, 8, 13, 14, 15])⟩]
abbrev k145_o4 : List AJ := [.o ⟨(some 16), none, false, .bin .lss (.t 15) (.t 14), (some [1, 7, 8, 13, 14, 15, 16])⟩]
abbrev k145_o5 : List AJ := [.o ⟨(some 17), none, false, .idxA 1 (.t 13) (.t 15), none⟩, .o ⟨(some 18), none, false, .load 1 false (.t 17), none⟩, .o ⟨(some 10), none, false, .mv (.t 18), (some [1, 7, 8, 10, 13, 14, 15])⟩]
abbrev k145_o6 : List AJ := [.o ⟨(some 19), none, false, .mv (.t 8), none⟩, .o ⟨(some 20), none, false, .mv (.t 1), none⟩, .o ⟨(some 21), none, false, .mv (.t 7), none⟩, .o ⟨(some 22), none, false, .mv (.t 10), none⟩, .o ⟨(some 23), none, false, .call 165 [(.t 21), (.t 22)], none⟩, .o ⟨(some 24), none, false, .idxA 1 (.t 20) (.t 23), none⟩, .o ⟨(some 25), none, false, .load 1 false (.t 24), none⟩, .o ⟨(some 26), none, false, .bsl false 1 [(.t 25)], none⟩, .o ⟨(some 27), none, false, .append 1 8 (.t 19) (.t 26), none⟩, .o ⟨(some 8), none, false, .mv (.t 27), (some [1, 7, 8, 13, 14, 15])⟩]
def k145_7 : ACode := .region k145_o6
def k145_8 : ACode := .seq (.region k145_o5) k145_7
abbrev k145_o7 : List AJ := [.o ⟨(some 28), none, true, .bin .add (.t 15) (.c (.int .i64 1)), none⟩, .o ⟨(some 15), none, false, .mv (.t 28), (some [1, 7, 8, 13, 14, 15])⟩]
def k145_10 : ACode := .region k145_o7
def k145_11 : ACode := .seq (.block 1 k145_8) k145_10
def k145_12 : ACode := .seq (.cond (.t 16) .skip (.exit 0)) k145_11
def k145_13 : ACode := .seq (.region k145_o4) k145_12
def k145_14 : ACode := .loop k145_13
def k145_15 : ACode := .block 0 k145_14
def k145_16 : ACode := .seq (.region k145_o3) k145_15
abbrev k145_o8 : List AJ := [.o ⟨(some 29), none, false, .mv (.t 8), none⟩, .o ⟨(some 30), none, false, .call 152 [(.t 29)], (some [8])⟩]
abbrev k145_o9 : List AJ := [.o ⟨(some 31), none, false, .mv (.t 8), none⟩, .o ⟨(some 32), none, false, .call 153 [(.t 31)], none⟩, .o ⟨(some 6), none, false, .mv (.t 32), (some [6])⟩]
def k145_19 : ACode := .seq (.region k145_o9) .ret
def k145_20 : ACode := .seq (.region k145_o8) k145_19
def k145_21 : ACode := .seq k145_16 k145_20
def k145_22 : ACode := .seq (.region k145_o2) k145_21
def k145_23 : ACode := .seq (.region k145_o1) k145_22
def k145_24 : ACode := .seq (.region k145_o0) k145_23
@[simp, simp ↓] theorem k145_7r : rR k145_7 k145_o6 := zR rfl
@[simp, simp ↓] theorem k145_8r : sR k145_8 k145_o5 k145_7 := yR rfl
@[simp, simp ↓] theorem k145_10r : rR k145_10 k145_o7 := zR rfl
@[simp, simp ↓] theorem k145_11r : sB k145_11 1 k145_8 k145_10 := yB rfl
@[simp, simp ↓] theorem k145_12r : sC k145_12 (.t 16) .skip (.exit 0) k145_11 := yC rfl
@[simp, simp ↓] theorem k145_13r : sR k145_13 k145_o4 k145_12 := yR rfl
@[simp, simp ↓] theorem k145_14r : rL k145_14 k145_13 := zL rfl
@[simp, simp ↓] theorem k145_15r : rB k145_15 0 k145_14 := zB rfl
@[simp, simp ↓] theorem k145_16r : sR k145_16 k145_o3 k145_15 := yR rfl
@[simp, simp ↓] theorem k145_19r : sR k145_19 k145_o9 .ret := yR rfl
@[simp, simp ↓] theorem k145_20r : sR k145_20 k145_o8 k145_19 := yR rfl
@[simp, simp ↓] theorem k145_21r : rS k145_21 k145_16 k145_20 := zS rfl
@[simp, simp ↓] theorem k145_22r : sR k145_22 k145_o2 k145_21 := yR rfl
@[simp, simp ↓] theorem k145_23r : sR k145_23 k145_o1 k145_22 := yR rfl
@[simp, simp ↓] theorem k145_24r : sR k145_24 k145_o0 k145_23 := yR rfl
noncomputable abbrev k145_C : Orc → Cx := mkC Try.prog [] 145 33 [.tmp 6]
theorem k145_of : OfP Try.prog Try.f145 145 33 k145_C k145_24 := @ofP _ _ _ _ _ _ _ _ Try.func145 (by decide +kernel) rfl (by kernel_rfl) rfl (by kernel_rfl)
theorem imageOf_g (rs : List (List Int)) (im s : List Int) (h : Heap) (hl : ssTot rs ≤ 1048576) (hil : im.length ≤ 1048576) (hsl : s.length ≤ 1048576) (hs : ∀ v ∈ s, v ∈ (vt rs).take im.length) :
    ACalls Try.prog 145 [.agg [.snap 1 (rs.map il)], .snap 1 (im.map iv), .snap 1 (s.map iv)] h (fun v h' => ∃ g, OwnL iv 1 v (critL (s.map (vl (vt rs) im))) g ∧ h' = g ++ h) := by
  have hvl := vt_len rs
  have hn := (fit_of_tot hl).1
  have hvl2 : (vt rs).length ≤ 1048576 := by omega
  refine k145_of rfl orcCm1_p fun I => ?_
  refine Run2.of I 1000 ?_
  simp -implicitDefEqProofs [hl]
  refine Run2.loopE (α := Nat × AV × Heap) (fun p => [(1, .snap 1 (im.map iv)), (7, .snap 1 ((vt rs).map iv)), (8, p.2.1), (13, .snap 1 (s.map iv)), (14, .int .i64 s.length), (15, .int .i64 (p.1 : Nat))]) (fun p => p.2.2 ++ h) (fun p => s.length - p.1) (fun p => p.1 ≤ s.length ∧ Grow 1 p.2.1 (((s.take p.1).map (vl (vt rs) im)).map iv) p.2.2) (0, .nilsl, []) (by simp) rfl ⟨Nat.zero_le _, by simpa using Grow.nil⟩ ?_
  rintro ⟨i, w, hp⟩ ⟨hi', hg⟩ ih
  simp only at hi' hg
  have hcell := hg.cell
  by_cases hlt : i < s.length
  · obtain ⟨k, hk, hk2, e1, e2⟩ := tk_ix (hs _ (List.getElem_mem hlt))
    have hx : vl (vt rs) im s[i] = im[k] := by unfold vl; rw [e1]; simp [hk2]
    have go := fun w' hp' (g' : Grow 1 w' (((s.take i).map (vl (vt rs) im)).map iv ++ [.int .i64 im[k]]) hp') => ih (i + 1, w', hp') ⟨hlt, by
      simp only
      rw [List.take_succ_eq_append_getElem hlt, List.map_append, List.map_append]
      simpa [hx] using g'⟩ (by simp; omega)
    clear ih
    refine Run2.of I 1000 ?_
    simp -implicitDefEqProofs [hlt, hcell, e1, hk2, hvl2]
    refine hg.app (by simp; omega) (by simp) fun w' hp' hg' => ?_
    have hcell' := hg'.cell
    have := go w' hp' (by simpa using hg')
    simp -implicitDefEqProofs [hcell']
    refine ⟨by omega, ?_⟩
    simpa using this
  · obtain rfl : i = s.length := by omega
    rw [List.take_length] at hg
    obtain ⟨l, hL⟩ : ∃ l, l = s.map (vl (vt rs) im) := ⟨_, rfl⟩
    have hll : l.length ≤ 1048576 := by rw [hL]; simpa using hsl
    rw [← hL] at hg ⊢
    clear hL ih
    have hst := stor_of hcell
    have hcl := cells_of hcell
    refine Run2.of I 1000 ?_
    simp -implicitDefEqProofs [hlt, hcell, hst, hcl]
    refine (sortG hg h (by omega)).mono ?_
    rintro r h' ⟨rfl, hp', G', hd, rfl⟩
    refine gK.go ?_
    simp -implicitDefEqProofs [hcell, hst, hcl]
    have hsl := sorted_len l
    generalize hS : sorted l = S at *
    have hcr : critL l = cu S S.length := by unfold critL; rw [hS]
    rw [hcr]
    have hG : ACalls Try.prog 153 [w] (hp' ++ h) (fun v h' => ∃ g, OwnL iv 1 v (cu S S.length) g ∧ h' = g ++ h) := by
      generalize hm : S.map iv = m at G'
      cases G' with
      | nil =>
        rw [List.map_eq_nil_iff] at hm
        subst hm
        exact (comp0_s (.inl rfl) _).mono fun r h' ⟨e1, e2⟩ => ⟨[], by rw [e1]; exact .nil, by simpa using e2⟩
      | emp =>
        rw [List.map_eq_nil_iff] at hm
        subst hm
        exact (comp0_s (.inr rfl) _).mono fun r h' ⟨e1, e2⟩ => ⟨[], by rw [e1]; exact .emp, by simpa using e2⟩
      | sl id m n hn =>
        subst hm
        simp only [List.length_map] at hn
        subst hn
        exact (compI_s (by omega)).mono fun r h' ⟨ex, e1, e2, e3⟩ => ⟨[(id, ⟨1, (cu S S.length).map iv ++ ex⟩)], by rw [e1]; exact .sl id none ex e2, by simpa using e3⟩
    refine hG.mono ?_
    rintro r h' ⟨g, o, rfl⟩
    have hcell2 := o.cell
    refine gK.go ?_
    simp -implicitDefEqProofs [hcell2]
    exact .base ⟨g, o, rfl⟩
theorem imageOf_s (rs : List (List Int)) (im s : List Int) (h : Heap) (hl : ssTot rs ≤ 1048576) (hil : im.length ≤ 1048576) (hsl : s.length ≤ 1048576) (hs : ∀ v ∈ s, v ∈ (vt rs).take im.length) :
    ACalls Try.prog 145 [.agg [.snap 1 (rs.map il)], .snap 1 (im.map iv), .snap 1 (s.map iv)] h (fun v h' => v = .snap 1 ((critL (s.map (vl (vt rs) im))).map iv) ∧ h' = h) := by
  refine ACalls.post ((imageOf_g rs im s h hl hil hsl hs).mono ?_)
  rintro v h' ⟨g, o, rfl⟩
  refine Post.lend ?_
  exact .wk o.lent.wk (.base ⟨rfl, rfl⟩)
noncomputable def o_imageOf : List AV → Option (Prop × AV) := tab (fun (x : LS × List Int × List Int) => match x with | (rs, im, s) => [.agg [.snap 1 (rs.map il)], .snap 1 (im.map iv), .snap 1 (s.map iv)]) (fun x => match x with | (rs, im, s) => ((ssTot rs ≤ 1048576 ∧ im.length ≤ 1048576 ∧ s.length ≤ 1048576) ∧ ∀ v ∈ s, v ∈ (vt rs).take im.length)) (fun x => match x with | (rs, im, s) => .snap 1 ((critL (s.map (vl (vt rs) im))).map iv))
@[simp] theorem o_imageOf_e (rs : LS) (im : List Int) (s : List Int) : o_imageOf [.agg [.snap 1 (rs.map il)], .snap 1 (im.map iv), .snap 1 (s.map iv)] = some (((ssTot rs ≤ 1048576 ∧ im.length ≤ 1048576 ∧ s.length ≤ 1048576) ∧ ∀ v ∈ s, v ∈ (vt rs).take im.length), .snap 1 ((critL (s.map (vl (vt rs) im))).map iv)) := tab_at (enc := fun (x : LS × List Int × List Int) => match x with | (rs, im, s) => [.agg [.snap 1 (rs.map il)], .snap 1 (im.map iv), .snap 1 (s.map iv)]) (fun x y h => by
  obtain ⟨rs1, im1, s1⟩ := x; obtain ⟨rs2, im2, s2⟩ := y; simp at h; simp [h] <;> omega) _ _ (rs, im, s)
theorem o_imageOf_k : Knows Try.prog 145 o_imageOf := tab_knows fun x hx h => by
  obtain ⟨rs, im, s⟩ := x; exact imageOf_s rs im s h hx.1.1 hx.1.2.1 hx.1.2.2 hx.2
noncomputable def orcCm2 : List (Nat × (List AV → Option (Prop × AV))) := (109, o_vtx) :: (144, o_isFace) :: (145, o_imageOf) :: (108, o_indexOf) :: []
theorem orcCm2_p : Pure Try.prog (lk orcCm2) := (lk_pure o_vtx_k (lk_pure o_isFace_k (lk_pure o_imageOf_k (lk_pure o_indexOf_k lk_pure0))))
@[simp] theorem orcCm2_l (b : Bool) (g : FuncId) (l : List AV) : lk orcCm2 b g l = if g = 109 then o_vtx l else if g = 144 then o_isFace l else if g = 145 then o_imageOf l else if g = 108 then o_indexOf l else none := nr rfl
/-- What the program's search has in its struct. -/
def mpC (ra rb : List (List Int)) (im : List Int) (a : Int) (b : Bool) (c : Int) : List AV := [.int .i64 a, .bool b, .snap 1 (ra.map il), .snap 1 (rb.map il), .int .i64 c, .snap 1 (im.map iv)]
abbrev k143_o0 : List AJ := [.o ⟨(some 4), none, false, .mv (.c (.bool false)), (some [0, 1, 2])⟩]
abbrev k143_o1 : List AI := [⟨(some 5), none, false, .mv (.t 0), none⟩, ⟨(some 6), none, false, .load 1 false (.t 1), none⟩, ⟨(some 7), none, false, .call 144 [(.t 5), (.t 6)], none⟩, ⟨(some 8), none, false, .mv (.t 7), none⟩, ⟨(some 9), (some (8, true)), false, .load 1 false (.t 2), none⟩, ⟨(some 10), (some (8, true)), false, .nilchk (.t 9), none⟩, ⟨(some 11), (some (8, true)), false, .fieldA 3 (.t 10), none⟩, ⟨(some 12), (some (8, true)), false, .load 1 true (.t 11), none⟩, ⟨(some 13), (some (8, true)), false, .load 1 false (.t 2), (some [0, 2, 8, 12, 13])⟩, ⟨(some 14), (some (8, true)), false, .nilchk (.t 13), none⟩, ⟨(some 15), (some (8, true)), false, .fieldA 2 (.t 14), none⟩, ⟨(some 16), (some (8, true)), false, .load 1 true (.t 15), none⟩, ⟨(some 17), (some (8, true)), false, .load 1 false (.t 2), none⟩, ⟨(some 18), (some (8, true)), false, .nilchk (.t 17), none⟩, ⟨(some 19), (some (8, true)), false, .fieldA 5 (.t 18), none⟩, ⟨(some 20), (some (8, true)), false, .load 1 false (.t 19), (some [0, 8, 12, 16, 20])⟩, ⟨(some 21), (some (8, true)), false, .mv (.t 0), none⟩, ⟨(some 22), (some (8, true)), false, .call 145 [(.t 16), (.t 20), (.t 21)], none⟩, ⟨(some 23), (some (8, true)), false, .call 108 [(.t 12), (.t 22)], none⟩, ⟨(some 24), (some (8, true)), false, .bin .lss (.t 23) (.c (.int .i64 0)), none⟩, ⟨(some 25), none, false, .pick (.t 8) (.t 24) (.c (.bool false)), none⟩, ⟨(some 4), none, false, .mv (.t 25), (some [4])⟩]
def k143_2 : ACode := .seq (.draw k143_o1 [] rfl) .ret
def k143_3 : ACode := .seq (.region k143_o0) k143_2
@[simp, simp ↓] theorem k143_2r : sD k143_2 k143_o1 [] .ret := yD rfl
@[simp, simp ↓] theorem k143_3r : sR k143_3 k143_o0 k143_2 := yR rfl
noncomputable abbrev k143_C : Orc → Cx := mkC Try.prog [] 143 26 [.tmp 4]
theorem k143_of0 : OfP0 Try.prog Try.f143 143 26 k143_C k143_3 := @ofP0 _ _ _ _ _ _ _ _ Try.func143 (by decide +kernel) rfl (by kernel_rfl) rfl (by kernel_rfl)
theorem fits1_c (ra rb : List (List Int)) (im s T : List Int) (a : Int) (b : Bool) (c : Int) (h : Heap) (hT : T = (vt ra).take im.length) (hs : s ∈ ra) (ha : ssTot ra ≤ 1048576) (hb : ssTot rb ≤ 1048576) (hbs : sortS rb) (hil : im.length ≤ 1048576) :
    ACalls Try.prog 143 [.snap 1 (s.map iv), .ip [.snap 1 (T.map iv)], .ip [.ip [.int .i64 a, .bool b, .snap 1 (ra.map il), .snap 1 (rb.map il), .int .i64 c, .snap 1 (im.map iv)]]] h
      (fun v h' => v = .bool (allT (vt ra) im s && !decide (critL (s.map (vl (vt ra) im)) ∈ rb)) ∧ h' = h) := by
  have hsl := (fit_of_tot ha).2 s hs
  have htl : T.length ≤ 1048576 := by rw [hT, List.length_take]; omega
  refine k143_of0 rfl orcCm2_p fun I => ?_
  by_cases hall : allT (vt ra) im s = true
  · have hm := allT_mem hall
    unfold allT at hall
    unfold allT
    rw [← hT] at hall ⊢
    refine Run2.of I 1000 ?_
    simp -implicitDefEqProofs [hsl, htl, hall, hil, ha, hb, hbs, ixS_neg]
    exact hm
  · unfold allT at hall
    unfold allT
    rw [← hT] at hall ⊢
    refine Run2.of I 1000 ?_
    simp -implicitDefEqProofs [hsl, htl, hall, hil, ha, hb, hbs]
abbrev k110_o0 : List AJ := [.o ⟨(some 1), none, false, .box false 1 (.t 0), none⟩, .o ⟨(some 2), none, false, .mv (.c (.bool false)), (some [1])⟩]
abbrev k110_o1 : List AJ := [.o ⟨(some 4), none, false, .load 1 false (.t 1), none⟩, .o ⟨(some 5), none, false, .nilchk (.t 4), none⟩, .o ⟨(some 6), none, false, .fieldA 2 (.t 5), none⟩, .o ⟨(some 7), none, false, .load 1 true (.t 6), none⟩, .o ⟨(some 8), none, true, .call 109 [(.t 7)], none⟩, .o ⟨(some 9), none, false, .load 1 false (.t 1), none⟩, .o ⟨(some 10), none, false, .nilchk (.t 9), none⟩, .o ⟨(some 11), none, false, .fieldA 5 (.t 10), none⟩, .o ⟨(some 12), none, false, .load 1 false (.t 11), none⟩, .o ⟨(some 13), none, false, .len (.t 12), none⟩, .o ⟨(some 14), none, false, .slice 1 (.t 8) none (some (.t 13)) none, none⟩, .v 3 1 .nilsl [] (.t 14) (some [1, 3])]
abbrev k110_o2 : List AJ := [.o ⟨(some 15), none, false, .load 1 false (.t 1), none⟩, .o ⟨(some 16), none, false, .nilchk (.t 15), none⟩, .o ⟨(some 17), none, false, .fieldA 2 (.t 16), none⟩, .o ⟨(some 18), none, false, .fieldA 0 (.t 17), none⟩, .o ⟨(some 19), none, false, .load 1 false (.t 18), none⟩, .o ⟨(some 20), none, false, .mkfn 143 [(.t 3), (.t 1)], none⟩, .o ⟨(some 21), none, false, .call 105 [(.t 19), (.t 20)], none⟩, .o ⟨(some 22), none, false, .un .not (.t 21), none⟩, .o ⟨(some 2), none, false, .mv (.t 22), (some [2])⟩]
def k110_3 : ACode := .seq (.region k110_o2) .ret
def k110_4 : ACode := .seq (.drawT 1 k110_o1 rfl) k110_3
def k110_5 : ACode := .seq (.region k110_o0) k110_4
@[simp, simp ↓] theorem k110_3r : sR k110_3 k110_o2 .ret := yR rfl
@[simp, simp ↓] theorem k110_4r : sT k110_4 k110_o1 k110_3 := yT rfl
@[simp, simp ↓] theorem k110_5r : sR k110_5 k110_o0 k110_4 := yR rfl
noncomputable abbrev k110_C : Orc → Cx := mkC Try.prog [3] 110 23 [.tmp 2]
theorem k110_of : OfP Try.prog Try.f110 110 23 k110_C k110_5 := @ofP _ _ _ _ _ _ _ _ Try.func110 (by decide +kernel) rfl (by kernel_rfl) rfl (by kernel_rfl)
theorem fits_s (ra rb : List (List Int)) (im : List Int) (a : Int) (b : Bool) (c : Int) (h : Heap) (ha : ssTot ra ≤ 1048576) (hb : ssTot rb ≤ 1048576) (hbs : sortS rb) (hil : im.length ≤ (vt ra).length) :
    ACalls Try.prog 110 [.ip [.int .i64 a, .bool b, .snap 1 (ra.map il), .snap 1 (rb.map il), .int .i64 c, .snap 1 (im.map iv)]] h (fun v h' => v = .bool (fitB ra rb im) ∧ h' = h) := by
  have hn := (fit_of_tot ha).1
  have hvl := vt_len ra
  refine k110_of rfl orcCm2_p fun I => ?_
  refine Run2.of I 1000 ?_
  simp -implicitDefEqProofs [ha, hil]
  rw [← List.map_take]
  refine (ContainsFuncS_s ra 143 [.ip [.snap 1 (((vt ra).take im.length).map iv)], .ip [.ip [.int .i64 a, .bool b, .snap 1 (ra.map il), .snap 1 (rb.map il), .int .i64 c, .snap 1 (im.map iv)]]] (fun s => allT (vt ra) im s && !decide (critL (s.map (vl (vt ra) im)) ∈ rb)) h hn fun s hs => fits1_c ra rb im s _ a b c h rfl hs ha hb hbs (by omega)).mono ?_
  rintro v h' ⟨rfl, rfl⟩
  refine gK.go ?_
  simp -implicitDefEqProofs
  refine .base ⟨?_, rfl⟩
  rw [fitB, List.not_any_eq_all_not]
theorem told_s (vs im : List Int) (v : Int) (h : Heap) (hlen : im.length ≤ vs.length) (hl : vs.length ≤ 1048576) : ACalls Try.prog 160 [.snap 1 (vs.map iv), .snap 1 (im.map iv), .int .i64 v] h (fun r h' => r = .int .i64 (tld vs im v) ∧ h' = h) := by
  refine k160_of0 rfl noPure fun I => ?_
  refine Run2.of I 1000 ?_
  simp -implicitDefEqProofs
  refine Run2.loopE (fun (i : Nat) => [(0, .snap 1 (vs.map iv)), (1, .snap 1 (im.map iv)), (2, .int .i64 v), (7, .int .i64 i)]) (fun i => h) (fun i => im.length - i) (fun i => i ≤ im.length ∧ ∀ j (hj : j < vs.length), j < i → decide (v = vs[j]) = false) 0 (by simp) rfl ⟨Nat.zero_le _, fun _ _ h => absurd h (Nat.not_lt_zero _)⟩ fun i hi ih => ?_
  by_cases hlt : i < im.length
  · have hlt2 : i < vs.length := by omega
    by_cases he : vs[i] = v
    · have hat := idxf_at (q := fun a => decide (v = a)) hlt2 hi.2 (by simp [he])
      have hm : v ∈ vs.take im.length := List.mem_iff_getElem.2 ⟨i, by simp; omega, by simpa using he⟩
      have hvl : tld vs im v = im[i] := by unfold tld; rw [if_pos hm]; unfold vl ixI; rw [hat]; simp [hlt]
      clear ih
      refine Run2.of I 1000 ?_
      simp -implicitDefEqProofs [hlt, hlt2, he]
      exact hvl.symm
    · have go := ih (i + 1) ⟨by omega, fun j hj hji => by
        rcases Nat.lt_or_ge j i with h | h
        · exact hi.2 j hj h
        · obtain rfl : j = i := by omega
          simpa using Ne.symm he⟩ (by omega)
      clear ih
      refine Run2.of I 1000 ?_
      simp -implicitDefEqProofs [hlt, hlt2, he]
      exact ⟨by omega, by simpa using go⟩
  · have hno : tld vs im v = -1 := by
      unfold tld
      rw [if_neg]
      intro hm
      obtain ⟨j, hj, ej⟩ := List.mem_iff_getElem.1 hm
      rw [List.length_take] at hj
      rw [List.getElem_take] at ej
      have := hi.2 j (by omega) (by omega)
      simp [ej] at this
    refine Run2.of I 1000 ?_
    simp -implicitDefEqProofs [hlt]
    exact hno.symm
noncomputable def o_told : List AV → Option (Prop × AV) := tab (fun (x : List Int × List Int × Int) => match x with | (vs, im, v) => [.snap 1 (vs.map iv), .snap 1 (im.map iv), .int .i64 v]) (fun x => match x with | (vs, im, v) => (im.length ≤ vs.length ∧ vs.length ≤ 1048576)) (fun x => match x with | (vs, im, v) => .int .i64 (tld vs im v))
@[simp] theorem o_told_e (vs : List Int) (im : List Int) (v : Int) : o_told [.snap 1 (vs.map iv), .snap 1 (im.map iv), .int .i64 v] = some ((im.length ≤ vs.length ∧ vs.length ≤ 1048576), .int .i64 (tld vs im v)) := tab_at (enc := fun (x : List Int × List Int × Int) => match x with | (vs, im, v) => [.snap 1 (vs.map iv), .snap 1 (im.map iv), .int .i64 v]) (fun x y h => by
  obtain ⟨vs1, im1, v1⟩ := x; obtain ⟨vs2, im2, v2⟩ := y; simp at h; simp [h] <;> omega) _ _ (vs, im, v)
theorem o_told_k : Knows Try.prog 160 o_told := tab_knows fun x hx h => by
  obtain ⟨vs, im, v⟩ := x; exact told_s vs im v h hx.1 hx.2
noncomputable def orcCm3 : List (Nat × (List AV → Option (Prop × AV))) := (160, o_told) :: (147, o_l00Put) :: []
theorem orcCm3_p : Pure Try.prog (lk orcCm3) := (lk_pure o_told_k (lk_pure o_l00Put_k lk_pure0))
@[simp] theorem orcCm3_l (b : Bool) (g : FuncId) (l : List AV) : lk orcCm3 b g l = if g = 160 then o_told l else if g = 147 then o_l00Put l else none := nr rfl
/-- The image of a simplex, if all its vertices are told. -/
def imgV (vs im s : List Int) : List Int := if allT vs im s = true then putAll (s.map (vl vs im)) else []
theorem imgV_len (vs im s : List Int) : (imgV vs im s).length ≤ s.length := by
  unfold imgV
  split
  · have := putAll_len (s.map (vl vs im))
    simpa using this
  · simp
abbrev k134_o0 : List AJ := [.o ⟨(some 6), none, false, .mv (.c .nilsl), none⟩, .o ⟨(some 7), none, false, .mv (.c (.bool false)), (some [0, 1, 2])⟩]
abbrev k134_o1 : List AJ := [.o ⟨(some 11), none, false, .bsl false 1 [], none⟩, .o ⟨(some 8), none, false, .mv (.t 11), (some [0, 1, 2, 8])⟩]
abbrev k134_o2 : List AJ := [.o ⟨(some 9), none, false, .mv (.c (.int .i64 0)), (some [0, 1, 2, 8, 9])⟩]
abbrev k134_o3 : List AJ := [.o ⟨(some 12), none, false, .mv (.t 9), none⟩, .o ⟨(some 13), none, false, .mv (.t 2), none⟩, .o ⟨(some 14), none, false, .len (.t 13), none⟩, .o ⟨(some 15), none, false, .bin .lss (.t 12) (.t 14), (some [0, 1, 2, 8, 9, 15])⟩]
def k134_4 : ACode := .cond (.t 15) .skip (.exit 0)
def k134_5 : ACode := .seq (.region k134_o3) k134_4
abbrev k134_o4 : List AJ := [.o ⟨(some 18), none, false, .mv (.t 0), none⟩, .o ⟨(some 19), none, false, .mv (.t 1), none⟩, .o ⟨(some 20), none, false, .mv (.t 2), none⟩, .o ⟨(some 21), none, false, .mv (.t 9), none⟩, .o ⟨(some 22), none, false, .idxA 1 (.t 20) (.t 21), none⟩, .o ⟨(some 23), none, false, .load 1 false (.t 22), none⟩, .o ⟨(some 24), none, false, .call 160 [(.t 18), (.t 19), (.t 23)], none⟩, .o ⟨(some 10), none, false, .mv (.t 24), (some [0, 1, 2, 8, 9, 10])⟩]
abbrev k134_o5 : List AJ := [.o ⟨(some 25), none, false, .mv (.t 10), none⟩, .o ⟨(some 26), none, false, .bin .lss (.t 25) (.c (.int .i64 0)), (some [0, 1, 2, 8, 9, 10, 26])⟩]
abbrev k134_o6 : List AJ := [.o ⟨(some 6), none, false, .mv (.c .nilsl), none⟩, .o ⟨(some 7), none, false, .mv (.c (.bool false)), (some [6, 7])⟩]
def k134_9 : ACode := .seq (.region k134_o6) .ret
def k134_10 : ACode := .cond (.t 26) k134_9 .skip
def k134_11 : ACode := .seq (.region k134_o5) k134_10
abbrev k134_o7 : List AJ := [.o ⟨(some 27), none, false, .mv (.t 8), none⟩, .o ⟨(some 28), none, false, .mv (.t 10), none⟩, .o ⟨(some 29), none, false, .call 147 [(.t 27), (.t 28)], none⟩, .o ⟨(some 8), none, false, .mv (.t 29), (some [0, 1, 2, 8, 9])⟩]
def k134_12 : ACode := .region k134_o7
def k134_13 : ACode := .seq k134_11 k134_12
def k134_14 : ACode := .seq (.region k134_o4) k134_13
abbrev k134_o8 : List AJ := [.o ⟨(some 16), none, false, .mv (.t 9), none⟩, .o ⟨(some 17), none, true, .bin .add (.t 16) (.c (.int .i64 1)), none⟩, .o ⟨(some 9), none, false, .mv (.t 17), (some [0, 1, 2, 8, 9])⟩]
def k134_16 : ACode := .region k134_o8
def k134_17 : ACode := .seq (.block 1 k134_14) k134_16
def k134_18 : ACode := .seq k134_5 k134_17
def k134_19 : ACode := .loop k134_18
def k134_20 : ACode := .block 0 k134_19
def k134_21 : ACode := .seq (.region k134_o2) k134_20
abbrev k134_o9 : List AJ := [.o ⟨(some 30), none, false, .mv (.t 8), none⟩, .o ⟨(some 6), none, false, .mv (.t 30), none⟩, .o ⟨(some 7), none, false, .mv (.c (.bool true)), (some [6, 7])⟩]
def k134_23 : ACode := .seq (.region k134_o9) .ret
def k134_24 : ACode := .seq k134_21 k134_23
def k134_25 : ACode := .seq (.region k134_o1) k134_24
def k134_26 : ACode := .seq (.region k134_o0) k134_25
@[simp, simp ↓] theorem k134_4r : rC k134_4 (.t 15) .skip (.exit 0) := zC rfl
@[simp, simp ↓] theorem k134_5r : sR k134_5 k134_o3 k134_4 := yR rfl
@[simp, simp ↓] theorem k134_9r : sR k134_9 k134_o6 .ret := yR rfl
@[simp, simp ↓] theorem k134_10r : rC k134_10 (.t 26) k134_9 .skip := zC rfl
@[simp, simp ↓] theorem k134_11r : sR k134_11 k134_o5 k134_10 := yR rfl
@[simp, simp ↓] theorem k134_12r : rR k134_12 k134_o7 := zR rfl
@[simp, simp ↓] theorem k134_13r : rS k134_13 k134_11 k134_12 := zS rfl
@[simp, simp ↓] theorem k134_14r : sR k134_14 k134_o4 k134_13 := yR rfl
@[simp, simp ↓] theorem k134_16r : rR k134_16 k134_o8 := zR rfl
@[simp, simp ↓] theorem k134_17r : sB k134_17 1 k134_14 k134_16 := yB rfl
@[simp, simp ↓] theorem k134_18r : rS k134_18 k134_5 k134_17 := zS rfl
@[simp, simp ↓] theorem k134_19r : rL k134_19 k134_18 := zL rfl
@[simp, simp ↓] theorem k134_20r : rB k134_20 0 k134_19 := zB rfl
@[simp, simp ↓] theorem k134_21r : sR k134_21 k134_o2 k134_20 := yR rfl
@[simp, simp ↓] theorem k134_23r : sR k134_23 k134_o9 .ret := yR rfl
@[simp, simp ↓] theorem k134_24r : rS k134_24 k134_21 k134_23 := zS rfl
@[simp, simp ↓] theorem k134_25r : sR k134_25 k134_o1 k134_24 := yR rfl
@[simp, simp ↓] theorem k134_26r : sR k134_26 k134_o0 k134_25 := yR rfl
noncomputable abbrev k134_C : Orc → Cx := mkC Try.prog [] 134 31 [.tmp 6, .tmp 7]
theorem k134_of : OfP Try.prog Try.f134 134 31 k134_C k134_26 := @ofP _ _ _ _ _ _ _ _ Try.func134 (by decide +kernel) rfl (by kernel_rfl) rfl (by kernel_rfl)
theorem l08Image_s (vs im s : List Int) (h : Heap) (hlen : im.length ≤ vs.length) (hl : vs.length ≤ 1048576) (hsl : s.length ≤ 1048576) (hpos : ∀ v ∈ im, 0 ≤ v) :
    ACalls Try.prog 134 [.snap 1 (vs.map iv), .snap 1 (im.map iv), .snap 1 (s.map iv)] h (fun r h' => r = .tup [.snap 1 ((imgV vs im s).map iv), .bool (allT vs im s)] ∧ h' = h) := by
  refine k134_of rfl orcCm3_p fun I => ?_
  refine Run2.of I 1000 ?_
  simp -implicitDefEqProofs
  refine Run2.loopE (fun (i : Nat) => [(0, .snap 1 (vs.map iv)), (1, .snap 1 (im.map iv)), (2, .snap 1 (s.map iv)), (8, .snap 1 ((putAll ((s.take i).map (vl vs im))).map iv)), (9, .int .i64 i)]) (fun _ => h) (fun i => s.length - i) (fun i => i ≤ s.length ∧ allT vs im (s.take i) = true) 0 (by simp [putAll]) rfl ⟨Nat.zero_le _, by simp [allT, subL]⟩ fun i hi ih => ?_
  have hpl := putAll_len ((s.take i).map (vl vs im))
  rw [List.length_map, List.length_take] at hpl
  by_cases hlt : i < s.length
  · by_cases hm : s[i] ∈ vs.take im.length
    · have ht : tld vs im s[i] = vl vs im s[i] := if_pos hm
      obtain ⟨k, hk, hk2, e1, e2⟩ := tk_ix hm
      have hv : ¬ vl vs im s[i] < 0 := by
        unfold vl
        rw [e1]
        have := hpos im[k] (List.getElem_mem _)
        simp [hk2]; omega
      have hstep : putAll ((s.take (i + 1)).map (vl vs im)) = insI (vl vs im s[i]) (putAll ((s.take i).map (vl vs im))) := by
        rw [List.take_succ_eq_append_getElem hlt, List.map_append]; unfold putAll; rw [List.foldl_append]; rfl
      have go := ih (i + 1) ⟨hlt, by rw [allT_succ vs im hlt, hi.2]; simpa using hm⟩ (by omega)
      rw [hstep] at go
      clear ih
      generalize putAll ((s.take i).map (vl vs im)) = S at *
      have hS : S.length ≤ 1048576 := by omega
      refine Run2.of I 1000 ?_
      simp -implicitDefEqProofs [hlt, hlen, hl, hS, ht, hv]
      exact ⟨by omega, by simpa using go⟩
    · have ht : tld vs im s[i] = -1 := if_neg hm
      have hall : allT vs im s = false := by
        cases h1 : allT vs im s with
        | false => rfl
        | true => exact absurd (allT_mem h1 _ (List.getElem_mem hlt)) hm
      clear ih
      refine Run2.of I 1000 ?_
      simp -implicitDefEqProofs [hlt, hlen, hl, ht, hall]
      refine .wk (Wk.tup (.cons (Wk.nil 1) (.cons (.refl _) .nil))) (.base ⟨?_, rfl⟩)
      simp [imgV, hall]
  · obtain rfl : i = s.length := by omega
    have hall : allT vs im s = true := by simpa using hi.2
    have hv : imgV vs im s = putAll (s.map (vl vs im)) := if_pos hall
    rw [List.take_length]
    refine Run2.of I 1000 ?_
    simp -implicitDefEqProofs [hlt, hall, hv]
    exact .base ⟨rfl, rfl⟩
noncomputable def o_l08Image : List AV → Option (Prop × AV) := tab (fun (x : List Int × List Int × List Int) => match x with | (vs, im, s) => [.snap 1 (vs.map iv), .snap 1 (im.map iv), .snap 1 (s.map iv)]) (fun x => match x with | (vs, im, s) => ((im.length ≤ vs.length ∧ vs.length ≤ 1048576 ∧ s.length ≤ 1048576) ∧ ∀ v ∈ im, 0 ≤ v)) (fun x => match x with | (vs, im, s) => .tup [.snap 1 ((imgV vs im s).map iv), .bool (allT vs im s)])
@[simp] theorem o_l08Image_e (vs : List Int) (im : List Int) (s : List Int) : o_l08Image [.snap 1 (vs.map iv), .snap 1 (im.map iv), .snap 1 (s.map iv)] = some (((im.length ≤ vs.length ∧ vs.length ≤ 1048576 ∧ s.length ≤ 1048576) ∧ ∀ v ∈ im, 0 ≤ v), .tup [.snap 1 ((imgV vs im s).map iv), .bool (allT vs im s)]) := tab_at (enc := fun (x : List Int × List Int × List Int) => match x with | (vs, im, s) => [.snap 1 (vs.map iv), .snap 1 (im.map iv), .snap 1 (s.map iv)]) (fun x y h => by
  obtain ⟨vs1, im1, s1⟩ := x; obtain ⟨vs2, im2, s2⟩ := y; simp at h; simp [h] <;> omega) _ _ (vs, im, s)
theorem o_l08Image_k : Knows Try.prog 134 o_l08Image := tab_knows fun x hx h => by
  obtain ⟨vs, im, s⟩ := x; exact l08Image_s vs im s h hx.1.1 hx.1.2.1 hx.1.2.2 hx.2
noncomputable def orcCm4 : List (Nat × (List AV → Option (Prop × AV))) := (134, o_l08Image) :: (100, o_l05Find) :: []
theorem orcCm4_p : Pure Try.prog (lk orcCm4) := (lk_pure o_l08Image_k (lk_pure o_l05Find_k lk_pure0))
@[simp] theorem orcCm4_l (b : Bool) (g : FuncId) (l : List AV) : lk orcCm4 b g l = if g = 134 then o_l08Image l else if g = 100 then o_l05Find l else none := nr rfl
abbrev k102_o0 : List AJ := [.o ⟨(some 8), none, false, .mv (.c (.bool false)), (some [0, 1, 2, 3])⟩]
abbrev k102_o1 : List AJ := [.o ⟨(some 9), none, false, .mv (.c (.int .i64 0)), (some [0, 1, 2, 3, 9])⟩]
abbrev k102_o2 : List AJ := [.o ⟨(some 12), none, false, .mv (.t 9), none⟩, .o ⟨(some 13), none, false, .mv (.t 0), none⟩, .o ⟨(some 14), none, false, .nilchk (.t 13), none⟩, .o ⟨(some 15), none, false, .fieldA 0 (.t 14), none⟩, .o ⟨(some 16), none, false, .load 1 false (.t 15), none⟩, .o ⟨(some 17), none, false, .len (.t 16), none⟩, .o ⟨(some 18), none, false, .bin .lss (.t 12) (.t 17), (some [0, 1, 2, 3, 9, 18])⟩]
def k102_3 : ACode := .cond (.t 18) .skip (.exit 0)
def k102_4 : ACode := .seq (.region k102_o2) k102_3
abbrev k102_o3 : List AJ := [.o ⟨(some 22), none, false, .mv (.t 2), none⟩, .o ⟨(some 23), none, false, .mv (.t 3), none⟩, .o ⟨(some 24), none, false, .mv (.t 0), none⟩, .o ⟨(some 25), none, false, .nilchk (.t 24), none⟩, .o ⟨(some 26), none, false, .fieldA 0 (.t 25), none⟩, .o ⟨(some 27), none, false, .load 1 false (.t 26), none⟩, .o ⟨(some 28), none, false, .mv (.t 9), none⟩, .o ⟨(some 29), none, false, .idxA 1 (.t 27) (.t 28), none⟩, .o ⟨(some 30), none, false, .load 1 false (.t 29), none⟩, .o ⟨(some 31), none, false, .call 134 [(.t 22), (.t 23), (.t 30)], none⟩, .o ⟨(some 21), none, false, .mv (.t 31), none⟩, .o ⟨(some 32), none, false, .extract (.t 21) 0, none⟩, .o ⟨(some 33), none, false, .extract (.t 21) 1, none⟩, .o ⟨(some 10), none, false, .mv (.t 32), (some [0, 1, 2, 3, 9, 10, 33])⟩, .o ⟨(some 11), none, false, .mv (.t 33), (some [0, 1, 2, 3, 9, 10, 11])⟩]
abbrev k102_o4 : List AJ := [.o ⟨(some 34), none, false, .mv (.t 11), none⟩, .o ⟨(some 35), none, false, .mv (.t 34), none⟩, .o ⟨(some 36), (some (35, true)), false, .mv (.t 1), none⟩, .o ⟨(some 37), (some (35, true)), false, .mv (.t 10), none⟩, .o ⟨(some 38), (some (35, true)), false, .call 100 [(.t 36), (.t 37)], none⟩, .o ⟨(some 39), (some (35, true)), false, .bin .lss (.t 38) (.c (.int .i64 0)), none⟩, .o ⟨(some 40), none, false, .pick (.t 35) (.t 39) (.c (.bool false)), (some [0, 1, 2, 3, 9, 40])⟩]
abbrev k102_o5 : List AJ := [.o ⟨(some 8), none, false, .mv (.c (.bool false)), (some [8])⟩]
def k102_8 : ACode := .seq (.region k102_o5) .ret
def k102_9 : ACode := .cond (.t 40) k102_8 .skip
def k102_10 : ACode := .seq (.region k102_o4) k102_9
def k102_11 : ACode := .seq (.region k102_o3) k102_10
abbrev k102_o6 : List AJ := [.o ⟨(some 19), none, false, .mv (.t 9), none⟩, .o ⟨(some 20), none, true, .bin .add (.t 19) (.c (.int .i64 1)), none⟩, .o ⟨(some 9), none, false, .mv (.t 20), (some [0, 1, 2, 3, 9])⟩]
def k102_13 : ACode := .region k102_o6
def k102_14 : ACode := .seq (.block 1 k102_11) k102_13
def k102_15 : ACode := .seq k102_4 k102_14
def k102_16 : ACode := .loop k102_15
def k102_17 : ACode := .block 0 k102_16
def k102_18 : ACode := .seq (.region k102_o1) k102_17
abbrev k102_o7 : List AJ := [.o ⟨(some 8), none, false, .mv (.c (.bool true)), (some [8])⟩]
def k102_20 : ACode := .seq (.region k102_o7) .ret
def k102_21 : ACode := .seq k102_18 k102_20
def k102_22 : ACode := .seq (.region k102_o0) k102_21
@[simp, simp ↓] theorem k102_3r : rC k102_3 (.t 18) .skip (.exit 0) := zC rfl
@[simp, simp ↓] theorem k102_4r : sR k102_4 k102_o2 k102_3 := yR rfl
@[simp, simp ↓] theorem k102_8r : sR k102_8 k102_o5 .ret := yR rfl
@[simp, simp ↓] theorem k102_9r : rC k102_9 (.t 40) k102_8 .skip := zC rfl
@[simp, simp ↓] theorem k102_10r : sR k102_10 k102_o4 k102_9 := yR rfl
@[simp, simp ↓] theorem k102_11r : sR k102_11 k102_o3 k102_10 := yR rfl
@[simp, simp ↓] theorem k102_13r : rR k102_13 k102_o6 := zR rfl
@[simp, simp ↓] theorem k102_14r : sB k102_14 1 k102_11 k102_13 := yB rfl
@[simp, simp ↓] theorem k102_15r : rS k102_15 k102_4 k102_14 := zS rfl
@[simp, simp ↓] theorem k102_16r : rL k102_16 k102_15 := zL rfl
@[simp, simp ↓] theorem k102_17r : rB k102_17 0 k102_16 := zB rfl
@[simp, simp ↓] theorem k102_18r : sR k102_18 k102_o1 k102_17 := yR rfl
@[simp, simp ↓] theorem k102_20r : sR k102_20 k102_o7 .ret := yR rfl
@[simp, simp ↓] theorem k102_21r : rS k102_21 k102_18 k102_20 := zS rfl
@[simp, simp ↓] theorem k102_22r : sR k102_22 k102_o0 k102_21 := yR rfl
noncomputable abbrev k102_C : Orc → Cx := mkC Try.prog [] 102 41 [.tmp 8]
theorem k102_of0 : OfP0 Try.prog Try.f102 102 41 k102_C k102_22 := @ofP0 _ _ _ _ _ _ _ _ Try.func102 (by decide +kernel) rfl (by kernel_rfl) rfl (by kernel_rfl)
theorem l08Fits_s (ra rb : List (List Int)) (e e' : List AV) (im : List Int) (h : Heap) (ha : ssTot ra ≤ 1048576) (hb : ssTot rb ≤ 1048576) (hil : im.length ≤ (vt ra).length) (hpos : ∀ v ∈ im, 0 ≤ v) :
    ACalls Try.prog 102 [.ip (.snap 1 (ra.map il) :: e), .ip (.snap 1 (rb.map il) :: e'), .snap 1 ((vt ra).map iv), .snap 1 (im.map iv)] h (fun r h' => r = .bool (fitB ra rb im) ∧ h' = h) := by
  have hf := fit_of_tot ha
  have hn := hf.1
  have hvl := vt_len ra
  have hvl2 : (vt ra).length ≤ 1048576 := by omega
  refine k102_of0 rfl orcCm4_p fun I => ?_
  refine Run2.of I 1000 ?_
  simp -implicitDefEqProofs
  refine Run2.loopE (fun (i : Nat) => [(0, .ip (.snap 1 (ra.map il) :: e)), (1, .ip (.snap 1 (rb.map il) :: e')), (2, .snap 1 ((vt ra).map iv)), (3, .snap 1 (im.map iv)), (9, .int .i64 i)]) (fun _ => h) (fun i => ra.length - i) (fun i => i ≤ ra.length ∧ ∀ j (hj : j < ra.length), j < i → (allT (vt ra) im ra[j] && !decide (critL (ra[j].map (vl (vt ra) im)) ∈ rb)) = false) 0 (by simp) rfl ⟨Nat.zero_le _, fun _ _ h => absurd h (Nat.not_lt_zero _)⟩ fun i hi ih => ?_
  by_cases hlt : i < ra.length
  · have hr := hf.2 _ (List.getElem_mem hlt)
    have go := fun (h1 : (allT (vt ra) im ra[i] && !decide (critL (ra[i].map (vl (vt ra) im)) ∈ rb)) = false) => ih (i + 1) ⟨hlt, fun j hj hji => by
      rcases Nat.lt_or_ge j i with h | h
      · exact hi.2 j hj h
      · obtain rfl : j = i := by omega
        exact h1⟩ (by omega)
    clear ih
    have hbad : (allT (vt ra) im ra[i] && !decide (critL (ra[i].map (vl (vt ra) im)) ∈ rb)) = true → fitB ra rb im = false := fun h1 => by
      unfold fitB
      rw [List.all_eq_false]
      exact ⟨ra[i], List.getElem_mem hlt, by rw [h1]; simp⟩
    by_cases hall : allT (vt ra) im ra[i] = true
    · have hv : imgV (vt ra) im ra[i] = critL (ra[i].map (vl (vt ra) im)) := by
        unfold imgV
        rw [if_pos hall, putAll_crit]
      rw [hall] at go hbad
      by_cases hm : critL (ra[i].map (vl (vt ra) im)) ∈ rb
      · have h0 : ¬ ixS rb (critL (ra[i].map (vl (vt ra) im))) < 0 := fun h => ixS_neg.1 h hm
        have go := go (by simp [hm])
        refine Run2.of I 1000 ?_
        simp -implicitDefEqProofs [hlt, hr, hil, hvl2, hb, hall, hv, h0]
        exact ⟨hpos, by omega, by simpa using go⟩
      · have h0 : ixS rb (critL (ra[i].map (vl (vt ra) im))) < 0 := ixS_neg.2 hm
        have hbad := hbad (by simp [hm])
        refine Run2.of I 1000 ?_
        simp -implicitDefEqProofs [hlt, hr, hil, hvl2, hb, hall, hv, h0, hbad]
        exact hpos
    · have hall : allT (vt ra) im ra[i] = false := by simpa using hall
      have go := go (by simp [hall])
      refine Run2.of I 1000 ?_
      simp -implicitDefEqProofs [hlt, hr, hil, hvl2, hb, hall]
      exact ⟨hpos, by omega, by simpa using go⟩
  · have hall : fitB ra rb im = true := by
      unfold fitB
      rw [List.all_eq_true]
      intro s hs
      obtain ⟨j, hj, rfl⟩ := List.mem_iff_getElem.1 hs
      rw [hi.2 j hj (by omega)]; rfl
    refine Run2.of I 1000 ?_
    simp -implicitDefEqProofs [hlt, hall]
end Go.AG
