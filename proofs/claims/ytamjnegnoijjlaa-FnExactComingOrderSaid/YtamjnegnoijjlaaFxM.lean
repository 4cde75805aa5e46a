/- A filtration on a part: the program and the reference. No statement is made here. -/
import Derived.Test.YtamjnegnoijjlaaFxJ
namespace Go.AG
open Go.Proofs Go.Proofs.Ytamjnegnoijjlaa
set_option linter.unusedSimpArgs false
set_option linter.unusedVariables false
set_option maxRecDepth 4000
noncomputable def partOf (qs rs : List (List Int)) : Bool := qs.all fun s => decide (s ∈ rs)
noncomputable def Fil.reCode (x : Fil) (qs : List (List Int)) : Int := if x.valid ∧ cxOk qs then if partOf qs x.rs = true then 0 else 6 else 1
def Fil.reT (x : Fil) (qs : List (List Int)) : Fil := ⟨qs, qs.map fun s => x.ts.getD (ixS x.rs s).toNat 0⟩
noncomputable def Fil.reF (x : Fil) (qs : List (List Int)) : Fil := if x.reCode qs = 0 then x.reT qs else ⟨[], []⟩
theorem partOf_iff {qs rs : List (List Int)} : partOf qs rs = true ↔ ∀ s ∈ qs, s ∈ rs := by simp [partOf]
theorem sumL_le4 {rs : List (List Int)} (h : ∀ r ∈ rs, r.length ≤ 4) : sumL rs ≤ 4 * rs.length := by
  induction rs with
  | nil => simp [sumL]
  | cons a l ih =>
    have h1 := ih fun r hr => h r (List.mem_cons_of_mem _ hr)
    have h2 := h a (List.mem_cons_self ..)
    simp only [sumL, List.map_cons, List.sum_cons, List.length_cons] at h1 ⊢
    omega
theorem cxOk.tot {rs : List (List Int)} (h : cxOk rs) : ssTot rs ≤ 240 := by
  have h1 := sumL_le4 (rs := rs) fun r hr => by
    obtain ⟨i, hi, rfl⟩ := List.mem_iff_getElem.1 hr
    exact (h.1 i hi).1.1.2
  have h2 := h.2
  unfold ssTot; omega
theorem Fil.reF_tot (x : Fil) (qs : List (List Int)) : (x.reF qs).tot ≤ 1048576 := by
  unfold Fil.reF
  split
  · rename_i h
    have hc : cxOk qs := by
      unfold Fil.reCode at h
      split at h
      · rename_i h1; exact h1.2
      · omega
    have := hc.tot
    have := hc.2
    simp [Fil.tot, Fil.reT]; omega
  · simp [Fil.tot, ssTot, sumL]
abbrev k117_o0 : List AJ := [.o ⟨(some 3), none, false, .mv (.c (.bool false)), (some [0, 1])⟩]
abbrev k117_o1 : List AJ := [.o ⟨(some 4), none, false, .load 1 true (.t 1), none⟩, .o ⟨(some 5), none, false, .mv (.t 0), none⟩, .o ⟨(some 6), none, false, .call 76 [(.t 4), (.t 5)], none⟩, .o ⟨(some 7), none, false, .bin .lss (.t 6) (.c (.int .i64 0)), none⟩, .o ⟨(some 3), none, false, .mv (.t 7), (some [3])⟩]
def k117_2 : ACode := .seq (.region k117_o1) .ret
def k117_3 : ACode := .seq (.region k117_o0) k117_2
@[simp, simp ↓] theorem k117_2r : sR k117_2 k117_o1 .ret := yR rfl
@[simp, simp ↓] theorem k117_3r : sR k117_3 k117_o0 k117_2 := yR rfl
noncomputable abbrev k117_C : Orc → Cx := mkC Try.prog [] 117 8 [.tmp 3]
theorem k117_of0 : OfP0 Try.prog Try.f117 117 8 k117_C k117_3 := @ofP0 _ _ _ _ _ _ _ _ Try.func117 (by decide +kernel) rfl (by kernel_rfl) rfl (by kernel_rfl)
theorem isPart1_c (rs : List (List Int)) (s : List Int) (h : Heap) (hl : ssTot rs ≤ 1048576) (hs : sortS rs) : ACalls Try.prog 117 [.snap 1 (s.map iv), .ip [.snap 1 (rs.map il)]] h (fun v h' => v = .bool (!decide (s ∈ rs)) ∧ h' = h) := by
  refine k117_of0 rfl noPure fun I => ?_
  refine Run2.of I 1000 ?_
  simp -implicitDefEqProofs
  refine (indexOf_s rs s h hl hs).mono ?_
  rintro v h' ⟨rfl, rfl⟩
  refine gK.go ?_
  simp -implicitDefEqProofs [ixS_neg]
abbrev k74_o0 : List AJ := [.o ⟨(some 2), none, false, .box false 1 (.t 0), none⟩, .o ⟨(some 3), none, false, .box false 1 (.t 1), none⟩, .o ⟨(some 4), none, false, .mv (.c (.bool false)), (some [2, 3])⟩]
abbrev k74_o1 : List AJ := [.o ⟨(some 5), none, false, .fieldA 0 (.t 2), none⟩, .o ⟨(some 6), none, false, .load 1 false (.t 5), none⟩, .o ⟨(some 7), none, false, .mkfn 117 [(.t 3)], none⟩, .o ⟨(some 8), none, false, .call 102 [(.t 6), (.t 7)], none⟩, .o ⟨(some 9), none, false, .un .not (.t 8), none⟩, .o ⟨(some 4), none, false, .mv (.t 9), (some [4])⟩]
def k74_2 : ACode := .seq (.region k74_o1) .ret
def k74_3 : ACode := .seq (.region k74_o0) k74_2
@[simp, simp ↓] theorem k74_2r : sR k74_2 k74_o1 .ret := yR rfl
@[simp, simp ↓] theorem k74_3r : sR k74_3 k74_o0 k74_2 := yR rfl
noncomputable abbrev k74_C : Orc → Cx := mkC Try.prog [] 74 10 [.tmp 4]
theorem k74_of0 : OfP0 Try.prog Try.f74 74 10 k74_C k74_3 := @ofP0 _ _ _ _ _ _ _ _ Try.func74 (by decide +kernel) rfl (by kernel_rfl) rfl (by kernel_rfl)
theorem isPart_s (qs rs : List (List Int)) (h : Heap) (hl : ssTot rs ≤ 1048576) (hq : ssTot qs ≤ 1048576) (hs : sortS rs) : ACalls Try.prog 74 [.agg [.snap 1 (qs.map il)], .agg [.snap 1 (rs.map il)]] h (fun v h' => v = .bool (partOf qs rs) ∧ h' = h) := by
  refine k74_of0 rfl noPure fun I => ?_
  refine Run2.of I 1000 ?_
  simp -implicitDefEqProofs
  refine (ContainsFuncS_s qs 117 [.ip [.snap 1 (rs.map il)]] (fun s => !decide (s ∈ rs)) h (fit_of_tot hq).1 fun s hs' => isPart1_c rs s h hl hs).mono ?_
  rintro v h' ⟨rfl, rfl⟩
  refine gK.go ?_
  simp -implicitDefEqProofs
  rw [partOf]
  exact (List.not_all_eq_any_not ..).symm
noncomputable def o_isPart : List AV → Option (Prop × AV) := tab (fun (x : LS × LS) => match x with | (qs, rs) => [.agg [.snap 1 (qs.map il)], .agg [.snap 1 (rs.map il)]]) (fun x => match x with | (qs, rs) => (ssTot rs ≤ 1048576 ∧ ssTot qs ≤ 1048576 ∧ sortS rs)) (fun x => match x with | (qs, rs) => .bool (partOf qs rs))
@[simp] theorem o_isPart_e (qs : LS) (rs : LS) : o_isPart [.agg [.snap 1 (qs.map il)], .agg [.snap 1 (rs.map il)]] = some ((ssTot rs ≤ 1048576 ∧ ssTot qs ≤ 1048576 ∧ sortS rs), .bool (partOf qs rs)) := tab_at (enc := fun (x : LS × LS) => match x with | (qs, rs) => [.agg [.snap 1 (qs.map il)], .agg [.snap 1 (rs.map il)]]) (fun x y h => by
  obtain ⟨qs1, rs1⟩ := x; obtain ⟨qs2, rs2⟩ := y; simp at h; simp [h] <;> omega) _ _ (qs, rs)
theorem o_isPart_k : Knows Try.prog 74 o_isPart := tab_knows fun x hx h => by
  obtain ⟨qs, rs⟩ := x; exact isPart_s qs rs h hx.1 hx.2.1 hx.2.2
noncomputable def orcM1 : List (Nat × (List AV → Option (Prop × AV))) := (16, o_validFil) :: (54, o_validCx) :: (74, o_isPart) :: (76, o_indexOf) :: []
theorem orcM1_p : Pure Try.prog (lk orcM1) := (lk_pure o_validFil_k (lk_pure o_validCx_k (lk_pure o_isPart_k (lk_pure o_indexOf_k lk_pure0))))
@[simp] theorem orcM1_l (b : Bool) (g : FuncId) (l : List AV) : lk orcM1 b g l = if g = 16 then o_validFil l else if g = 54 then o_validCx l else if g = 74 then o_isPart l else if g = 76 then o_indexOf l else none := nr rfl
abbrev k35_o0 : List AJ := [.o ⟨(some 2), none, false, .box false 2 (.t 0), none⟩, .o ⟨(some 3), none, false, .box false 1 (.t 1), none⟩, .o ⟨(some 4), none, false, .alloc true 2 (.agg [.nilsl, .nilsl]), none⟩, .o ⟨(some 5), none, false, .mv (.c (.int .i64 0)), (some [2, 3, 4])⟩]
abbrev k35_o1 : List AJ := [.o ⟨(some 9), none, false, .load 2 true (.t 2), none⟩, .o ⟨(some 10), none, false, .call 16 [(.t 9)], none⟩, .o ⟨(some 11), none, false, .un .not (.t 10), none⟩, .o ⟨(some 12), none, false, .mv (.t 11), none⟩, .o ⟨(some 13), (some (12, false)), false, .load 1 true (.t 3), none⟩, .o ⟨(some 14), (some (12, false)), false, .call 54 [(.t 13)], none⟩, .o ⟨(some 15), (some (12, false)), false, .un .not (.t 14), none⟩, .o ⟨(some 16), none, false, .pick (.t 12) (.c (.bool true)) (.t 15), (some [2, 3, 4, 16])⟩]
abbrev k35_o2 : List AJ := [.o ⟨(some 17), none, false, .build [.nilsl, .nilsl] [], none⟩, .o ⟨none, none, false, .store 2 (.t 4) (.t 17), none⟩, .o ⟨(some 5), none, false, .mv (.c (.int .i64 1)), (some [4, 5])⟩]
def k35_3 : ACode := .seq (.region k35_o2) .ret
def k35_4 : ACode := .cond (.t 16) k35_3 .skip
def k35_5 : ACode := .seq (.region k35_o1) k35_4
abbrev k35_o3 : List AJ := [.o ⟨(some 18), none, false, .load 1 true (.t 3), none⟩, .o ⟨(some 19), none, false, .fieldA 0 (.t 2), none⟩, .o ⟨(some 20), none, false, .load 1 true (.t 19), none⟩, .o ⟨(some 21), none, false, .call 74 [(.t 18), (.t 20)], none⟩, .o ⟨(some 22), none, false, .un .not (.t 21), (some [2, 3, 4, 22])⟩]
abbrev k35_o4 : List AJ := [.o ⟨(some 23), none, false, .build [.nilsl, .nilsl] [], none⟩, .o ⟨none, none, false, .store 2 (.t 4) (.t 23), none⟩, .o ⟨(some 5), none, false, .mv (.c (.int .i64 6)), (some [4, 5])⟩]
def k35_8 : ACode := .seq (.region k35_o4) .ret
def k35_9 : ACode := .cond (.t 22) k35_8 .skip
def k35_10 : ACode := .seq (.region k35_o3) k35_9
abbrev k35_o5 : List AJ := [.o ⟨(some 24), none, false, .fieldA 0 (.t 3), none⟩, .o ⟨(some 25), none, false, .load 1 false (.t 24), none⟩, .o ⟨(some 26), none, false, .call 75 [(.t 25)], none⟩, .o ⟨(some 27), none, false, .build [.nilsl, .nilsl] [(0, 1, (.t 26))], none⟩, .o ⟨(some 6), none, false, .alloc true 2 (.agg [.nilsl, .nilsl]), none⟩, .o ⟨none, none, false, .store 2 (.t 6) (.t 27), (some [2, 3, 4, 6])⟩]
abbrev k35_o6 : List AJ := [.o ⟨(some 28), none, false, .fieldA 0 (.t 3), none⟩, .o ⟨(some 29), none, false, .load 1 false (.t 28), none⟩, .o ⟨(some 30), none, false, .len (.t 29), none⟩, .o ⟨(some 31), none, false, .mv (.c (.int .i64 0)), (some [2, 4, 6, 29, 30, 31])⟩]
abbrev k35_o7 : List AJ := [.o ⟨(some 32), none, false, .bin .lss (.t 31) (.t 30), (some [2, 4, 6, 29, 30, 31, 32])⟩]
abbrev k35_o8 : List AJ := [.o ⟨(some 33), none, false, .idxA 1 (.t 29) (.t 31), none⟩, .o ⟨(some 34), none, false, .load 1 false (.t 33), none⟩, .o ⟨(some 8), none, false, .mv (.t 34), (some [2, 4, 6, 8, 29, 30, 31])⟩]
abbrev k35_o9 : List AI := [⟨(some 35), none, false, .fieldA 1 (.t 6), none⟩, ⟨(some 36), none, false, .load 1 false (.t 35), none⟩, ⟨(some 37), none, false, .fieldA 1 (.t 2), none⟩, ⟨(some 38), none, false, .load 1 false (.t 37), none⟩, ⟨(some 39), none, false, .fieldA 0 (.t 2), none⟩, ⟨(some 40), none, false, .load 1 true (.t 39), none⟩, ⟨(some 41), none, false, .mv (.t 8), none⟩, ⟨(some 42), none, false, .call 76 [(.t 40), (.t 41)], none⟩, ⟨(some 43), none, false, .idxA 1 (.t 38) (.t 42), none⟩, ⟨(some 44), none, false, .load 1 false (.t 43), none⟩, ⟨(some 45), none, false, .bsl false 1 [(.t 44)], (some [2, 4, 6, 29, 30, 31, 36, 45])⟩]
abbrev k35_o10 : List AJ := [.o ⟨(some 46), none, false, .append 1 8 (.t 36) (.t 45), none⟩, .o ⟨(some 47), none, false, .fieldA 1 (.t 6), none⟩, .o ⟨none, none, false, .store 1 (.t 47) (.t 46), (some [2, 4, 6, 29, 30, 31])⟩]
def k35_16 : ACode := .draw k35_o9 k35_o10 rfl
def k35_17 : ACode := .seq (.region k35_o8) k35_16
abbrev k35_o11 : List AJ := [.o ⟨(some 48), none, true, .bin .add (.t 31) (.c (.int .i64 1)), none⟩, .o ⟨(some 31), none, false, .mv (.t 48), (some [2, 4, 6, 29, 30, 31])⟩]
def k35_19 : ACode := .region k35_o11
def k35_20 : ACode := .seq (.block 1 k35_17) k35_19
def k35_21 : ACode := .seq (.cond (.t 32) .skip (.exit 0)) k35_20
def k35_22 : ACode := .seq (.region k35_o7) k35_21
def k35_23 : ACode := .loop k35_22
def k35_24 : ACode := .block 0 k35_23
def k35_25 : ACode := .seq (.region k35_o6) k35_24
abbrev k35_o12 : List AJ := [.o ⟨(some 49), none, false, .load 2 true (.t 6), none⟩, .o ⟨none, none, false, .store 2 (.t 4) (.t 49), none⟩, .o ⟨(some 5), none, false, .mv (.c (.int .i64 0)), (some [4, 5])⟩]
def k35_27 : ACode := .seq (.region k35_o12) .ret
def k35_28 : ACode := .seq k35_25 k35_27
def k35_29 : ACode := .seq (.region k35_o5) k35_28
def k35_30 : ACode := .seq k35_10 k35_29
def k35_31 : ACode := .seq k35_5 k35_30
def k35_32 : ACode := .seq (.region k35_o0) k35_31
@[simp, simp ↓] theorem k35_3r : sR k35_3 k35_o2 .ret := yR rfl
@[simp, simp ↓] theorem k35_4r : rC k35_4 (.t 16) k35_3 .skip := zC rfl
@[simp, simp ↓] theorem k35_5r : sR k35_5 k35_o1 k35_4 := yR rfl
@[simp, simp ↓] theorem k35_8r : sR k35_8 k35_o4 .ret := yR rfl
@[simp, simp ↓] theorem k35_9r : rC k35_9 (.t 22) k35_8 .skip := zC rfl
@[simp, simp ↓] theorem k35_10r : sR k35_10 k35_o3 k35_9 := yR rfl
@[simp, simp ↓] theorem k35_16r : rD k35_16 k35_o9 k35_o10 := zD rfl
@[simp, simp ↓] theorem k35_17r : sR k35_17 k35_o8 k35_16 := yR rfl
@[simp, simp ↓] theorem k35_19r : rR k35_19 k35_o11 := zR rfl
@[simp, simp ↓] theorem k35_20r : sB k35_20 1 k35_17 k35_19 := yB rfl
@[simp, simp ↓] theorem k35_21r : sC k35_21 (.t 32) .skip (.exit 0) k35_20 := yC rfl
@[simp, simp ↓] theorem k35_22r : sR k35_22 k35_o7 k35_21 := yR rfl
@[simp, simp ↓] theorem k35_23r : rL k35_23 k35_22 := zL rfl
@[simp, simp ↓] theorem k35_24r : rB k35_24 0 k35_23 := zB rfl
@[simp, simp ↓] theorem k35_25r : sR k35_25 k35_o6 k35_24 := yR rfl
@[simp, simp ↓] theorem k35_27r : sR k35_27 k35_o12 .ret := yR rfl
@[simp, simp ↓] theorem k35_28r : rS k35_28 k35_25 k35_27 := zS rfl
@[simp, simp ↓] theorem k35_29r : sR k35_29 k35_o5 k35_28 := yR rfl
@[simp, simp ↓] theorem k35_30r : rS k35_30 k35_10 k35_29 := zS rfl
@[simp, simp ↓] theorem k35_31r : rS k35_31 k35_5 k35_30 := zS rfl
@[simp, simp ↓] theorem k35_32r : sR k35_32 k35_o0 k35_31 := yR rfl
noncomputable abbrev k35_C : Orc → Cx := mkC Try.prog [4, 6] 35 50 [.cell 4 2 true, .tmp 5]
theorem k35_of : OfP Try.prog Try.f35 35 50 k35_C k35_32 := @ofP _ _ _ _ _ _ _ _ Try.func35 (by decide +kernel) rfl (by kernel_rfl) rfl (by kernel_rfl)
theorem implRe_o (x : Fil) (qs : List (List Int)) (hl : x.tot ≤ 1048576) (hq : ssTot qs ≤ 1048576) : ACalls Try.prog 35 [x.av, cx qs] [] (fun v h' => ∃ w, v = .tup [w, .int .i64 (x.reCode qs)] ∧ OwnFil w (x.reF qs) h') := by
  obtain ⟨hl1, hl2⟩ := x.lens hl
  refine ACalls.permR ?_
  refine k35_of rfl orcM1_p fun I => ?_
  by_cases hv : x.valid
  · by_cases hc : cxOk qs
    · by_cases hp : partOf qs x.rs = true
      · have hs := hv.1.sort
        refine Run2.of I 1000 ?_
        simp -implicitDefEqProofs [hl, hl1, hq, hv, hc, hs, hp]
        intro b
        have hcd : x.reCode qs = 0 := by simp only [Fil.reCode, if_pos (And.intro hv hc), if_pos hp]
        have hf : x.reF qs = x.reT qs := by unfold Fil.reF; rw [if_pos hcd]
        have hall := partOf_iff.1 hp
        have hn := (fit_of_tot hq).1
        rw [hcd, hf]
        refine (ACalls.gives [] (by simp) (inOrder_o qs hq hc.2 hc.sort) fun v h' o => o.own).mono ?_
        rintro v h' ⟨g, ⟨u, rfl, o⟩, hd, rfl⟩
        have cu := o.cell
        have su := stor_of cu
        have lu := cells_of cu
        refine gK.go ?_
        simp -implicitDefEqProofs [cu, su, lu]
        intro c hc1 hc2
        refine gK.go ?_
        simp -implicitDefEqProofs [cu, su, lu]
        have hbg : b ∉ dom g := fun hm => hd b hm (by simp [dom])
        have hcg : c ∉ dom g := by simpa [dom] using hc1
        refine Run2.loopE (α := Nat × AV × Heap) (fun p => [(2, .ip [.snap 1 (x.rs.map il), .snap 1 (x.ts.map iv)]), (4, .ptr b 2 0 0), (6, .ptr c 2 0 0), (29, .snap 1 (qs.map il)), (30, .int .i64 qs.length), (31, .int .i64 (p.1 : Nat))]) (fun p => p.2.2 ++ ((c, ⟨2, [.agg [u, p.2.1]]⟩) :: (g ++ [(b, ⟨2, [.agg [.nilsl, .nilsl]]⟩)]))) (fun p => qs.length - p.1) (fun p => p.1 ≤ qs.length ∧ Grow 1 p.2.1 (((qs.take p.1).map fun s => x.ts.getD (ixS x.rs s).toNat 0).map iv) p.2.2 ∧ c ∉ dom p.2.2 ∧ b ∉ dom p.2.2 ∧ ∀ i ∈ dom p.2.2, i ∉ dom g) (0, .nilsl, []) (by simp) (by simp) ⟨Nat.zero_le _, by simpa using Grow.nil, by simp [dom], by simp [dom], by simp [dom]⟩ ?_
        rintro ⟨i, w, hp'⟩ ⟨hi, hg, hcd', hbd', hgd'⟩ ih
        simp only at hi hg hcd' hbd' hgd'
        have cw := hg.cell
        have sw := stor_of cw
        have lw := cells_of cw
        have gC : ∀ z, hget (hp' ++ z) c = hget z c := fun z => hget_app hcd'
        have sC : ∀ z y, hset (hp' ++ z) c y = hp' ++ hset z c y := fun z y => hset_app hcd'
        by_cases hlt : i < qs.length
        · obtain ⟨j, hj, _, hix⟩ := ixS_mem (hall _ (List.getElem_mem hlt))
          have hjt : j < x.ts.length := by have := hv.2.1.1; omega
          have go := fun w' hp'' (g' : Grow 1 w' (((qs.take i).map fun s => x.ts.getD (ixS x.rs s).toNat 0).map iv ++ [.int .i64 x.ts[j]]) hp'') (h1 : c ∉ dom hp'') (h2 : b ∉ dom hp'') (h3 : ∀ i ∈ dom hp'', i ∉ dom g) => ih (i + 1, w', hp'') ⟨hlt, by
            simp only
            rw [List.take_succ_eq_append_getElem hlt, List.map_append, List.map_append]
            simpa [hix, hjt] using g', h1, h2, h3⟩ (by simp; omega)
          clear ih
          refine Run2.of I 1000 ?_
          simp -implicitDefEqProofs [hlt, hl1, hs, hix, hjt, gC, cw, sw, lw]
          refine hg.app_mid (pre := []) (fun _ _ h => by simp [dom] at h) (by simp; omega) (by simp) fun w' hp'' hg' hd' => ?_
          have cw' := hg'.cell
          have sw' := stor_of cw'
          have lw' := cells_of cw'
          have hc' : c ∉ dom hp'' := fun hm => hd' c hm (by simp [dom])
          have hb' : b ∉ dom hp'' := fun hm => hd' b hm (by simp [dom])
          have hg'' : ∀ i ∈ dom hp'', i ∉ dom g := fun i hi hm => hd' i hi (by simp only [List.nil_append, dom_cons, dom_append, List.mem_cons, List.mem_append]; exact .inr (.inl hm))
          have gC' : ∀ z, hget (hp'' ++ z) c = hget z c := fun z => hget_app hc'
          have sC' : ∀ z y, hset (hp'' ++ z) c y = hp'' ++ hset z c y := fun z y => hset_app hc'
          have := go w' hp'' hg' hc' hb' hg''
          simp -implicitDefEqProofs [cw', sw', lw', gC', sC']
          refine ⟨by omega, ?_⟩
          simpa using this
        · obtain rfl : i = qs.length := by omega
          rw [List.take_length] at hg
          refine Run2.of I 1000 ?_
          have gB : ∀ z, hget (hp' ++ z) b = hget z b := fun z => hget_app hbd'
          have sB : ∀ z y, hset (hp' ++ z) b y = hp' ++ hset z b y := fun z y => hset_app hbd'
          have gG : ∀ z, hget (g ++ z) b = hget z b := fun z => hget_app hbg
          have sG : ∀ z y, hset (g ++ z) b y = g ++ hset z b y := fun z y => hset_app hbg
          simp -implicitDefEqProofs [hlt, gC, sC, cw, sw, lw, cu, su, lu, gB, sB, gG, sG, hc2]
          refine .drop c ?_
          rw [hdel_app hcd']
          simp only [hdel, if_true]
          rw [← List.append_assoc]
          refine Post.dropR (fun i hi hm => ?_) (.base fun _ => ⟨g ++ hp', List.perm_append_comm, _, rfl, u, w, g, hp', rfl, o, hg.own, fun i h1 h2 => hgd' i h2 h1, rfl⟩)
          simp only [dom, List.map_cons, List.map_nil, List.mem_singleton] at hi
          subst hi
          rw [dom_append, List.mem_append] at hm
          exact hm.elim hbd' hbg
      · have hp' : partOf qs x.rs = false := by simpa using hp
        have hcd : x.reCode qs = 6 := by simp only [Fil.reCode, if_pos (And.intro hv hc), if_neg hp]
        have hf : x.reF qs = ⟨[], []⟩ := by unfold Fil.reF; rw [if_neg (by omega)]
        have hs := hv.1.sort
        rw [hcd, hf]
        refine Run2.of I 1000 ?_
        simp -implicitDefEqProofs [hl, hl1, hq, hv, hc, hs, hp']
        intro b
        exact .drop b (.base fun _ => ⟨[], by simp [hdel], _, rfl, .nilsl, .nilsl, [], [], rfl, .nil, .nil, by simp [dom], rfl⟩)
    · have hcd : x.reCode qs = 1 := by simp only [Fil.reCode, if_neg (fun h : _ ∧ _ => hc h.2)]
      have hf : x.reF qs = ⟨[], []⟩ := by unfold Fil.reF; rw [if_neg (by omega)]
      rw [hcd, hf]
      refine Run2.of I 1000 ?_
      simp -implicitDefEqProofs [hl, hq, hv, hc]
      intro b
      exact .drop b (.base fun _ => ⟨[], by simp [hdel], _, rfl, .nilsl, .nilsl, [], [], rfl, .nil, .nil, by simp [dom], rfl⟩)
  · have hcd : x.reCode qs = 1 := by simp only [Fil.reCode, if_neg (fun h : _ ∧ _ => hv h.1)]
    have hf : x.reF qs = ⟨[], []⟩ := by unfold Fil.reF; rw [if_neg (by omega)]
    rw [hcd, hf]
    refine Run2.of I 1000 ?_
    simp -implicitDefEqProofs [hl, hq, hv]
    intro b
    exact .drop b (.base fun _ => ⟨[], by simp [hdel], _, rfl, .nilsl, .nilsl, [], [], rfl, .nil, .nil, by simp [dom], rfl⟩)
noncomputable def orcM2 : List (Nat × (List AV → Option (Prop × AV))) := (53, o_l21Ok) :: (71, o_l05Ok) :: (72, o_closure) :: (73, o_l05Find) :: []
theorem orcM2_p : Pure Try.prog (lk orcM2) := (lk_pure o_l21Ok_k (lk_pure o_l05Ok_k (lk_pure o_closure_k (lk_pure o_l05Find_k lk_pure0))))
@[simp] theorem orcM2_l (b : Bool) (g : FuncId) (l : List AV) : lk orcM2 b g l = if g = 53 then o_l21Ok l else if g = 71 then o_l05Ok l else if g = 72 then o_closure l else if g = 73 then o_l05Find l else none := nr rfl
abbrev k33_o0 : List AJ := [.o ⟨(some 2), none, false, .box false 2 (.t 0), none⟩, .o ⟨(some 3), none, false, .box false 1 (.t 1), none⟩, .o ⟨(some 4), none, false, .alloc true 2 (.agg [.nilsl, .nilsl]), none⟩, .o ⟨(some 5), none, false, .mv (.c (.int .i64 0)), (some [2, 3, 4])⟩]
abbrev k33_o1 : List AJ := [.o ⟨(some 9), none, false, .call 53 [(.t 2)], none⟩, .o ⟨(some 10), none, false, .un .not (.t 9), none⟩, .o ⟨(some 11), none, false, .mv (.t 10), none⟩, .o ⟨(some 12), (some (11, false)), false, .call 71 [(.t 3)], none⟩, .o ⟨(some 13), (some (11, false)), false, .un .not (.t 12), none⟩, .o ⟨(some 14), none, false, .pick (.t 11) (.c (.bool true)) (.t 13), (some [2, 3, 4, 14])⟩]
abbrev k33_o2 : List AJ := [.o ⟨(some 15), none, false, .build [.nilsl, .nilsl] [], none⟩, .o ⟨none, none, false, .store 2 (.t 4) (.t 15), none⟩, .o ⟨(some 5), none, false, .mv (.c (.int .i64 1)), (some [4, 5])⟩]
def k33_3 : ACode := .seq (.region k33_o2) .ret
def k33_4 : ACode := .cond (.t 14) k33_3 .skip
def k33_5 : ACode := .seq (.region k33_o1) k33_4
abbrev k33_o3 : List AJ := [.o ⟨(some 16), none, false, .fieldA 0 (.t 3), none⟩, .o ⟨(some 17), none, false, .load 1 false (.t 16), none⟩, .o ⟨(some 18), none, false, .call 72 [(.t 17)], none⟩, .o ⟨(some 19), none, false, .build [.nilsl, .nilsl] [(0, 1, (.t 18))], none⟩, .o ⟨(some 6), none, false, .alloc true 2 (.agg [.nilsl, .nilsl]), none⟩, .o ⟨none, none, false, .store 2 (.t 6) (.t 19), (some [2, 3, 4, 6])⟩]
abbrev k33_o4 : List AJ := [.o ⟨(some 7), none, false, .mv (.c (.int .i64 0)), (some [2, 3, 4, 6, 7])⟩]
abbrev k33_o5 : List AJ := [.o ⟨(some 20), none, false, .mv (.t 7), none⟩, .o ⟨(some 21), none, false, .fieldA 0 (.t 3), none⟩, .o ⟨(some 22), none, false, .load 1 false (.t 21), none⟩, .o ⟨(some 23), none, false, .len (.t 22), none⟩, .o ⟨(some 24), none, false, .bin .lss (.t 20) (.t 23), (some [2, 3, 4, 6, 7, 24])⟩]
def k33_9 : ACode := .cond (.t 24) .skip (.exit 0)
def k33_10 : ACode := .seq (.region k33_o5) k33_9
abbrev k33_o6 : List AJ := [.o ⟨(some 27), none, false, .fieldA 0 (.t 2), none⟩, .o ⟨(some 28), none, false, .fieldA 0 (.t 3), none⟩, .o ⟨(some 29), none, false, .load 1 false (.t 28), none⟩, .o ⟨(some 30), none, false, .mv (.t 7), none⟩, .o ⟨(some 31), none, false, .idxA 1 (.t 29) (.t 30), none⟩, .o ⟨(some 32), none, false, .load 1 false (.t 31), none⟩, .o ⟨(some 33), none, false, .call 73 [(.t 27), (.t 32)], none⟩, .o ⟨(some 8), none, false, .mv (.t 33), (some [2, 3, 4, 6, 7, 8])⟩]
abbrev k33_o7 : List AJ := [.o ⟨(some 34), none, false, .mv (.t 8), none⟩, .o ⟨(some 35), none, false, .bin .lss (.t 34) (.c (.int .i64 0)), (some [2, 3, 4, 6, 7, 8, 35])⟩]
abbrev k33_o8 : List AJ := [.o ⟨(some 36), none, false, .build [.nilsl, .nilsl] [], none⟩, .o ⟨none, none, false, .store 2 (.t 4) (.t 36), none⟩, .o ⟨(some 5), none, false, .mv (.c (.int .i64 6)), (some [4, 5])⟩]
def k33_14 : ACode := .seq (.region k33_o8) .ret
def k33_15 : ACode := .cond (.t 35) k33_14 .skip
def k33_16 : ACode := .seq (.region k33_o7) k33_15
abbrev k33_o9 : List AI := [⟨(some 37), none, false, .fieldA 1 (.t 6), none⟩, ⟨(some 38), none, false, .load 1 false (.t 37), none⟩, ⟨(some 39), none, false, .fieldA 1 (.t 2), none⟩, ⟨(some 40), none, false, .load 1 false (.t 39), none⟩, ⟨(some 41), none, false, .mv (.t 8), none⟩, ⟨(some 42), none, false, .idxA 1 (.t 40) (.t 41), none⟩, ⟨(some 43), none, false, .load 1 false (.t 42), none⟩, ⟨(some 44), none, false, .bsl false 1 [(.t 43)], (some [2, 3, 4, 6, 7, 38, 44])⟩]
abbrev k33_o10 : List AJ := [.o ⟨(some 45), none, false, .append 1 8 (.t 38) (.t 44), none⟩, .o ⟨(some 46), none, false, .fieldA 1 (.t 6), none⟩, .o ⟨none, none, false, .store 1 (.t 46) (.t 45), (some [2, 3, 4, 6, 7])⟩]
def k33_17 : ACode := .draw k33_o9 k33_o10 rfl
def k33_18 : ACode := .seq k33_16 k33_17
def k33_19 : ACode := .seq (.region k33_o6) k33_18
abbrev k33_o11 : List AJ := [.o ⟨(some 25), none, false, .mv (.t 7), none⟩, .o ⟨(some 26), none, true, .bin .add (.t 25) (.c (.int .i64 1)), none⟩, .o ⟨(some 7), none, false, .mv (.t 26), (some [2, 3, 4, 6, 7])⟩]
def k33_21 : ACode := .region k33_o11
def k33_22 : ACode := .seq (.block 1 k33_19) k33_21
def k33_23 : ACode := .seq k33_10 k33_22
def k33_24 : ACode := .loop k33_23
def k33_25 : ACode := .block 0 k33_24
def k33_26 : ACode := .seq (.region k33_o4) k33_25
abbrev k33_o12 : List AJ := [.o ⟨(some 47), none, false, .load 2 true (.t 6), none⟩, .o ⟨none, none, false, .store 2 (.t 4) (.t 47), none⟩, .o ⟨(some 5), none, false, .mv (.c (.int .i64 0)), (some [4, 5])⟩]
def k33_28 : ACode := .seq (.region k33_o12) .ret
def k33_29 : ACode := .seq k33_26 k33_28
def k33_30 : ACode := .seq (.region k33_o3) k33_29
def k33_31 : ACode := .seq k33_5 k33_30
def k33_32 : ACode := .seq (.region k33_o0) k33_31
@[simp, simp ↓] theorem k33_3r : sR k33_3 k33_o2 .ret := yR rfl
@[simp, simp ↓] theorem k33_4r : rC k33_4 (.t 14) k33_3 .skip := zC rfl
@[simp, simp ↓] theorem k33_5r : sR k33_5 k33_o1 k33_4 := yR rfl
@[simp, simp ↓] theorem k33_9r : rC k33_9 (.t 24) .skip (.exit 0) := zC rfl
@[simp, simp ↓] theorem k33_10r : sR k33_10 k33_o5 k33_9 := yR rfl
@[simp, simp ↓] theorem k33_14r : sR k33_14 k33_o8 .ret := yR rfl
@[simp, simp ↓] theorem k33_15r : rC k33_15 (.t 35) k33_14 .skip := zC rfl
@[simp, simp ↓] theorem k33_16r : sR k33_16 k33_o7 k33_15 := yR rfl
@[simp, simp ↓] theorem k33_17r : rD k33_17 k33_o9 k33_o10 := zD rfl
@[simp, simp ↓] theorem k33_18r : rS k33_18 k33_16 k33_17 := zS rfl
@[simp, simp ↓] theorem k33_19r : sR k33_19 k33_o6 k33_18 := yR rfl
@[simp, simp ↓] theorem k33_21r : rR k33_21 k33_o11 := zR rfl
@[simp, simp ↓] theorem k33_22r : sB k33_22 1 k33_19 k33_21 := yB rfl
@[simp, simp ↓] theorem k33_23r : rS k33_23 k33_10 k33_22 := zS rfl
@[simp, simp ↓] theorem k33_24r : rL k33_24 k33_23 := zL rfl
@[simp, simp ↓] theorem k33_25r : rB k33_25 0 k33_24 := zB rfl
@[simp, simp ↓] theorem k33_26r : sR k33_26 k33_o4 k33_25 := yR rfl
@[simp, simp ↓] theorem k33_28r : sR k33_28 k33_o12 .ret := yR rfl
@[simp, simp ↓] theorem k33_29r : rS k33_29 k33_26 k33_28 := zS rfl
@[simp, simp ↓] theorem k33_30r : sR k33_30 k33_o3 k33_29 := yR rfl
@[simp, simp ↓] theorem k33_31r : rS k33_31 k33_5 k33_30 := zS rfl
@[simp, simp ↓] theorem k33_32r : sR k33_32 k33_o0 k33_31 := yR rfl
noncomputable abbrev k33_C : Orc → Cx := mkC Try.prog [4, 6] 33 48 [.cell 4 2 true, .tmp 5]
theorem k33_of : OfP Try.prog Try.f33 33 48 k33_C k33_32 := @ofP _ _ _ _ _ _ _ _ Try.func33 (by decide +kernel) rfl (by kernel_rfl) rfl (by kernel_rfl)
theorem specRe_c (x : Fil) (qs : List (List Int)) (h : Heap) (hl : x.tot ≤ 1048576) (hq : ssTot qs ≤ 1048576) : ACalls Try.prog 33 [x.av, cx qs] h (fun v h' => v = .tup [(x.reF qs).av, .int .i64 (x.reCode qs)] ∧ h' = h) := by
  obtain ⟨hl1, hl2⟩ := x.lens hl
  refine k33_of rfl orcM2_p fun I => ?_
  by_cases hv : x.valid
  · by_cases hc : cxOk qs
    · have hn := (fit_of_tot hq).1
      refine Run2.of I 1000 ?_
      simp -implicitDefEqProofs [hl, hl1, hq, hv, hc]
      intro b hb0 c hc1 hc2
      refine gK.go ?_
      simp -implicitDefEqProofs [hc1]
      have bad : ∀ (g : Heap) (z y : Blk), (∃ s ∈ qs, s ∉ x.rs) → b ∉ dom g → c ∉ dom g → Post (fun v h' => v = .tup [.agg [.snap 1 ((x.reF qs).rs.map il), .snap 1 ((x.reF qs).ts.map iv)], .int .i64 (x.reCode qs)] ∧ h' = h) (.tup [.agg [.nilsl, .nilsl], .int .i64 6]) (g ++ ((c, y) :: (b, z) :: h)) := by
        rintro g z y ⟨s, hs, hno⟩ hb2 hc3
        have hp : ¬ partOf qs x.rs = true := fun h => hno (partOf_iff.1 h s hs)
        have hcd : x.reCode qs = 6 := by simp only [Fil.reCode, if_pos (And.intro hv hc), if_neg hp]
        have hf : x.reF qs = ⟨[], []⟩ := by unfold Fil.reF; rw [if_neg (by omega)]
        rw [hcd, hf]
        refine Post.lend ?_
        rw [lend1_cold g (x := .tup [.agg [.nilsl, .nilsl], .int .i64 6]) rfl]
        exact .drop c (.drop b (.wk (Wk.tup (.cons (Wk.agg (.cons (Wk.nil 1) (.cons (Wk.nil 1) .nil))) (.cons (.refl _) .nil))) (.base ⟨rfl, by simp [hdel, hc1]⟩)))
      refine Run2.loopE (α := Nat × AV × Heap) (fun p => [(2, .ip [.snap 1 (x.rs.map il), .snap 1 (x.ts.map iv)]), (3, .ip [.snap 1 (qs.map il)]), (4, .ptr b 2 0 0), (6, .ptr c 2 0 0), (7, .int .i64 (p.1 : Nat))]) (fun p => p.2.2 ++ ((c, ⟨2, [.agg [.snap 1 (qs.map il), p.2.1]]⟩) :: (b, ⟨2, [.agg [.nilsl, .nilsl]]⟩) :: h)) (fun p => qs.length - p.1) (fun p => p.1 ≤ qs.length ∧ Grow 1 p.2.1 (((qs.take p.1).map fun s => x.ts.getD (ixS x.rs s).toNat 0).map iv) p.2.2 ∧ c ∉ dom p.2.2 ∧ b ∉ dom p.2.2 ∧ ∀ s ∈ qs.take p.1, s ∈ x.rs) (0, .nilsl, []) (by simp) (by simp) ⟨Nat.zero_le _, by simpa using Grow.nil, by simp [dom], by simp [dom], by simp⟩ ?_
      rintro ⟨i, w, hp'⟩ ⟨hi, hg, hcd', hbd', hall⟩ ih
      simp only at hi hg hcd' hbd' hall
      have cw := hg.cell
      have sw := stor_of cw
      have lw := cells_of cw
      have gC : ∀ z, hget (hp' ++ z) c = hget z c := fun z => hget_app hcd'
      have sC : ∀ z y, hset (hp' ++ z) c y = hp' ++ hset z c y := fun z y => hset_app hcd'
      by_cases hlt : i < qs.length
      · by_cases hm : qs[i] ∈ x.rs
        · obtain ⟨j, hj, _, hix⟩ := ixS_mem hm
          have hjt : j < x.ts.length := by have := hv.2.1.1; omega
          have go := fun w' hp'' (g' : Grow 1 w' (((qs.take i).map fun s => x.ts.getD (ixS x.rs s).toNat 0).map iv ++ [.int .i64 x.ts[j]]) hp'') (h1 : c ∉ dom hp'') (h2 : b ∉ dom hp'') => ih (i + 1, w', hp'') ⟨hlt, by
            simp only
            rw [List.take_succ_eq_append_getElem hlt, List.map_append, List.map_append]
            simpa [hix, hjt] using g', h1, h2, fun s hs => by
            simp only at hs
            rw [List.take_succ_eq_append_getElem hlt, List.mem_append, List.mem_singleton] at hs
            rcases hs with hs | rfl
            · exact hall s hs
            · exact hm⟩ (by simp; omega)
          clear ih
          refine Run2.of I 1000 ?_
          have hj0 : ¬ (j : Int) < 0 := by omega
          simp -implicitDefEqProofs [hlt, hl1, hix, hjt, gC, cw, sw, lw, hj0]
          refine hg.app_mid (pre := []) (fun _ _ h => by simp [dom] at h) (by simp; omega) (by simp) fun w' hp'' hg' hd' => ?_
          have cw' := hg'.cell
          have sw' := stor_of cw'
          have lw' := cells_of cw'
          have hc' : c ∉ dom hp'' := fun hm => hd' c hm (by simp [dom])
          have hb' : b ∉ dom hp'' := fun hm => hd' b hm (by simp [dom])
          have gC' : ∀ z, hget (hp'' ++ z) c = hget z c := fun z => hget_app hc'
          have sC' : ∀ z y, hset (hp'' ++ z) c y = hp'' ++ hset z c y := fun z y => hset_app hc'
          have := go w' hp'' hg' hc' hb'
          simp -implicitDefEqProofs [cw', sw', lw', gC', sC']
          refine ⟨by omega, ?_⟩
          simpa using this
        · have hix := ixS_none hm
          have := fun y z => bad hp' z y ⟨_, List.getElem_mem hlt, hm⟩ hbd' hcd'
          have gB : ∀ z, hget (hp' ++ z) b = hget z b := fun z => hget_app hbd'
          have sB : ∀ z y, hset (hp' ++ z) b y = hp' ++ hset z b y := fun z y => hset_app hbd'
          refine Run2.of I 1000 ?_
          simp -implicitDefEqProofs [hlt, hl1, hix, gB, sB, hc1]
          exact this _ _
      · obtain rfl : i = qs.length := by omega
        rw [List.take_length] at hg hall
        have hcd : x.reCode qs = 0 := by simp only [Fil.reCode, if_pos (And.intro hv hc), if_pos (partOf_iff.2 hall)]
        have hf : x.reF qs = x.reT qs := by unfold Fil.reF; rw [if_pos hcd]
        rw [hcd, hf]
        have gB : ∀ z, hget (hp' ++ z) b = hget z b := fun z => hget_app hbd'
        have sB : ∀ z y, hset (hp' ++ z) b y = hp' ++ hset z b y := fun z y => hset_app hbd'
        refine Run2.of I 1000 ?_
        simp -implicitDefEqProofs [hlt, gC, sC, cw, sw, lw, gB, sB, hc1]
        refine Post.lend ?_
        rw [lend1_tup2, lend1_cold hp' (x := .int .i64 0) rfl, lend1_agg, lend1_cold hp' (x := .snap 1 (qs.map il)) (by simp [cold])]
        refine .drop c (.drop b (.wk (Wk.tup (.cons (Wk.agg (.cons (.refl _) (.cons hg.lentWk .nil))) (.cons (.refl _) .nil))) (.base ⟨?_, by simp [hdel, hc1]⟩)))
        simp [Fil.reT]
    · have hcd : x.reCode qs = 1 := by simp only [Fil.reCode, if_neg (fun h : _ ∧ _ => hc h.2)]
      have hf : x.reF qs = ⟨[], []⟩ := by unfold Fil.reF; rw [if_neg (by omega)]
      rw [hcd, hf]
      refine Run2.of I 1000 ?_
      simp -implicitDefEqProofs [hl, hq, hv, hc]
      intro b hb
      exact .drop b (.wk (Wk.tup (.cons (Wk.agg (.cons (Wk.nil 1) (.cons (Wk.nil 1) .nil))) (.cons (.refl _) .nil))) (.base ⟨rfl, by simp [hdel]⟩))
  · have hcd : x.reCode qs = 1 := by simp only [Fil.reCode, if_neg (fun h : _ ∧ _ => hv h.1)]
    have hf : x.reF qs = ⟨[], []⟩ := by unfold Fil.reF; rw [if_neg (by omega)]
    rw [hcd, hf]
    refine Run2.of I 1000 ?_
    simp -implicitDefEqProofs [hl, hq, hv]
    intro b hb
    exact .drop b (.wk (Wk.tup (.cons (Wk.agg (.cons (Wk.nil 1) (.cons (Wk.nil 1) .nil))) (.cons (.refl _) .nil))) (.base ⟨rfl, by simp [hdel]⟩))
end Go.AG
