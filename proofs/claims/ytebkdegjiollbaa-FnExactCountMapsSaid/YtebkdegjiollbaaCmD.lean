/- The number of maps of complexes: the program and the reference. No statement is made here. -/
import Derived.Test.YtebkdegjiollbaaCmC
namespace Go.AG
open Go.Proofs Go.Proofs.Ytebkdegjiollbaa
set_option linter.unusedSimpArgs false
set_option linter.unusedVariables false
set_option maxRecDepth 4000
def cmS (ra rb : List (List Int)) (k : Int) : Int × Int × Bool := srch (fitB ra rb) (vt rb) k (vt ra).length [] (0, 0, false)
noncomputable def cmC (ra rb : List (List Int)) (k : Int) : Int := if cxOk ra ∧ cxOk rb then if 1 ≤ k ∧ k ≤ 20000 then if (cmS ra rb k).2.2 = true then 5 else 0 else 2 else 1
noncomputable def cmN (ra rb : List (List Int)) (k : Int) : Int := if cmC ra rb k = 0 then (cmS ra rb k).1 else 0
theorem vt_mem {rs : List (List Int)} (h : cxOk rs) {v : Int} (hv : v ∈ vt rs) : 0 ≤ v ∧ v ≤ 9 := by
  unfold vt at hv
  obtain ⟨s, hs, rfl⟩ := List.mem_map.1 hv
  obtain ⟨hs1, hs2⟩ := List.mem_filter.1 hs
  have hl : s.length = 1 := by simpa using hs2
  have := (h.mem hs1).1.2.2 (s.getD 0 0) (by
    rw [show s.getD 0 0 = s[0]'(by omega) by simp [hl]]
    exact List.getElem_mem _)
  exact this
noncomputable def orcCm5 : List (Nat × (List AV → Option (Prop × AV))) := (91, o_within) :: []
theorem orcCm5_p : Pure Try.prog (lk orcCm5) := (lk_pure o_within_k lk_pure0)
@[simp] theorem orcCm5_l (b : Bool) (g : FuncId) (l : List AV) : lk orcCm5 b g l = if g = 91 then o_within l else none := nr rfl
abbrev k50_o0 : List AJ := [.o ⟨(some 2), none, false, .mv (.c (.bool false)), (some [0])⟩]
abbrev k50_o1 : List AJ := [.o ⟨(some 3), none, false, .mv (.t 0), none⟩, .o ⟨(some 4), none, false, .call 91 [(.t 3), (.c (.int .i64 1)), (.c (.int .i64 20000))], none⟩, .o ⟨(some 2), none, false, .mv (.t 4), (some [2])⟩]
def k50_2 : ACode := .seq (.region k50_o1) .ret
def k50_3 : ACode := .seq (.region k50_o0) k50_2
@[simp, simp ↓] theorem k50_2r : sR k50_2 k50_o1 .ret := yR rfl
@[simp, simp ↓] theorem k50_3r : sR k50_3 k50_o0 k50_2 := yR rfl
noncomputable abbrev k50_C : Orc → Cx := mkC Try.prog [] 50 5 [.tmp 2]
theorem k50_of0 : OfP0 Try.prog Try.f50 50 5 k50_C k50_3 := @ofP0 _ _ _ _ _ _ _ _ Try.func50 (by decide +kernel) rfl (by kernel_rfl) rfl (by kernel_rfl)
theorem isBudget_s (a : Int) (h : Heap) : ACalls Try.prog 50 [.int .i64 a] h (fun v h' => v = .bool (decide (1 ≤ a) && decide (a ≤ 20000)) ∧ h' = h) := by
  refine k50_of0 rfl orcCm5_p fun I => ?_
  refine Run2.of I 1000 ?_
  simp -implicitDefEqProofs
noncomputable def o_isBudget : List AV → Option (Prop × AV) := tab (fun (x : Int) => match x with | a => [.int .i64 a]) (fun x => match x with | a => True) (fun x => match x with | a => .bool (decide (1 ≤ a) && decide (a ≤ 20000)))
@[simp] theorem o_isBudget_e (a : Int) : o_isBudget [.int .i64 a] = some (True, .bool (decide (1 ≤ a) && decide (a ≤ 20000))) := tab_at (enc := fun (x : Int) => match x with | a => [.int .i64 a]) (fun x y h => by
  simp at h; simp [h] <;> omega) _ _ a
theorem o_isBudget_k : Knows Try.prog 50 o_isBudget := tab_knows fun x hx h => by
  exact isBudget_s _ h
noncomputable def orcCm6 : List (Nat × (List AV → Option (Prop × AV))) := (57, o_validCx) :: (50, o_isBudget) :: []
theorem orcCm6_p : Pure Try.prog (lk orcCm6) := (lk_pure o_validCx_k (lk_pure o_isBudget_k lk_pure0))
@[simp] theorem orcCm6_l (b : Bool) (g : FuncId) (l : List AV) : lk orcCm6 b g l = if g = 57 then o_validCx l else if g = 50 then o_isBudget l else none := nr rfl
abbrev k20_o0 : List AJ := [.o ⟨(some 3), none, false, .box false 1 (.t 0), none⟩, .o ⟨(some 4), none, false, .box false 1 (.t 1), none⟩, .o ⟨(some 6), none, false, .mv (.c (.int .i64 0)), none⟩, .o ⟨(some 7), none, false, .mv (.c (.int .i64 0)), (some [2, 3, 4])⟩]
abbrev k20_o1 : List AJ := [.o ⟨(some 9), none, false, .load 1 true (.t 3), none⟩, .o ⟨(some 10), none, false, .call 57 [(.t 9)], none⟩, .o ⟨(some 11), none, false, .un .not (.t 10), none⟩, .o ⟨(some 12), none, false, .mv (.t 11), none⟩, .o ⟨(some 13), (some (12, false)), false, .load 1 true (.t 4), none⟩, .o ⟨(some 14), (some (12, false)), false, .call 57 [(.t 13)], none⟩, .o ⟨(some 15), (some (12, false)), false, .un .not (.t 14), none⟩, .o ⟨(some 16), none, false, .pick (.t 12) (.c (.bool true)) (.t 15), (some [2, 3, 4, 16])⟩]
abbrev k20_o2 : List AJ := [.o ⟨(some 6), none, false, .mv (.c (.int .i64 0)), none⟩, .o ⟨(some 7), none, false, .mv (.c (.int .i64 1)), (some [6, 7])⟩]
def k20_3 : ACode := .seq (.region k20_o2) .ret
def k20_4 : ACode := .cond (.t 16) k20_3 .skip
def k20_5 : ACode := .seq (.region k20_o1) k20_4
abbrev k20_o3 : List AJ := [.o ⟨(some 17), none, false, .mv (.t 2), none⟩, .o ⟨(some 18), none, false, .call 50 [(.t 17)], none⟩, .o ⟨(some 19), none, false, .un .not (.t 18), (some [2, 3, 4, 19])⟩]
abbrev k20_o4 : List AJ := [.o ⟨(some 6), none, false, .mv (.c (.int .i64 0)), none⟩, .o ⟨(some 7), none, false, .mv (.c (.int .i64 2)), (some [6, 7])⟩]
def k20_8 : ACode := .seq (.region k20_o4) .ret
def k20_9 : ACode := .cond (.t 19) k20_8 .skip
def k20_10 : ACode := .seq (.region k20_o3) k20_9
abbrev k20_o5 : List AJ := [.o ⟨(some 20), none, false, .mv (.t 2), none⟩, .o ⟨(some 21), none, false, .build [(.int .i64 0), (.bool false)] [(0, 1, (.t 20))], none⟩, .o ⟨(some 22), none, false, .load 1 true (.t 3), none⟩, .o ⟨(some 23), none, false, .load 1 true (.t 4), none⟩, .o ⟨(some 24), none, false, .build [(.int .i64 0), (.bool false), .nilsl, .nilsl, (.int .i64 0), .nilsl] [(0, 2, (.t 21)), (2, 1, (.t 22)), (3, 1, (.t 23))], none⟩, .o ⟨(some 25), none, false, .box true 6 (.t 24), none⟩, .o ⟨(some 8), none, false, .mv (.t 25), (some [8])⟩]
abbrev k20_o6 : List AJ := [.o ⟨(some 26), none, false, .mv (.t 8), none⟩, .o ⟨(some 27), none, false, .call 58 [(.t 26)], (some [8])⟩]
abbrev k20_o7 : List AJ := [.o ⟨(some 28), none, false, .mv (.t 8), none⟩, .o ⟨(some 29), none, false, .nilchk (.t 28), none⟩, .o ⟨(some 30), none, false, .fieldA 0 (.t 29), none⟩, .o ⟨(some 31), none, false, .fieldA 1 (.t 30), none⟩, .o ⟨(some 32), none, false, .load 1 false (.t 31), (some [8, 32])⟩]
abbrev k20_o8 : List AJ := [.o ⟨(some 6), none, false, .mv (.c (.int .i64 0)), none⟩, .o ⟨(some 7), none, false, .mv (.c (.int .i64 5)), (some [6, 7])⟩]
def k20_15 : ACode := .seq (.region k20_o8) .ret
def k20_16 : ACode := .cond (.t 32) k20_15 .skip
def k20_17 : ACode := .seq (.region k20_o7) k20_16
abbrev k20_o9 : List AJ := [.o ⟨(some 33), none, false, .mv (.t 8), none⟩, .o ⟨(some 34), none, false, .nilchk (.t 33), none⟩, .o ⟨(some 35), none, false, .fieldA 4 (.t 34), none⟩, .o ⟨(some 36), none, false, .load 1 false (.t 35), none⟩, .o ⟨(some 6), none, false, .mv (.t 36), none⟩, .o ⟨(some 7), none, false, .mv (.c (.int .i64 0)), (some [6, 7])⟩]
def k20_19 : ACode := .seq (.region k20_o9) .ret
def k20_20 : ACode := .seq k20_17 k20_19
def k20_21 : ACode := .seq (.region k20_o6) k20_20
def k20_22 : ACode := .seq (.region k20_o5) k20_21
def k20_23 : ACode := .seq k20_10 k20_22
def k20_24 : ACode := .seq k20_5 k20_23
def k20_25 : ACode := .seq (.region k20_o0) k20_24
@[simp, simp ↓] theorem k20_3r : sR k20_3 k20_o2 .ret := yR rfl
@[simp, simp ↓] theorem k20_4r : rC k20_4 (.t 16) k20_3 .skip := zC rfl
@[simp, simp ↓] theorem k20_5r : sR k20_5 k20_o1 k20_4 := yR rfl
@[simp, simp ↓] theorem k20_8r : sR k20_8 k20_o4 .ret := yR rfl
@[simp, simp ↓] theorem k20_9r : rC k20_9 (.t 19) k20_8 .skip := zC rfl
@[simp, simp ↓] theorem k20_10r : sR k20_10 k20_o3 k20_9 := yR rfl
@[simp, simp ↓] theorem k20_15r : sR k20_15 k20_o8 .ret := yR rfl
@[simp, simp ↓] theorem k20_16r : rC k20_16 (.t 32) k20_15 .skip := zC rfl
@[simp, simp ↓] theorem k20_17r : sR k20_17 k20_o7 k20_16 := yR rfl
@[simp, simp ↓] theorem k20_19r : sR k20_19 k20_o9 .ret := yR rfl
@[simp, simp ↓] theorem k20_20r : rS k20_20 k20_17 k20_19 := zS rfl
@[simp, simp ↓] theorem k20_21r : sR k20_21 k20_o6 k20_20 := yR rfl
@[simp, simp ↓] theorem k20_22r : sR k20_22 k20_o5 k20_21 := yR rfl
@[simp, simp ↓] theorem k20_23r : rS k20_23 k20_10 k20_22 := zS rfl
@[simp, simp ↓] theorem k20_24r : rS k20_24 k20_5 k20_23 := zS rfl
@[simp, simp ↓] theorem k20_25r : sR k20_25 k20_o0 k20_24 := yR rfl
noncomputable abbrev k20_C : Orc → Cx := mkC Try.prog [25] 20 37 [.tmp 6, .tmp 7]
theorem k20_of : OfP Try.prog Try.f20 20 37 k20_C k20_25 := @ofP _ _ _ _ _ _ _ _ Try.func20 (by decide +kernel) rfl (by kernel_rfl) rfl (by kernel_rfl)
theorem implCM_s (ra rb : List (List Int)) (k : Int) (h : Heap) (ha : ssTot ra ≤ 1048576) (hb : ssTot rb ≤ 1048576) : ACalls Try.prog 20 [.agg [.snap 1 (ra.map il)], .agg [.snap 1 (rb.map il)], .int .i64 k] h (fun v h' => v = .tup [.int .i64 (cmN ra rb k), .int .i64 (cmC ra rb k)] ∧ h' = h) := by
  refine k20_of rfl orcCm6_p fun I => ?_
  by_cases h1 : cxOk ra
  · by_cases h2 : cxOk rb
    · by_cases h3 : 1 ≤ k ∧ k ≤ 20000
      · refine Run2.of I 1000 ?_
        simp -implicitDefEqProofs [ha, hb, h1, h2, h3.1, h3.2]
        intro id hid
        have h48 := h1.2
        have hvl := vt_len ra
        have hcall := search_w ra rb ha hb h2.sort (by omega) k h3 id h (vt ra).length [] 0 0 .nilsl [] (by simp) (by omega) (by omega) (by omega) .nil (by simp [dom])
        have hc : cmC ra rb k = if (cmS ra rb k).2.2 = true then 5 else 0 := by unfold cmC; rw [if_pos ⟨h1, h2⟩, if_pos h3]
        have hN : cmN ra rb k = if (cmS ra rb k).2.2 = true then 0 else (cmS ra rb k).1 := by
          unfold cmN; rw [hc]
          cases (cmS ra rb k).2.2 <;> simp
        rw [hc, hN]
        unfold cmS
        generalize srch (fitB ra rb) (vt rb) k (vt ra).length [] (0, 0, false) = F at *
        unfold mpB at hcall
        rw [Int.sub_zero] at hcall
        refine hcall.mono ?_
        rintro v h' ⟨u', gu', im', rfl, hg', hid', rfl, _⟩
        obtain ⟨c', k', f'⟩ := F
        have hH : ∀ b : Blk, gu' ++ (id, b) :: h = (gu' ++ [(id, b)]) ++ h := fun b => by simp
        unfold mpB
        cases f' with
        | true =>
          refine gK.go ?_
          simp -implicitDefEqProofs [hget_app hid']
          rw [hH]
          exact Post.dropAll (by simp [cold, colds]) (.base ⟨rfl, rfl⟩)
        | false =>
          refine gK.go ?_
          simp -implicitDefEqProofs [hget_app hid']
          rw [hH]
          exact Post.dropAll (by simp [cold, colds]) (.base ⟨rfl, rfl⟩)
      · have hc : cmC ra rb k = 2 := by unfold cmC; rw [if_pos ⟨h1, h2⟩, if_neg h3]
        have hN : cmN ra rb k = 0 := by unfold cmN; rw [hc]; rfl
        rw [hc, hN]
        refine Run2.of I 1000 ?_
        simp -implicitDefEqProofs [ha, hb, h1, h2]
        exact ⟨fun _ => .base ⟨rfl, rfl⟩, fun h4 h5 => absurd ⟨h4, h5⟩ h3⟩
    · have hc : cmC ra rb k = 1 := by unfold cmC; rw [if_neg (fun h => h2 h.2)]
      have hN : cmN ra rb k = 0 := by unfold cmN; rw [hc]; rfl
      rw [hc, hN]
      refine Run2.of I 1000 ?_
      simp -implicitDefEqProofs [ha, hb, h1, h2]
      exact .base ⟨rfl, rfl⟩
  · have hc : cmC ra rb k = 1 := by unfold cmC; rw [if_neg (fun h => h1 h.1)]
    have hN : cmN ra rb k = 0 := by unfold cmN; rw [hc]; rfl
    rw [hc, hN]
    refine Run2.of I 1000 ?_
    simp -implicitDefEqProofs [ha, hb, h1]
    exact .base ⟨rfl, rfl⟩
/-- The block of the reference's search. -/
def spB (ra rb : List (List Int)) (B : Int) (u : AV) (c k : Int) (f : Bool) : Blk := ⟨9, [.agg [.ip [.snap 1 (ra.map il)], .ip [.snap 1 (rb.map il)], .snap 1 ((vt ra).map iv), .snap 1 ((vt rb).map iv), u, .int .i64 c, .int .i64 k, .int .i64 B, .bool f]]⟩
theorem fitsS_p (ra rb : List (List Int)) (im : List Int) (u : AV) (gu H : Heap) (ha : ssTot ra ≤ 1048576) (hb : ssTot rb ≤ 1048576) (hil : im.length ≤ (vt ra).length) (hpos : ∀ v ∈ im, 0 ≤ v) (hg : GrT 1 u (im.map iv) gu) (h2 : ∀ p ∈ gu, p ∈ H) :
    ACalls Try.prog 102 [.ip [.snap 1 (ra.map il)], .ip [.snap 1 (rb.map il)], .snap 1 ((vt ra).map iv), u] H (fun v h' => v = .bool (fitB ra rb im) ∧ h' = H) := by
  refine ACalls.reads gu h2 ?_ rfl
  rw [lend_cons, lend_cons, lend_cons, lend_cons, lend_nil', lend1_cold gu (x := .ip [.snap 1 (ra.map il)]) (by simp [cold, colds]), lend1_cold gu (x := .ip [.snap 1 (rb.map il)]) (by simp [cold, colds]), lend1_cold gu (x := .snap 1 ((vt ra).map iv)) (by simp [cold])]
  exact ACalls.wk (.cons (.refl _) (.cons (.refl _) (.cons (.refl _) (.cons hg.lent.wk .nil)))) (l08Fits_s ra rb [] [] im [] ha hb hil hpos)
/-- What a search of the reference leaves. -/
def SpOut (ra rb : List (List Int)) (B : Int) (id : Nat) (h : Heap) (im : List Int) (F : Int × Int × Bool) (v : AV) (h' : Heap) : Prop := ∃ u' gu', v = .tup [] ∧ GrT 1 u' (im.map iv) gu' ∧ id ∉ dom gu' ∧ h' = gu' ++ (id, spB ra rb B u' F.1 F.2.1 F.2.2) :: h
abbrev k56_o0 : List AJ := [.o ⟨(some 4), none, false, .mv (.t 0), none⟩, .o ⟨(some 5), none, false, .nilchk (.t 4), none⟩, .o ⟨(some 6), none, false, .fieldA 4 (.t 5), none⟩, .o ⟨(some 7), none, false, .load 1 false (.t 6), none⟩, .o ⟨(some 8), none, false, .len (.t 7), none⟩, .o ⟨(some 2), none, false, .mv (.t 8), (some [0, 2])⟩]
abbrev k56_o1 : List AJ := [.o ⟨(some 9), none, false, .mv (.t 2), none⟩, .o ⟨(some 10), none, false, .mv (.t 0), none⟩, .o ⟨(some 11), none, false, .nilchk (.t 10), none⟩, .o ⟨(some 12), none, false, .fieldA 2 (.t 11), none⟩, .o ⟨(some 13), none, false, .load 1 false (.t 12), none⟩, .o ⟨(some 14), none, false, .len (.t 13), none⟩, .o ⟨(some 15), none, false, .bin .eql (.t 9) (.t 14), (some [0, 2, 15])⟩]
abbrev k56_o2 : List AJ := [.o ⟨(some 16), none, false, .mv (.t 0), none⟩, .o ⟨(some 17), none, false, .nilchk (.t 16), none⟩, .o ⟨(some 18), none, false, .fieldA 5 (.t 17), none⟩, .o ⟨(some 19), none, false, .load 1 false (.t 18), none⟩, .o ⟨(some 20), none, true, .bin .add (.t 19) (.c (.int .i64 1)), none⟩, .o ⟨(some 21), none, false, .nilchk (.t 16), none⟩, .o ⟨(some 22), none, false, .fieldA 5 (.t 21), none⟩, .o ⟨none, none, false, .store 1 (.t 22) (.t 20), (some [])⟩]
def k56_3 : ACode := .seq (.region k56_o2) .ret
def k56_4 : ACode := .cond (.t 15) k56_3 .skip
def k56_5 : ACode := .seq (.region k56_o1) k56_4
abbrev k56_o3 : List AJ := [.o ⟨(some 3), none, false, .mv (.c (.int .i64 0)), (some [0, 2, 3])⟩]
abbrev k56_o4 : List AJ := [.o ⟨(some 23), none, false, .mv (.t 3), none⟩, .o ⟨(some 24), none, false, .mv (.t 0), none⟩, .o ⟨(some 25), none, false, .nilchk (.t 24), none⟩, .o ⟨(some 26), none, false, .fieldA 3 (.t 25), none⟩, .o ⟨(some 27), none, false, .load 1 false (.t 26), none⟩, .o ⟨(some 28), none, false, .len (.t 27), none⟩, .o ⟨(some 29), none, false, .bin .lss (.t 23) (.t 28), none⟩, .o ⟨(some 30), none, false, .mv (.t 29), none⟩, .o ⟨(some 31), (some (30, true)), false, .mv (.t 0), none⟩, .o ⟨(some 32), (some (30, true)), false, .nilchk (.t 31), none⟩, .o ⟨(some 33), (some (30, true)), false, .fieldA 8 (.t 32), (some [0, 2, 3, 30, 33])⟩, .o ⟨(some 34), (some (30, true)), false, .load 1 false (.t 33), none⟩, .o ⟨(some 35), (some (30, true)), false, .un .not (.t 34), none⟩, .o ⟨(some 36), none, false, .pick (.t 30) (.t 35) (.c (.bool false)), (some [0, 2, 3, 36])⟩]
def k56_8 : ACode := .cond (.t 36) .skip (.exit 0)
def k56_9 : ACode := .seq (.region k56_o4) k56_8
abbrev k56_o5 : List AJ := [.o ⟨(some 39), none, false, .mv (.t 0), none⟩, .o ⟨(some 40), none, false, .mv (.t 0), none⟩, .o ⟨(some 41), none, false, .nilchk (.t 40), none⟩, .o ⟨(some 42), none, false, .fieldA 4 (.t 41), none⟩, .o ⟨(some 43), none, false, .load 1 false (.t 42), none⟩, .o ⟨(some 44), none, false, .mv (.t 0), none⟩, .o ⟨(some 45), none, false, .nilchk (.t 44), none⟩, .o ⟨(some 46), none, false, .fieldA 3 (.t 45), none⟩, .o ⟨(some 47), none, false, .load 1 false (.t 46), none⟩, .o ⟨(some 48), none, false, .mv (.t 3), none⟩, .o ⟨(some 49), none, false, .idxA 1 (.t 47) (.t 48), none⟩, .o ⟨(some 50), none, false, .load 1 false (.t 49), none⟩, .o ⟨(some 51), none, false, .bsl false 1 [(.t 50)], none⟩, .o ⟨(some 52), none, false, .append 1 8 (.t 43) (.t 51), (some [0, 2, 3, 39, 52])⟩, .o ⟨(some 53), none, false, .nilchk (.t 39), none⟩, .o ⟨(some 54), none, false, .fieldA 4 (.t 53), none⟩, .o ⟨none, none, false, .store 1 (.t 54) (.t 52), (some [0, 2, 3])⟩]
abbrev k56_o6 : List AI := [⟨(some 55), none, false, .mv (.t 0), none⟩, ⟨(some 56), none, false, .nilchk (.t 55), none⟩, ⟨(some 57), none, false, .fieldA 0 (.t 56), none⟩, ⟨(some 58), none, false, .load 1 false (.t 57), none⟩, ⟨(some 59), none, false, .mv (.t 0), none⟩, ⟨(some 60), none, false, .nilchk (.t 59), none⟩, ⟨(some 61), none, false, .fieldA 1 (.t 60), none⟩, ⟨(some 62), none, false, .load 1 false (.t 61), none⟩, ⟨(some 63), none, false, .mv (.t 0), none⟩, ⟨(some 64), none, false, .nilchk (.t 63), none⟩, ⟨(some 65), none, false, .fieldA 2 (.t 64), none⟩, ⟨(some 66), none, false, .load 1 false (.t 65), none⟩, ⟨(some 67), none, false, .mv (.t 0), none⟩, ⟨(some 68), none, false, .nilchk (.t 67), (some [0, 2, 3, 58, 62, 66, 68])⟩, ⟨(some 69), none, false, .fieldA 4 (.t 68), none⟩, ⟨(some 70), none, false, .load 1 false (.t 69), none⟩, ⟨(some 71), none, false, .call 102 [(.t 58), (.t 62), (.t 66), (.t 70)], (some [0, 2, 3, 71])⟩]
abbrev k56_o7 : List AI := [⟨(some 72), none, false, .mv (.t 0), none⟩, ⟨(some 73), none, false, .nilchk (.t 72), none⟩, ⟨(some 74), none, false, .fieldA 6 (.t 73), none⟩, ⟨(some 75), none, false, .load 1 false (.t 74), none⟩, ⟨(some 76), none, false, .mv (.t 0), none⟩, ⟨(some 77), none, false, .nilchk (.t 76), none⟩, ⟨(some 78), none, false, .fieldA 7 (.t 77), none⟩, ⟨(some 79), none, false, .load 1 false (.t 78), none⟩, ⟨(some 80), none, false, .bin .eql (.t 75) (.t 79), (some [0, 2, 3, 80])⟩]
abbrev k56_o8 : List AJ := [.o ⟨(some 81), none, false, .mv (.t 0), none⟩, .o ⟨(some 82), none, false, .nilchk (.t 81), none⟩, .o ⟨(some 83), none, false, .fieldA 8 (.t 82), none⟩, .o ⟨none, none, false, .store 1 (.t 83) (.c (.bool true)), (some [0, 2, 3])⟩]
def k56_13 : ACode := .region k56_o8
abbrev k56_o9 : List AJ := [.o ⟨(some 84), none, false, .mv (.t 0), none⟩, .o ⟨(some 85), none, false, .nilchk (.t 84), none⟩, .o ⟨(some 86), none, false, .fieldA 6 (.t 85), none⟩, .o ⟨(some 87), none, false, .load 1 false (.t 86), none⟩, .o ⟨(some 88), none, true, .bin .add (.t 87) (.c (.int .i64 1)), none⟩, .o ⟨(some 89), none, false, .nilchk (.t 84), none⟩, .o ⟨(some 90), none, false, .fieldA 6 (.t 89), none⟩, .o ⟨none, none, false, .store 1 (.t 90) (.t 88), (some [0, 2, 3])⟩]
abbrev k56_o10 : List AJ := [.o ⟨(some 91), none, false, .mv (.t 0), none⟩, .o ⟨(some 92), none, false, .call 56 [(.t 91)], (some [0, 2, 3])⟩]
def k56_15 : ACode := .region k56_o10
def k56_16 : ACode := .seq (.region k56_o9) k56_15
def k56_17 : ACode := .cond (.t 80) k56_13 k56_16
def k56_18 : ACode := .seq (.draw k56_o7 [] rfl) k56_17
def k56_19 : ACode := .cond (.t 71) k56_18 .skip
def k56_20 : ACode := .seq (.draw k56_o6 [] rfl) k56_19
abbrev k56_o11 : List AJ := [.o ⟨(some 93), none, false, .mv (.t 0), none⟩, .o ⟨(some 94), none, false, .mv (.t 0), none⟩, .o ⟨(some 95), none, false, .nilchk (.t 94), none⟩, .o ⟨(some 96), none, false, .fieldA 4 (.t 95), none⟩, .o ⟨(some 97), none, false, .load 1 false (.t 96), none⟩, .o ⟨(some 98), none, false, .mv (.t 2), none⟩, .o ⟨(some 99), none, false, .slice 1 (.t 97) none (some (.t 98)) none, none⟩, .o ⟨(some 100), none, false, .nilchk (.t 93), none⟩, .o ⟨(some 101), none, false, .fieldA 4 (.t 100), none⟩, .o ⟨none, none, false, .store 1 (.t 101) (.t 99), (some [0, 2, 3])⟩]
def k56_21 : ACode := .region k56_o11
def k56_22 : ACode := .seq k56_20 k56_21
def k56_23 : ACode := .seq (.drawT 0 k56_o5 rfl) k56_22
abbrev k56_o12 : List AJ := [.o ⟨(some 37), none, false, .mv (.t 3), none⟩, .o ⟨(some 38), none, true, .bin .add (.t 37) (.c (.int .i64 1)), none⟩, .o ⟨(some 3), none, false, .mv (.t 38), (some [0, 2, 3])⟩]
def k56_25 : ACode := .region k56_o12
def k56_26 : ACode := .seq (.block 1 k56_23) k56_25
def k56_27 : ACode := .seq k56_9 k56_26
def k56_28 : ACode := .loop k56_27
def k56_29 : ACode := .block 0 k56_28
def k56_30 : ACode := .seq (.region k56_o3) k56_29
def k56_31 : ACode := .seq k56_5 k56_30
def k56_32 : ACode := .seq (.region k56_o0) k56_31
@[simp, simp ↓] theorem k56_3r : sR k56_3 k56_o2 .ret := yR rfl
@[simp, simp ↓] theorem k56_4r : rC k56_4 (.t 15) k56_3 .skip := zC rfl
@[simp, simp ↓] theorem k56_5r : sR k56_5 k56_o1 k56_4 := yR rfl
@[simp, simp ↓] theorem k56_8r : rC k56_8 (.t 36) .skip (.exit 0) := zC rfl
@[simp, simp ↓] theorem k56_9r : sR k56_9 k56_o4 k56_8 := yR rfl
@[simp, simp ↓] theorem k56_13r : rR k56_13 k56_o8 := zR rfl
@[simp, simp ↓] theorem k56_15r : rR k56_15 k56_o10 := zR rfl
@[simp, simp ↓] theorem k56_16r : sR k56_16 k56_o9 k56_15 := yR rfl
@[simp, simp ↓] theorem k56_17r : rC k56_17 (.t 80) k56_13 k56_16 := zC rfl
@[simp, simp ↓] theorem k56_18r : sD k56_18 k56_o7 [] k56_17 := yD rfl
@[simp, simp ↓] theorem k56_19r : rC k56_19 (.t 71) k56_18 .skip := zC rfl
@[simp, simp ↓] theorem k56_20r : sD k56_20 k56_o6 [] k56_19 := yD rfl
@[simp, simp ↓] theorem k56_21r : rR k56_21 k56_o11 := zR rfl
@[simp, simp ↓] theorem k56_22r : rS k56_22 k56_20 k56_21 := zS rfl
@[simp, simp ↓] theorem k56_23r : sT k56_23 k56_o5 k56_22 := yT rfl
@[simp, simp ↓] theorem k56_25r : rR k56_25 k56_o12 := zR rfl
@[simp, simp ↓] theorem k56_26r : sB k56_26 1 k56_23 k56_25 := yB rfl
@[simp, simp ↓] theorem k56_27r : rS k56_27 k56_9 k56_26 := zS rfl
@[simp, simp ↓] theorem k56_28r : rL k56_28 k56_27 := zL rfl
@[simp, simp ↓] theorem k56_29r : rB k56_29 0 k56_28 := zB rfl
@[simp, simp ↓] theorem k56_30r : sR k56_30 k56_o3 k56_29 := yR rfl
@[simp, simp ↓] theorem k56_31r : rS k56_31 k56_5 k56_30 := zS rfl
@[simp, simp ↓] theorem k56_32r : sR k56_32 k56_o0 k56_31 := yR rfl
noncomputable abbrev k56_C : Orc → Cx := mkC Try.prog [] 56 102 []
theorem k56_of : OfP Try.prog Try.f56 56 102 k56_C k56_32 := @ofP _ _ _ _ _ _ _ _ Try.func56 (by decide +kernel) rfl (by kernel_rfl) rfl (by kernel_rfl)
theorem run_w (ra rb : List (List Int)) (ha : ssTot ra ≤ 1048576) (hb : ssTot rb ≤ 1048576) (hn : (vt ra).length ≤ 48) (hpb : ∀ v ∈ vt rb, 0 ≤ v) (B : Int) (hB : 1 ≤ B ∧ B ≤ 20000) (id : Nat) (h : Heap) : ∀ (d : Nat) (im : List Int) (c k : Int) (u : AV) (gu : Heap), im.length + d = (vt ra).length → (∀ v ∈ im, 0 ≤ v) → 0 ≤ c → c ≤ k → k ≤ B → GrT 1 u (im.map iv) gu → id ∉ dom gu →
    ACalls Try.prog 56 [.ptr id 9 0 0] (gu ++ (id, spB ra rb B u c k false) :: h) (SpOut ra rb B id h im (srch (fitB ra rb) (vt rb) B d im (c, k, false))) := by
  intro d
  induction d with
  | zero =>
    intro im c k u gu hd hpos hc0 hck hkB hg hid
    have hul := hg.len
    have huc := hg.cell
    simp only [List.length_map] at hul
    have fin : SpOut ra rb B id h im (srch (fitB ra rb) (vt rb) B 0 im (c, k, false)) (.tup []) (gu ++ (id, spB ra rb B u (c + 1) k false) :: h) := ⟨u, gu, rfl, hg, hid, rfl⟩
    generalize SpOut ra rb B id h im (srch (fitB ra rb) (vt rb) B 0 im (c, k, false)) = R at *
    unfold spB at *
    have hde : (im.length : Int) = (vt ra).length := by omega
    refine k56_of rfl noPure fun I => ?_
    refine Run2.of I 1000 ?_
    simp -implicitDefEqProofs [hget_app hid, hset_app hid, hul, huc, hde]
    exact ⟨by omega, .base fin⟩
  | succ d ihd =>
    intro im c k u gu hd hpos hc0 hck hkB hg hid
    have hul := hg.len
    have huc := hg.cell
    simp only [List.length_map] at hul
    have hde : ¬ (im.length : Int) = (vt ra).length := by omega
    have hnb := (fit_of_tot hb).1
    have hvlb := vt_len rb
    obtain ⟨F, hF⟩ : ∃ F, F = (vt rb).foldl (sstep (fitB ra rb) (vt rb) B d im) (c, k, false) := ⟨_, rfl⟩
    rw [srch_succ, ← hF]
    obtain ⟨R, hR⟩ : ∃ R, R = SpOut ra rb B id h im F := ⟨_, rfl⟩
    rw [← hR]
    refine k56_of rfl noPure fun I => ?_
    unfold spB
    refine Run2.of I 1000 ?_
    simp -implicitDefEqProofs [hget_app hid, hset_app hid, hul, huc, hde]
    refine Run2.loopE (α := Nat × Int × Int × Bool × AV × Heap) (fun s => [(0, .ptr id 9 0 0), (2, .int .i64 im.length), (3, .int .i64 (s.1 : Nat))])
      (fun s => s.2.2.2.2.2 ++ (id, spB ra rb B s.2.2.2.2.1 s.2.1 s.2.2.1 s.2.2.2.1) :: h) (fun s => (vt rb).length - s.1)
      (fun s => s.1 ≤ (vt rb).length ∧ 0 ≤ s.2.1 ∧ s.2.1 ≤ s.2.2.1 ∧ s.2.2.1 ≤ B ∧ F = ((vt rb).drop s.1).foldl (sstep (fitB ra rb) (vt rb) B d im) (s.2.1, s.2.2.1, s.2.2.2.1) ∧ GrT 1 s.2.2.2.2.1 (im.map iv) s.2.2.2.2.2 ∧ id ∉ dom s.2.2.2.2.2)
      (0, c, k, false, u, gu) (by simp) (by simp [spB]) ⟨Nat.zero_le _, hc0, hck, hkB, by simpa using hF, hg, hid⟩ ?_
    clear hF hg hid hul huc hc0 hck hkB hde
    rintro ⟨i, c, k, f, u, gu⟩ ⟨hi, hc0, hck, hkB, hF, hg, hid⟩ ih
    simp only at hi hc0 hck hkB hF hg hid ih ⊢
    have hul := hg.len
    have huc := hg.cell
    simp only [List.length_map] at hul
    cases f with
    | true =>
      rw [sstep_full] at hF
      clear ih
      unfold spB
      by_cases hlt : i < (vt rb).length
      · refine Run2.of I 1000 ?_
        simp -implicitDefEqProofs [hlt, hget_app hid, hset_app hid, hul, huc]
        refine .base ?_
        rw [hR, hF]
        exact ⟨u, gu, rfl, hg, hid, rfl⟩
      · refine Run2.of I 1000 ?_
        simp -implicitDefEqProofs [hlt, hget_app hid, hset_app hid, hul, huc]
        refine .base ?_
        rw [hR, hF]
        exact ⟨u, gu, rfl, hg, hid, rfl⟩
    | false =>
      by_cases hlt : i < (vt rb).length
      · rw [List.drop_eq_getElem_cons hlt, List.foldl_cons] at hF
        have go := fun c' k' f' (x : Int) idl ex a1 a2 a3 a4 (a5 : id ∉ dom [(idl, (⟨1, (im ++ [x]).map iv ++ ex⟩ : Blk))]) => ih (i + 1, c', k', f', .sl idl 1 0 im.length none, [(idl, ⟨1, (im ++ [x]).map iv ++ ex⟩)]) ⟨hlt, a1, a2, a3, a4, by
          have := GrT.sl (sz := 1) idl (im.map iv) (iv x :: ex) im.length (by simp)
          simpa using this, a5⟩ (by simp; omega)
        clear ih
        unfold spB
        refine Run2.of I 1000 ?_
        simp -implicitDefEqProofs [hlt, hget_app hid, hset_app hid, hul, huc]
        refine GrT.app hg (by simp; omega) (by simp) fun w' gu' hg' hf' => ?_
        have hid' : id ∉ dom gu' := fun e => hf' id e (by simp [dom])
        have hwc := hg'.cell
        simp -implicitDefEqProofs [hget_app hid', hset_app hid', hwc, cells_of hwc, stor_of hwc]
        have hgt : GrT 1 w' ((im ++ [(vt rb)[i]]).map iv) gu' := by simpa using hg'.t
        have hpos' : ∀ v ∈ im ++ [(vt rb)[i]], 0 ≤ v := fun v hv => by
          rcases List.mem_append.1 hv with h | h
          · exact hpos v h
          · rw [List.mem_singleton.1 h]; exact hpb _ (List.getElem_mem hlt)
        refine dcallK (fitsS_p ra rb (im ++ [(vt rb)[i]]) w' gu' _ ha hb (by simp; omega) hpos' hgt (fun p hp => List.mem_append_left _ hp)) ?_
        simp only at go
        unfold spB at go
        by_cases hfit : fitB ra rb (im ++ [(vt rb)[i]]) = true
        · rw [hfit]
          by_cases hk : k = B
          · have hs : sstep (fitB ra rb) (vt rb) B d im (c, k, false) (vt rb)[i] = (c, k, true) := by simp [sstep, hfit, hk]
            rw [hs] at hF
            generalize hLL : (im ++ [(vt rb)[i]]).map iv = LL at hgt
            cases hgt with
            | nil => simp at hLL
            | emp => simp at hLL
            | sl idl _ ex nn hnn =>
              obtain rfl : nn = im.length + 1 := by rw [hnn, ← hLL]; simp
              subst hLL
              have hgo := go c k true (vt rb)[i] idl ex hc0 hck hkB hF hid'
              rw [hk] at hgo
              have hne : ¬ idl = id := fun e => hid' (by simp [dom, e])
              have hLm : ((im ++ [(vt rb)[i]]).map iv).length ≤ 48 := by simp; omega
              simp -implicitDefEqProofs [hne, hk]
              first | exact ⟨by omega, by omega, by simpa using hgo⟩ | exact ⟨by omega, by omega, by omega, by simpa using hgo⟩
          · have hs : sstep (fitB ra rb) (vt rb) B d im (c, k, false) (vt rb)[i] = srch (fitB ra rb) (vt rb) B d (im ++ [(vt rb)[i]]) (c, k + 1, false) := by simp [sstep, hfit, hk]
            rw [hs] at hF
            have hbd := srch_bd (fitB ra rb) (vt rb) B d (im ++ [(vt rb)[i]]) (c, k + 1, false) 1 (by simp only; omega) (by simp only; omega)
            have hcall := ihd (im ++ [(vt rb)[i]]) c (k + 1) w' gu' (by simp; omega) hpos' hc0 (by omega) (by omega) hgt hid'
            generalize srch (fitB ra rb) (vt rb) B d (im ++ [(vt rb)[i]]) (c, k + 1, false) = G at *
            obtain ⟨c', k', f'⟩ := G
            simp only at hbd hF
            unfold spB at hcall
            simp -implicitDefEqProofs [hk, hget_app hid', hset_app hid', hwc]
            refine ⟨by omega, ?_⟩
            refine hcall.mono ?_
            rintro v h' ⟨u', gu2, rfl, hg2, hid2, rfl⟩
            generalize hLL : (im ++ [(vt rb)[i]]).map iv = LL at hg2
            cases hg2 with
            | nil => simp at hLL
            | emp => simp at hLL
            | sl idl _ ex nn hnn =>
              obtain rfl : nn = im.length + 1 := by rw [hnn, ← hLL]; simp
              subst hLL
              have hgo := go c' k' f' (vt rb)[i] idl ex (by omega) (by omega) (by omega) hF hid2
              have hne : ¬ idl = id := fun e => hid2 (by simp [dom, e])
              have hLm : ((im ++ [(vt rb)[i]]).map iv).length ≤ 48 := by simp; omega
              unfold spB
              refine gK.go ?_
              simp -implicitDefEqProofs [hne]
              first | exact ⟨by omega, by omega, by simpa using hgo⟩ | exact ⟨by omega, by omega, by omega, by simpa using hgo⟩
        · have hfit : fitB ra rb (im ++ [(vt rb)[i]]) = false := by simpa using hfit
          have hs : sstep (fitB ra rb) (vt rb) B d im (c, k, false) (vt rb)[i] = (c, k, false) := by simp [sstep, hfit]
          rw [hs] at hF
          rw [hfit]
          generalize hLL : (im ++ [(vt rb)[i]]).map iv = LL at hgt
          cases hgt with
          | nil => simp at hLL
          | emp => simp at hLL
          | sl idl _ ex nn hnn =>
            obtain rfl : nn = im.length + 1 := by rw [hnn, ← hLL]; simp
            subst hLL
            have hgo := go c k false (vt rb)[i] idl ex hc0 hck hkB hF hid'
            have hne : ¬ idl = id := fun e => hid' (by simp [dom, e])
            have hLm : ((im ++ [(vt rb)[i]]).map iv).length ≤ 48 := by simp; omega
            simp -implicitDefEqProofs [hne]
            first | exact ⟨by omega, by omega, by simpa using hgo⟩ | exact ⟨by omega, by omega, by omega, by simpa using hgo⟩
      · obtain rfl : i = (vt rb).length := by omega
        rw [List.drop_length, List.foldl_nil] at hF
        clear ih
        unfold spB
        refine Run2.of I 1000 ?_
        simp -implicitDefEqProofs [hget_app hid]
        refine .base ?_
        rw [hR, hF]
        exact ⟨u, gu, rfl, hg, hid, rfl⟩
noncomputable def orcCm7 : List (Nat × (List AV → Option (Prop × AV))) := (54, o_l05Ok) :: (45, o_l00In) :: (55, o_l08Vtx) :: []
theorem orcCm7_p : Pure Try.prog (lk orcCm7) := (lk_pure o_l05Ok_k (lk_pure o_l00In_k (lk_pure o_l08Vtx_k lk_pure0)))
@[simp] theorem orcCm7_l (b : Bool) (g : FuncId) (l : List AV) : lk orcCm7 b g l = if g = 54 then o_l05Ok l else if g = 45 then o_l00In l else if g = 55 then o_l08Vtx l else none := nr rfl
abbrev k18_o0 : List AJ := [.o ⟨(some 3), none, false, .box false 1 (.t 0), none⟩, .o ⟨(some 4), none, false, .box false 1 (.t 1), none⟩, .o ⟨(some 6), none, false, .mv (.c (.int .i64 0)), none⟩, .o ⟨(some 7), none, false, .mv (.c (.int .i64 0)), (some [2, 3, 4])⟩]
abbrev k18_o1 : List AJ := [.o ⟨(some 9), none, false, .call 54 [(.t 3)], none⟩, .o ⟨(some 10), none, false, .un .not (.t 9), none⟩, .o ⟨(some 11), none, false, .mv (.t 10), none⟩, .o ⟨(some 12), (some (11, false)), false, .call 54 [(.t 4)], none⟩, .o ⟨(some 13), (some (11, false)), false, .un .not (.t 12), none⟩, .o ⟨(some 14), none, false, .pick (.t 11) (.c (.bool true)) (.t 13), (some [2, 3, 4, 14])⟩]
abbrev k18_o2 : List AJ := [.o ⟨(some 6), none, false, .mv (.c (.int .i64 0)), none⟩, .o ⟨(some 7), none, false, .mv (.c (.int .i64 1)), (some [6, 7])⟩]
def k18_3 : ACode := .seq (.region k18_o2) .ret
def k18_4 : ACode := .cond (.t 14) k18_3 .skip
def k18_5 : ACode := .seq (.region k18_o1) k18_4
abbrev k18_o3 : List AJ := [.o ⟨(some 15), none, false, .mv (.t 2), none⟩, .o ⟨(some 16), none, false, .call 45 [(.t 15), (.c (.int .i64 1)), (.c (.int .i64 20000))], none⟩, .o ⟨(some 17), none, false, .un .not (.t 16), (some [2, 3, 4, 17])⟩]
abbrev k18_o4 : List AJ := [.o ⟨(some 6), none, false, .mv (.c (.int .i64 0)), none⟩, .o ⟨(some 7), none, false, .mv (.c (.int .i64 2)), (some [6, 7])⟩]
def k18_8 : ACode := .seq (.region k18_o4) .ret
def k18_9 : ACode := .cond (.t 17) k18_8 .skip
def k18_10 : ACode := .seq (.region k18_o3) k18_9
abbrev k18_o5 : List AJ := [.o ⟨(some 18), none, false, .call 55 [(.t 3)], none⟩, .o ⟨(some 19), none, false, .call 55 [(.t 4)], none⟩, .o ⟨(some 20), none, false, .mv (.t 2), none⟩, .o ⟨(some 21), none, false, .build [.nilp, .nilp, .nilsl, .nilsl, .nilsl, (.int .i64 0), (.int .i64 0), (.int .i64 0), (.bool false)] [(0, 1, (.t 3)), (1, 1, (.t 4)), (2, 1, (.t 18)), (3, 1, (.t 19)), (7, 1, (.t 20))], none⟩, .o ⟨(some 22), none, false, .box true 9 (.t 21), none⟩, .o ⟨(some 8), none, false, .mv (.t 22), (some [8])⟩]
abbrev k18_o6 : List AJ := [.o ⟨(some 23), none, false, .mv (.t 8), none⟩, .o ⟨(some 24), none, false, .call 56 [(.t 23)], (some [8])⟩]
abbrev k18_o7 : List AJ := [.o ⟨(some 25), none, false, .mv (.t 8), none⟩, .o ⟨(some 26), none, false, .nilchk (.t 25), none⟩, .o ⟨(some 27), none, false, .fieldA 8 (.t 26), none⟩, .o ⟨(some 28), none, false, .load 1 false (.t 27), (some [8, 28])⟩]
abbrev k18_o8 : List AJ := [.o ⟨(some 6), none, false, .mv (.c (.int .i64 0)), none⟩, .o ⟨(some 7), none, false, .mv (.c (.int .i64 5)), (some [6, 7])⟩]
def k18_15 : ACode := .seq (.region k18_o8) .ret
def k18_16 : ACode := .cond (.t 28) k18_15 .skip
def k18_17 : ACode := .seq (.region k18_o7) k18_16
abbrev k18_o9 : List AJ := [.o ⟨(some 29), none, false, .mv (.t 8), none⟩, .o ⟨(some 30), none, false, .nilchk (.t 29), none⟩, .o ⟨(some 31), none, false, .fieldA 5 (.t 30), none⟩, .o ⟨(some 32), none, false, .load 1 false (.t 31), none⟩, .o ⟨(some 6), none, false, .mv (.t 32), none⟩, .o ⟨(some 7), none, false, .mv (.c (.int .i64 0)), (some [6, 7])⟩]
def k18_19 : ACode := .seq (.region k18_o9) .ret
def k18_20 : ACode := .seq k18_17 k18_19
def k18_21 : ACode := .seq (.region k18_o6) k18_20
def k18_22 : ACode := .seq (.region k18_o5) k18_21
def k18_23 : ACode := .seq k18_10 k18_22
def k18_24 : ACode := .seq k18_5 k18_23
def k18_25 : ACode := .seq (.region k18_o0) k18_24
@[simp, simp ↓] theorem k18_3r : sR k18_3 k18_o2 .ret := yR rfl
@[simp, simp ↓] theorem k18_4r : rC k18_4 (.t 14) k18_3 .skip := zC rfl
@[simp, simp ↓] theorem k18_5r : sR k18_5 k18_o1 k18_4 := yR rfl
@[simp, simp ↓] theorem k18_8r : sR k18_8 k18_o4 .ret := yR rfl
@[simp, simp ↓] theorem k18_9r : rC k18_9 (.t 17) k18_8 .skip := zC rfl
@[simp, simp ↓] theorem k18_10r : sR k18_10 k18_o3 k18_9 := yR rfl
@[simp, simp ↓] theorem k18_15r : sR k18_15 k18_o8 .ret := yR rfl
@[simp, simp ↓] theorem k18_16r : rC k18_16 (.t 28) k18_15 .skip := zC rfl
@[simp, simp ↓] theorem k18_17r : sR k18_17 k18_o7 k18_16 := yR rfl
@[simp, simp ↓] theorem k18_19r : sR k18_19 k18_o9 .ret := yR rfl
@[simp, simp ↓] theorem k18_20r : rS k18_20 k18_17 k18_19 := zS rfl
@[simp, simp ↓] theorem k18_21r : sR k18_21 k18_o6 k18_20 := yR rfl
@[simp, simp ↓] theorem k18_22r : sR k18_22 k18_o5 k18_21 := yR rfl
@[simp, simp ↓] theorem k18_23r : rS k18_23 k18_10 k18_22 := zS rfl
@[simp, simp ↓] theorem k18_24r : rS k18_24 k18_5 k18_23 := zS rfl
@[simp, simp ↓] theorem k18_25r : sR k18_25 k18_o0 k18_24 := yR rfl
noncomputable abbrev k18_C : Orc → Cx := mkC Try.prog [22] 18 33 [.tmp 6, .tmp 7]
theorem k18_of : OfP Try.prog Try.f18 18 33 k18_C k18_25 := @ofP _ _ _ _ _ _ _ _ Try.func18 (by decide +kernel) rfl (by kernel_rfl) rfl (by kernel_rfl)
theorem specCM_s (ra rb : List (List Int)) (k : Int) (h : Heap) (ha : ssTot ra ≤ 1048576) (hb : ssTot rb ≤ 1048576) : ACalls Try.prog 18 [.agg [.snap 1 (ra.map il)], .agg [.snap 1 (rb.map il)], .int .i64 k] h (fun v h' => v = .tup [.int .i64 (cmN ra rb k), .int .i64 (cmC ra rb k)] ∧ h' = h) := by
  refine k18_of rfl orcCm7_p fun I => ?_
  by_cases h1 : cxOk ra
  · by_cases h2 : cxOk rb
    · by_cases h3 : 1 ≤ k ∧ k ≤ 20000
      · refine Run2.of I 1000 ?_
        simp -implicitDefEqProofs [ha, hb, h1, h2, h3.1, h3.2]
        intro id hid
        have h48 := h1.2
        have hvl := vt_len ra
        have hcall := run_w ra rb ha hb (by omega) (fun v hv => (vt_mem h2 hv).1) k h3 id h (vt ra).length [] 0 0 .nilsl [] (by simp) (by simp) (by omega) (by omega) (by omega) .nil (by simp [dom])
        have hc : cmC ra rb k = if (cmS ra rb k).2.2 = true then 5 else 0 := by unfold cmC; rw [if_pos ⟨h1, h2⟩, if_pos h3]
        have hN : cmN ra rb k = if (cmS ra rb k).2.2 = true then 0 else (cmS ra rb k).1 := by
          unfold cmN; rw [hc]
          cases (cmS ra rb k).2.2 <;> simp
        rw [hc, hN]
        unfold cmS
        generalize srch (fitB ra rb) (vt rb) k (vt ra).length [] (0, 0, false) = F at *
        unfold spB at hcall
        refine hcall.mono ?_
        rintro v h' ⟨u', gu', rfl, hg', hid', rfl⟩
        obtain ⟨c', k', f'⟩ := F
        have hH : ∀ b : Blk, gu' ++ (id, b) :: h = (gu' ++ [(id, b)]) ++ h := fun b => by simp
        unfold spB
        cases f' with
        | true =>
          refine gK.go ?_
          simp -implicitDefEqProofs [hget_app hid']
          rw [hH]
          exact Post.dropAll (by simp [cold, colds]) (.base ⟨rfl, rfl⟩)
        | false =>
          refine gK.go ?_
          simp -implicitDefEqProofs [hget_app hid']
          rw [hH]
          exact Post.dropAll (by simp [cold, colds]) (.base ⟨rfl, rfl⟩)
      · have hc : cmC ra rb k = 2 := by unfold cmC; rw [if_pos ⟨h1, h2⟩, if_neg h3]
        have hN : cmN ra rb k = 0 := by unfold cmN; rw [hc]; rfl
        rw [hc, hN]
        refine Run2.of I 1000 ?_
        simp -implicitDefEqProofs [ha, hb, h1, h2]
        exact ⟨fun _ => .base ⟨rfl, rfl⟩, fun h4 h5 => absurd ⟨h4, h5⟩ h3⟩
    · have hc : cmC ra rb k = 1 := by unfold cmC; rw [if_neg (fun h => h2 h.2)]
      have hN : cmN ra rb k = 0 := by unfold cmN; rw [hc]; rfl
      rw [hc, hN]
      refine Run2.of I 1000 ?_
      simp -implicitDefEqProofs [ha, hb, h1, h2]
      exact .base ⟨rfl, rfl⟩
  · have hc : cmC ra rb k = 1 := by unfold cmC; rw [if_neg (fun h => h1 h.1)]
    have hN : cmN ra rb k = 0 := by unfold cmN; rw [hc]; rfl
    rw [hc, hN]
    refine Run2.of I 1000 ?_
    simp -implicitDefEqProofs [ha, hb, h1]
    exact .base ⟨rfl, rfl⟩
end Go.AG
