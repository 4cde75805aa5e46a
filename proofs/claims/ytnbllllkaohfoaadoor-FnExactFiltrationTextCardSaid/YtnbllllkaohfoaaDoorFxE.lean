/- What a complex and a filtration are: the reference. No statement is made here. -/
import Derived.Test.YtnbllllkaohfoaaDoorFxD
namespace Go.AG
open Go.Proofs Go.Proofs.YtnbllllkaohfoaaDoor
set_option linter.unusedSimpArgs false
set_option linter.unusedVariables false
set_option maxRecDepth 4000
noncomputable def orcS3 : List (Nat × (List AV → Option (Prop × AV))) := (96, o_l05Simplex) :: (97, o_l05Before) :: (99, o_l05Drop) :: (98, o_l05Find) :: orcS2
theorem orcS3_p : Pure Tryd.prog (lk orcS3) := (lk_pure o_l05Simplex_k (lk_pure o_l05Before_k (lk_pure o_l05Drop_k (lk_pure o_l05Find_k orcS2_p))))
@[simp] theorem orcS3_l (b : Bool) (g : FuncId) (l : List AV) : lk orcS3 b g l = if g = 96 then o_l05Simplex l else if g = 97 then o_l05Before l else if g = 99 then o_l05Drop l else if g = 98 then o_l05Find l else lk orcS2 b g l := nr rfl
theorem faces_all {s : List Int} {P : List Int → Prop} (h1 : 1 < s.length) : (∀ f ∈ faces s, P f) ↔ ∀ k, k < s.length → P (dropK s k) := by
  unfold faces
  rw [if_pos h1]
  simp
abbrev k80_o0 : List AJ := [.o ⟨(some 2), none, false, .mv (.c (.bool false)), (some [0])⟩]
abbrev k80_o1 : List AJ := [.o ⟨(some 6), none, false, .mv (.t 0), none⟩, .o ⟨(some 7), none, false, .nilchk (.t 6), none⟩, .o ⟨(some 8), none, false, .fieldA 0 (.t 7), none⟩, .o ⟨(some 9), none, false, .load 1 false (.t 8), none⟩, .o ⟨(some 10), none, false, .len (.t 9), none⟩, .o ⟨(some 11), none, false, .bin .gtr (.t 10) (.c (.int .i64 48)), (some [0, 11])⟩]
abbrev k80_o2 : List AJ := [.o ⟨(some 2), none, false, .mv (.c (.bool false)), (some [2])⟩]
def k80_3 : ACode := .seq (.region k80_o2) .ret
def k80_4 : ACode := .cond (.t 11) k80_3 .skip
def k80_5 : ACode := .seq (.region k80_o1) k80_4
abbrev k80_o3 : List AJ := [.o ⟨(some 3), none, false, .mv (.c (.int .i64 0)), (some [0, 3])⟩]
abbrev k80_o4 : List AJ := [.o ⟨(some 12), none, false, .mv (.t 3), none⟩, .o ⟨(some 13), none, false, .mv (.t 0), none⟩, .o ⟨(some 14), none, false, .nilchk (.t 13), none⟩, .o ⟨(some 15), none, false, .fieldA 0 (.t 14), none⟩, .o ⟨(some 16), none, false, .load 1 false (.t 15), none⟩, .o ⟨(some 17), none, false, .len (.t 16), none⟩, .o ⟨(some 18), none, false, .bin .lss (.t 12) (.t 17), (some [0, 3, 18])⟩]
def k80_8 : ACode := .cond (.t 18) .skip (.exit 0)
def k80_9 : ACode := .seq (.region k80_o4) k80_8
abbrev k80_o5 : List AJ := [.o ⟨(some 21), none, false, .mv (.t 0), none⟩, .o ⟨(some 22), none, false, .nilchk (.t 21), none⟩, .o ⟨(some 23), none, false, .fieldA 0 (.t 22), none⟩, .o ⟨(some 24), none, false, .load 1 false (.t 23), none⟩, .o ⟨(some 25), none, false, .mv (.t 3), none⟩, .o ⟨(some 26), none, false, .idxA 1 (.t 24) (.t 25), none⟩, .o ⟨(some 27), none, false, .load 1 false (.t 26), none⟩, .o ⟨(some 4), none, false, .mv (.t 27), (some [0, 3, 4])⟩]
abbrev k80_o6 : List AJ := [.o ⟨(some 28), none, false, .mv (.t 4), none⟩, .o ⟨(some 29), none, false, .call 96 [(.t 28)], none⟩, .o ⟨(some 30), none, false, .un .not (.t 29), none⟩, .o ⟨(some 31), none, false, .mv (.t 30), none⟩, .o ⟨(some 32), (some (31, false)), false, .mv (.t 3), none⟩, .o ⟨(some 33), (some (31, false)), false, .bin .gtr (.t 32) (.c (.int .i64 0)), none⟩, .o ⟨(some 34), (some (31, false)), false, .mv (.t 33), none⟩, .o ⟨(some 35), (some (34, true)), false, .mv (.t 0), none⟩, .o ⟨(some 36), (some (34, true)), false, .nilchk (.t 35), (some [0, 3, 4, 31, 34, 36])⟩, .o ⟨(some 37), (some (34, true)), false, .fieldA 0 (.t 36), none⟩, .o ⟨(some 38), (some (34, true)), false, .load 1 false (.t 37), none⟩, .o ⟨(some 39), (some (34, true)), false, .mv (.t 3), none⟩, .o ⟨(some 40), (some (34, true)), true, .bin .sub (.t 39) (.c (.int .i64 1)), none⟩, .o ⟨(some 41), (some (34, true)), false, .idxA 1 (.t 38) (.t 40), none⟩, .o ⟨(some 42), (some (34, true)), false, .load 1 false (.t 41), none⟩, .o ⟨(some 43), (some (34, true)), false, .mv (.t 4), (some [0, 3, 4, 31, 34, 42, 43])⟩, .o ⟨(some 44), (some (34, true)), false, .call 97 [(.t 42), (.t 43)], none⟩, .o ⟨(some 45), (some (34, true)), false, .un .not (.t 44), none⟩, .o ⟨(some 46), (some (31, false)), false, .pick (.t 34) (.t 45) (.c (.bool false)), none⟩, .o ⟨(some 47), none, false, .pick (.t 31) (.c (.bool true)) (.t 46), (some [0, 3, 4, 47])⟩]
abbrev k80_o7 : List AJ := [.o ⟨(some 2), none, false, .mv (.c (.bool false)), (some [2])⟩]
def k80_13 : ACode := .seq (.region k80_o7) .ret
def k80_14 : ACode := .cond (.t 47) k80_13 .skip
def k80_15 : ACode := .seq (.region k80_o6) k80_14
abbrev k80_o8 : List AJ := [.o ⟨(some 5), none, false, .mv (.c (.int .i64 0)), (some [0, 3, 4, 5])⟩]
abbrev k80_o9 : List AJ := [.o ⟨(some 48), none, false, .mv (.t 5), none⟩, .o ⟨(some 49), none, false, .mv (.t 4), none⟩, .o ⟨(some 50), none, false, .len (.t 49), none⟩, .o ⟨(some 51), none, false, .bin .lss (.t 48) (.t 50), none⟩, .o ⟨(some 52), none, false, .mv (.t 51), none⟩, .o ⟨(some 53), (some (52, true)), false, .mv (.t 4), none⟩, .o ⟨(some 54), (some (52, true)), false, .len (.t 53), none⟩, .o ⟨(some 55), (some (52, true)), false, .bin .gtr (.t 54) (.c (.int .i64 1)), none⟩, .o ⟨(some 56), none, false, .pick (.t 52) (.t 55) (.c (.bool false)), (some [0, 3, 4, 5, 56])⟩]
def k80_18 : ACode := .cond (.t 56) .skip (.exit 2)
def k80_19 : ACode := .seq (.region k80_o9) k80_18
abbrev k80_o10 : List AJ := [.o ⟨(some 59), none, false, .mv (.t 0), none⟩, .o ⟨(some 60), none, false, .mv (.t 4), none⟩, .o ⟨(some 61), none, false, .mv (.t 5), none⟩, .o ⟨(some 62), none, false, .call 99 [(.t 60), (.t 61)], none⟩, .o ⟨(some 63), none, false, .call 98 [(.t 59), (.t 62)], none⟩, .o ⟨(some 64), none, false, .bin .lss (.t 63) (.c (.int .i64 0)), (some [0, 3, 4, 5, 64])⟩]
abbrev k80_o11 : List AJ := [.o ⟨(some 2), none, false, .mv (.c (.bool false)), (some [2])⟩]
def k80_22 : ACode := .seq (.region k80_o11) .ret
def k80_23 : ACode := .cond (.t 64) k80_22 .skip
def k80_24 : ACode := .seq (.region k80_o10) k80_23
abbrev k80_o12 : List AJ := [.o ⟨(some 57), none, false, .mv (.t 5), none⟩, .o ⟨(some 58), none, true, .bin .add (.t 57) (.c (.int .i64 1)), none⟩, .o ⟨(some 5), none, false, .mv (.t 58), (some [0, 3, 4, 5])⟩]
def k80_26 : ACode := .region k80_o12
def k80_27 : ACode := .seq (.block 3 k80_24) k80_26
def k80_28 : ACode := .seq k80_19 k80_27
def k80_29 : ACode := .loop k80_28
def k80_30 : ACode := .block 2 k80_29
def k80_31 : ACode := .seq (.region k80_o8) k80_30
def k80_32 : ACode := .seq k80_15 k80_31
def k80_33 : ACode := .seq (.region k80_o5) k80_32
abbrev k80_o13 : List AJ := [.o ⟨(some 19), none, false, .mv (.t 3), none⟩, .o ⟨(some 20), none, true, .bin .add (.t 19) (.c (.int .i64 1)), none⟩, .o ⟨(some 3), none, false, .mv (.t 20), (some [0, 3])⟩]
def k80_35 : ACode := .region k80_o13
def k80_36 : ACode := .seq (.block 1 k80_33) k80_35
def k80_37 : ACode := .seq k80_9 k80_36
def k80_38 : ACode := .loop k80_37
def k80_39 : ACode := .block 0 k80_38
def k80_40 : ACode := .seq (.region k80_o3) k80_39
abbrev k80_o14 : List AJ := [.o ⟨(some 2), none, false, .mv (.c (.bool true)), (some [2])⟩]
def k80_42 : ACode := .seq (.region k80_o14) .ret
def k80_43 : ACode := .seq k80_40 k80_42
def k80_44 : ACode := .seq k80_5 k80_43
def k80_45 : ACode := .seq (.region k80_o0) k80_44
@[simp, simp ↓] theorem k80_3r : sR k80_3 k80_o2 .ret := yR rfl
@[simp, simp ↓] theorem k80_4r : rC k80_4 (.t 11) k80_3 .skip := zC rfl
@[simp, simp ↓] theorem k80_5r : sR k80_5 k80_o1 k80_4 := yR rfl
@[simp, simp ↓] theorem k80_8r : rC k80_8 (.t 18) .skip (.exit 0) := zC rfl
@[simp, simp ↓] theorem k80_9r : sR k80_9 k80_o4 k80_8 := yR rfl
@[simp, simp ↓] theorem k80_13r : sR k80_13 k80_o7 .ret := yR rfl
@[simp, simp ↓] theorem k80_14r : rC k80_14 (.t 47) k80_13 .skip := zC rfl
@[simp, simp ↓] theorem k80_15r : sR k80_15 k80_o6 k80_14 := yR rfl
@[simp, simp ↓] theorem k80_18r : rC k80_18 (.t 56) .skip (.exit 2) := zC rfl
@[simp, simp ↓] theorem k80_19r : sR k80_19 k80_o9 k80_18 := yR rfl
@[simp, simp ↓] theorem k80_22r : sR k80_22 k80_o11 .ret := yR rfl
@[simp, simp ↓] theorem k80_23r : rC k80_23 (.t 64) k80_22 .skip := zC rfl
@[simp, simp ↓] theorem k80_24r : sR k80_24 k80_o10 k80_23 := yR rfl
@[simp, simp ↓] theorem k80_26r : rR k80_26 k80_o12 := zR rfl
@[simp, simp ↓] theorem k80_27r : sB k80_27 3 k80_24 k80_26 := yB rfl
@[simp, simp ↓] theorem k80_28r : rS k80_28 k80_19 k80_27 := zS rfl
@[simp, simp ↓] theorem k80_29r : rL k80_29 k80_28 := zL rfl
@[simp, simp ↓] theorem k80_30r : rB k80_30 2 k80_29 := zB rfl
@[simp, simp ↓] theorem k80_31r : sR k80_31 k80_o8 k80_30 := yR rfl
@[simp, simp ↓] theorem k80_32r : rS k80_32 k80_15 k80_31 := zS rfl
@[simp, simp ↓] theorem k80_33r : sR k80_33 k80_o5 k80_32 := yR rfl
@[simp, simp ↓] theorem k80_35r : rR k80_35 k80_o13 := zR rfl
@[simp, simp ↓] theorem k80_36r : sB k80_36 1 k80_33 k80_35 := yB rfl
@[simp, simp ↓] theorem k80_37r : rS k80_37 k80_9 k80_36 := zS rfl
@[simp, simp ↓] theorem k80_38r : rL k80_38 k80_37 := zL rfl
@[simp, simp ↓] theorem k80_39r : rB k80_39 0 k80_38 := zB rfl
@[simp, simp ↓] theorem k80_40r : sR k80_40 k80_o3 k80_39 := yR rfl
@[simp, simp ↓] theorem k80_42r : sR k80_42 k80_o14 .ret := yR rfl
@[simp, simp ↓] theorem k80_43r : rS k80_43 k80_40 k80_42 := zS rfl
@[simp, simp ↓] theorem k80_44r : rS k80_44 k80_5 k80_43 := zS rfl
@[simp, simp ↓] theorem k80_45r : sR k80_45 k80_o0 k80_44 := yR rfl
noncomputable abbrev k80_C : Orc → Cx := mkC Tryd.prog [] 80 65 [.tmp 2]
theorem k80_of0 : OfP0 Tryd.prog Tryd.f80 80 65 k80_C k80_45 := @ofP0 _ _ _ _ _ _ _ _ Tryd.func80 (by decide +kernel) rfl (by kernel_rfl) rfl (by kernel_rfl)
theorem l05Ok_s (rs : List (List Int)) (e : List AV) (h : Heap) (hl : ssTot rs ≤ 1048576) : ACalls Tryd.prog 80 [.ip (.snap 1 (rs.map il) :: e)] h (fun v h' => v = .bool (decide (cxOk rs)) ∧ h' = h) := by
  have hf := fit_of_tot hl
  have hn := hf.1
  refine k80_of0 rfl orcS3_p fun I => ?_
  by_cases h48 : rs.length ≤ 48
  · have h48' : ¬ (48 : Int) < rs.length := by omega
    refine Run2.of I 1000 ?_
    simp -implicitDefEqProofs [h48']
    refine Run2.loopE (fun (i : Nat) => [(0, .ip (.snap 1 (rs.map il) :: e)), (3, .int .i64 i)]) (fun i => h) (fun i => rs.length - i) (fun i => i ≤ rs.length ∧ ∀ j (hj : j < rs.length), j < i → cxAt rs j hj) 0 (by simp) rfl ⟨Nat.zero_le _, fun _ _ h => by omega⟩ fun i hi ih => ?_
    by_cases hlt : i < rs.length
    · have hr := hf.2 _ (List.getElem_mem hlt)
      have hbad : ¬ cxAt rs i hlt → ¬ cxOk rs := fun h1 h2 => h1 (h2.1 i hlt)
      have go := fun (h1 : cxAt rs i hlt) => ih (i + 1) ⟨by omega, fun j hj hji => by
        rcases Nat.lt_or_ge j i with h | h
        · exact hi.2 j hj h
        · obtain rfl : j = i := by omega
          exact h1⟩ (by omega)
      clear ih
      by_cases h1 : smOk rs[i]
      · have h4 := h1.1.2
        have key : (0 < i → cmpS rs[i - 1] rs[i] < 0) → Run2 (k80_C (lk orcS3)) [.code k80_28, .inLoop k80_28, .inBlock 2, .inBlock 1, .code k80_35, .inLoop k80_37, .inBlock 0, .code k80_42]
            [(0, .ip (.snap 1 (rs.map il) :: e)), (3, .int .i64 i), (4, .snap 1 (rs[i].map iv)), (5, .int .i64 0)] h fun v h' => v = .bool (decide (cxOk rs)) ∧ h' = h := fun h2 => by
          have hst : cxAt rs i hlt ↔ ∀ f ∈ faces rs[i], f ∈ rs := ⟨fun h => h.2.2, fun h => ⟨h1, h2, h⟩⟩
          generalize hs : rs[i] = s at *
          by_cases hs1 : 1 < s.length
          · rw [faces_all hs1] at hst
            refine Run2.loopE (fun (k : Nat) => [(0, .ip (.snap 1 (rs.map il) :: e)), (3, .int .i64 i), (4, .snap 1 (s.map iv)), (5, .int .i64 k)]) (fun i => h) (fun k => s.length - k) (fun k => k ≤ s.length ∧ ∀ j, j < k → dropK s j ∈ rs) 0 (by simp) rfl ⟨Nat.zero_le _, fun _ h => by omega⟩ fun k hk ih => ?_
            by_cases hkl : k < s.length
            · have hdl := dropK_length hkl
              have go2 := fun (hm : dropK s k ∈ rs) => ih (k + 1) ⟨by omega, fun j hj => by
                rcases Nat.lt_or_ge j k with h | h
                · exact hk.2 j h
                · obtain rfl : j = k := by omega
                  exact hm⟩ (by omega)
              have hb := fun (hm : dropK s k ∉ rs) => hbad fun h => hm (hst.1 h k hkl)
              clear ih
              refine Run2.of I 1000 ?_
              have hs1' : (1 : Int) < s.length := by omega
              simp -implicitDefEqProofs [hkl, hs1', hr, hl, ixS_neg]
              refine ⟨fun h => hb h, fun h => ⟨by omega, by simpa using go2 h⟩⟩
            · obtain rfl : k = s.length := by omega
              have := go (hst.2 fun j hj => hk.2 j hj)
              refine Run2.of I 1000 ?_
              simp -implicitDefEqProofs [hkl]
              refine ⟨by omega, by simpa using this⟩
          · have hno : faces s = [] := by unfold faces; rw [if_neg hs1]
            have := go (hst.2 fun f hf => by rw [hno] at hf; simp at hf)
            by_cases hs0 : 0 < s.length
            · refine Run2.loopE (fun (k : Nat) => [(0, .ip (.snap 1 (rs.map il) :: e)), (3, .int .i64 i), (4, .snap 1 (s.map iv)), (5, .int .i64 k)]) (fun i => h) (fun k => 0) (fun k => k = 0) 0 (by simp) rfl rfl fun k hk ih => ?_
              subst hk
              have hs1' : ¬ (1 : Int) < s.length := by omega
              refine Run2.of I 1000 ?_
              simp -implicitDefEqProofs [hs0, hs1']
              refine ⟨by omega, by simpa using this⟩
            · exact absurd h1.1.1 (by omega)
        rcases Nat.eq_zero_or_pos i with hz | hpos
        · have hz' : ¬ 0 < i := by omega
          have key := key (fun h => by omega)
          refine Run2.of I 1000 ?_
          simp -implicitDefEqProofs [hlt, hr, h1, hz']
          exact key
        · have hlt' : i - 1 < rs.length := by omega
          have hr' := hf.2 _ (List.getElem_mem hlt')
          have hc : ((i : Int) - 1).toNat = i - 1 := by omega
          by_cases h2 : cmpS rs[i - 1] rs[i] < 0
          · have key := key (fun _ => h2)
            refine Run2.of I 1000 ?_
            simp -implicitDefEqProofs [hlt, hlt', hr, hr', h1, hc, h2, hpos]
            exact ⟨by omega, by omega, key⟩
          · have hb := hbad fun h => h2 (h.2.1 hpos)
            refine Run2.of I 1000 ?_
            simp -implicitDefEqProofs [hlt, hlt', hr, hr', h1, hc, h2, hpos, hb]
            omega
      · have hb := hbad fun h => h1 h.1
        refine Run2.of I 1000 ?_
        simp -implicitDefEqProofs [hlt, hr, h1, hb]
    · obtain rfl : i = rs.length := by omega
      have eo : cxOk rs := ⟨fun j hj => hi.2 j hj hj, h48⟩
      refine Run2.of I 1000 ?_
      simp -implicitDefEqProofs [eo]
  · have h48' : (48 : Int) < rs.length := by omega
    have eo : ¬ cxOk rs := fun h => h48 h.2
    refine Run2.of I 1000 ?_
    simp -implicitDefEqProofs [h48', eo]
noncomputable def o_l05Ok : List AV → Option (Prop × AV) := tab (fun (x : LS × List AV) => match x with | (rs, e) => [.ip (.snap 1 (rs.map il) :: e)]) (fun x => match x with | (rs, e) => ssTot rs ≤ 1048576) (fun x => match x with | (rs, e) => .bool (decide (cxOk rs)))
@[simp] theorem o_l05Ok_e (rs : LS) (e : List AV) : o_l05Ok [.ip (.snap 1 (rs.map il) :: e)] = some (ssTot rs ≤ 1048576, .bool (decide (cxOk rs))) := tab_at (enc := fun (x : LS × List AV) => match x with | (rs, e) => [.ip (.snap 1 (rs.map il) :: e)]) (fun x y h => by
  obtain ⟨rs1, e1⟩ := x; obtain ⟨rs2, e2⟩ := y; simp at h; simp [h] <;> omega) _ _ (rs, e)
theorem o_l05Ok_k : Knows Tryd.prog 80 o_l05Ok := tab_knows fun x hx h => by
  obtain ⟨rs, e⟩ := x; exact l05Ok_s rs e h hx
/-- The places of the faces. -/
def facesI (rs : List (List Int)) (s : List Int) : List Int := (faces s).map (ixS rs)
theorem facesI_length (rs : List (List Int)) (s : List Int) : (facesI rs s).length ≤ s.length := by
  unfold facesI; rw [List.length_map]; exact faces_length s
abbrev k82_o0 : List AJ := [.o ⟨(some 4), none, false, .mv (.c .nilsl), (some [0, 1])⟩]
abbrev k82_o1 : List AJ := [.o ⟨(some 8), none, false, .mv (.t 0), none⟩, .o ⟨(some 9), none, false, .nilchk (.t 8), none⟩, .o ⟨(some 10), none, false, .fieldA 0 (.t 9), none⟩, .o ⟨(some 11), none, false, .load 1 false (.t 10), none⟩, .o ⟨(some 12), none, false, .mv (.t 1), none⟩, .o ⟨(some 13), none, false, .idxA 1 (.t 11) (.t 12), none⟩, .o ⟨(some 14), none, false, .load 1 false (.t 13), none⟩, .o ⟨(some 5), none, false, .mv (.t 14), (some [0, 5])⟩]
abbrev k82_o2 : List AJ := [.e 15 1 none, .o ⟨(some 6), none, false, .mv (.t 15), (some [0, 5, 6])⟩]
abbrev k82_o3 : List AJ := [.o ⟨(some 7), none, false, .mv (.c (.int .i64 0)), (some [0, 5, 6, 7])⟩]
abbrev k82_o4 : List AJ := [.o ⟨(some 16), none, false, .mv (.t 7), none⟩, .o ⟨(some 17), none, false, .mv (.t 5), none⟩, .o ⟨(some 18), none, false, .len (.t 17), none⟩, .o ⟨(some 19), none, false, .bin .lss (.t 16) (.t 18), none⟩, .o ⟨(some 20), none, false, .mv (.t 19), none⟩, .o ⟨(some 21), (some (20, true)), false, .mv (.t 5), none⟩, .o ⟨(some 22), (some (20, true)), false, .len (.t 21), none⟩, .o ⟨(some 23), (some (20, true)), false, .bin .gtr (.t 22) (.c (.int .i64 1)), none⟩, .o ⟨(some 24), none, false, .pick (.t 20) (.t 23) (.c (.bool false)), (some [0, 5, 6, 7, 24])⟩]
def k82_5 : ACode := .cond (.t 24) .skip (.exit 0)
def k82_6 : ACode := .seq (.region k82_o4) k82_5
abbrev k82_o5 : List AJ := [.o ⟨(some 27), none, false, .mv (.t 6), none⟩, .o ⟨(some 28), none, false, .mv (.t 0), none⟩, .o ⟨(some 29), none, false, .mv (.t 5), none⟩, .o ⟨(some 30), none, false, .mv (.t 7), none⟩, .o ⟨(some 31), none, false, .call 99 [(.t 29), (.t 30)], none⟩, .o ⟨(some 32), none, false, .call 98 [(.t 28), (.t 31)], none⟩, .o ⟨(some 33), none, false, .bsl false 1 [(.t 32)], none⟩, .o ⟨(some 34), none, false, .append 1 8 (.t 27) (.t 33), none⟩, .o ⟨(some 6), none, false, .mv (.t 34), (some [0, 5, 6, 7])⟩]
def k82_7 : ACode := .region k82_o5
abbrev k82_o6 : List AJ := [.o ⟨(some 25), none, false, .mv (.t 7), none⟩, .o ⟨(some 26), none, true, .bin .add (.t 25) (.c (.int .i64 1)), none⟩, .o ⟨(some 7), none, false, .mv (.t 26), (some [0, 5, 6, 7])⟩]
def k82_9 : ACode := .region k82_o6
def k82_10 : ACode := .seq (.block 1 k82_7) k82_9
def k82_11 : ACode := .seq k82_6 k82_10
def k82_12 : ACode := .loop k82_11
def k82_13 : ACode := .block 0 k82_12
def k82_14 : ACode := .seq (.region k82_o3) k82_13
abbrev k82_o7 : List AJ := [.o ⟨(some 35), none, false, .mv (.t 6), none⟩, .o ⟨(some 4), none, false, .mv (.t 35), (some [4])⟩]
def k82_16 : ACode := .seq (.region k82_o7) .ret
def k82_17 : ACode := .seq k82_14 k82_16
def k82_18 : ACode := .seq (.region k82_o2) k82_17
def k82_19 : ACode := .seq (.region k82_o1) k82_18
def k82_20 : ACode := .seq (.region k82_o0) k82_19
@[simp, simp ↓] theorem k82_5r : rC k82_5 (.t 24) .skip (.exit 0) := zC rfl
@[simp, simp ↓] theorem k82_6r : sR k82_6 k82_o4 k82_5 := yR rfl
@[simp, simp ↓] theorem k82_7r : rR k82_7 k82_o5 := zR rfl
@[simp, simp ↓] theorem k82_9r : rR k82_9 k82_o6 := zR rfl
@[simp, simp ↓] theorem k82_10r : sB k82_10 1 k82_7 k82_9 := yB rfl
@[simp, simp ↓] theorem k82_11r : rS k82_11 k82_6 k82_10 := zS rfl
@[simp, simp ↓] theorem k82_12r : rL k82_12 k82_11 := zL rfl
@[simp, simp ↓] theorem k82_13r : rB k82_13 0 k82_12 := zB rfl
@[simp, simp ↓] theorem k82_14r : sR k82_14 k82_o3 k82_13 := yR rfl
@[simp, simp ↓] theorem k82_16r : sR k82_16 k82_o7 .ret := yR rfl
@[simp, simp ↓] theorem k82_17r : rS k82_17 k82_14 k82_16 := zS rfl
@[simp, simp ↓] theorem k82_18r : sR k82_18 k82_o2 k82_17 := yR rfl
@[simp, simp ↓] theorem k82_19r : sR k82_19 k82_o1 k82_18 := yR rfl
@[simp, simp ↓] theorem k82_20r : sR k82_20 k82_o0 k82_19 := yR rfl
noncomputable abbrev k82_C : Orc → Cx := mkC Tryd.prog [15] 82 36 [.tmp 4]
theorem k82_of : OfP Tryd.prog Tryd.f82 82 36 k82_C k82_20 := @ofP _ _ _ _ _ _ _ _ Tryd.func82 (by decide +kernel) rfl (by kernel_rfl) rfl (by kernel_rfl)
theorem l05Faces_s (rs : List (List Int)) (e : List AV) (i : Nat) (h : Heap) (hl : ssTot rs ≤ 1048576) (hi : i < rs.length) : ACalls Tryd.prog 82 [.ip (.snap 1 (rs.map il) :: e), .int .i64 i] h (fun v h' => v = .snap 1 ((facesI rs rs[i]).map iv) ∧ h' = h) := by
  have hf := fit_of_tot hl
  have hr := hf.2 _ (List.getElem_mem hi)
  refine k82_of rfl orcS3_p fun I => ?_
  refine Run2.of I 1000 ?_
  simp -implicitDefEqProofs [hi]
  generalize hs : rs[i] = s at *
  by_cases hs1 : 1 < s.length
  · have hs1' : (1 : Int) < s.length := by omega
    refine Run2.loopE (α := Nat × AV × Heap) (fun p => [(0, .ip (.snap 1 (rs.map il) :: e)), (5, .snap 1 (s.map iv)), (6, p.2.1), (7, .int .i64 (p.1 : Nat))]) (fun p => p.2.2 ++ h) (fun p => s.length - p.1) (fun p => p.1 ≤ s.length ∧ Grow 1 p.2.1 (((List.range p.1).map fun k => ixS rs (dropK s k)).map iv) p.2.2) (0, .emp, []) (by simp) rfl ⟨Nat.zero_le _, by simpa using Grow.emp⟩ ?_
    rintro ⟨k, w, hp⟩ ⟨hk, hg⟩ ih
    simp only at hk hg
    have hcell := hg.cell
    by_cases hlt : k < s.length
    · have go := fun w' hp' (g : Grow 1 w' (((List.range k).map fun k => ixS rs (dropK s k)).map iv ++ [iv (ixS rs (dropK s k))]) hp') => ih (k + 1, w', hp') ⟨hlt, by
        simp only
        rw [List.range_succ, List.map_append, List.map_append]
        exact g⟩ (by simp; omega)
      clear ih
      refine Run2.of I 1000 ?_
      simp -implicitDefEqProofs [hlt, hs1', hcell, hr, hl]
      refine hg.app (by simp; omega) (by simp) fun w' hp' hg' => ?_
      have hcell' := hg'.cell
      have := go w' hp' hg'
      simp -implicitDefEqProofs [hcell']
      refine ⟨by omega, ?_⟩
      simpa using this
    · obtain rfl : k = s.length := by omega
      refine Run2.of I 1000 ?_
      simp -implicitDefEqProofs [hlt, hcell]
      refine hg.froze (fun x => x) (fun _ _ _ => rfl) (fun _ _ h => h) (.base ⟨?_, rfl⟩)
      simp [facesI, faces, hs1]
  · have hno : facesI rs s = [] := by unfold facesI faces; rw [if_neg hs1]; rfl
    refine Run2.loopE (fun (k : Nat) => [(0, .ip (.snap 1 (rs.map il) :: e)), (5, .snap 1 (s.map iv)), (6, .emp), (7, .int .i64 (k : Nat))]) (fun i => h) (fun k => 0) (fun k => k = 0) 0 (by simp) rfl rfl fun k hk ih => ?_
    subst hk
    have hs1' : ¬ (1 : Int) < s.length := by omega
    refine Run2.of I 1000 ?_
    by_cases hs0 : 0 < s.length
    · simp -implicitDefEqProofs [hs0, hs1', hno]
      exact .wk (Wk.emp 1) (.base ⟨rfl, rfl⟩)
    · simp -implicitDefEqProofs [hs0, hs1', hno]
      exact .wk (Wk.emp 1) (.base ⟨rfl, rfl⟩)
noncomputable def o_l05Faces : List AV → Option (Prop × AV) := tab (fun (x : LS × List AV × Nat) => match x with | (rs, e, i) => [.ip (.snap 1 (rs.map il) :: e), .int .i64 i]) (fun x => match x with | (rs, e, i) => (ssTot rs ≤ 1048576 ∧ i < rs.length)) (fun x => match x with | (rs, e, i) => .snap 1 ((facesI rs (rs.getD i [])).map iv))
@[simp] theorem o_l05Faces_e (rs : LS) (e : List AV) (i : Nat) : o_l05Faces [.ip (.snap 1 (rs.map il) :: e), .int .i64 i] = some ((ssTot rs ≤ 1048576 ∧ i < rs.length), .snap 1 ((facesI rs (rs.getD i [])).map iv)) := tab_at (enc := fun (x : LS × List AV × Nat) => match x with | (rs, e, i) => [.ip (.snap 1 (rs.map il) :: e), .int .i64 i]) (fun x y h => by
  obtain ⟨rs1, e1, i1⟩ := x; obtain ⟨rs2, e2, i2⟩ := y; simp at h; simp [h] <;> omega) _ _ (rs, e, i)
theorem o_l05Faces_k : Knows Tryd.prog 82 o_l05Faces := tab_knows fun x hx h => by
  obtain ⟨rs, e, i⟩ := x; exact by have := l05Faces_s rs e i h hx.1 hx.2; simpa [hx.2] using this
def colOk (l : List Int) (n p : Int) : Prop := (l.length : Int) = n ∧ ∀ t ∈ l, 0 ≤ t ∧ t ≤ p - 1
noncomputable instance (l : List Int) (n p : Int) : Decidable (colOk l n p) := Classical.propDecidable _
abbrev k81_o0 : List AJ := [.o ⟨(some 6), none, false, .mv (.c (.bool false)), (some [0, 1, 2])⟩]
abbrev k81_o1 : List AJ := [.o ⟨(some 7), none, false, .mv (.c (.int .i64 0)), (some [0, 1, 2, 7])⟩]
abbrev k81_o2 : List AJ := [.o ⟨(some 8), none, false, .mv (.t 7), none⟩, .o ⟨(some 9), none, false, .mv (.t 0), none⟩, .o ⟨(some 10), none, false, .len (.t 9), none⟩, .o ⟨(some 11), none, false, .bin .lss (.t 8) (.t 10), (some [0, 1, 2, 7, 11])⟩]
def k81_3 : ACode := .cond (.t 11) .skip (.exit 0)
def k81_4 : ACode := .seq (.region k81_o2) k81_3
abbrev k81_o3 : List AJ := [.o ⟨(some 14), none, false, .mv (.t 0), none⟩, .o ⟨(some 15), none, false, .mv (.t 7), none⟩, .o ⟨(some 16), none, false, .idxA 1 (.t 14) (.t 15), none⟩, .o ⟨(some 17), none, false, .load 1 false (.t 16), none⟩, .o ⟨(some 18), none, false, .mv (.t 2), none⟩, .o ⟨(some 19), none, true, .bin .sub (.t 18) (.c (.int .i64 1)), none⟩, .o ⟨(some 20), none, false, .call 75 [(.t 17), (.c (.int .i64 0)), (.t 19)], none⟩, .o ⟨(some 21), none, false, .un .not (.t 20), (some [0, 1, 2, 7, 21])⟩]
abbrev k81_o4 : List AJ := [.o ⟨(some 6), none, false, .mv (.c (.bool false)), (some [6])⟩]
def k81_7 : ACode := .seq (.region k81_o4) .ret
def k81_8 : ACode := .cond (.t 21) k81_7 .skip
def k81_9 : ACode := .seq (.region k81_o3) k81_8
abbrev k81_o5 : List AJ := [.o ⟨(some 12), none, false, .mv (.t 7), none⟩, .o ⟨(some 13), none, true, .bin .add (.t 12) (.c (.int .i64 1)), none⟩, .o ⟨(some 7), none, false, .mv (.t 13), (some [0, 1, 2, 7])⟩]
def k81_11 : ACode := .region k81_o5
def k81_12 : ACode := .seq (.block 1 k81_9) k81_11
def k81_13 : ACode := .seq k81_4 k81_12
def k81_14 : ACode := .loop k81_13
def k81_15 : ACode := .block 0 k81_14
def k81_16 : ACode := .seq (.region k81_o1) k81_15
abbrev k81_o6 : List AJ := [.o ⟨(some 22), none, false, .mv (.t 0), none⟩, .o ⟨(some 23), none, false, .len (.t 22), none⟩, .o ⟨(some 24), none, false, .mv (.t 1), none⟩, .o ⟨(some 25), none, false, .bin .eql (.t 23) (.t 24), none⟩, .o ⟨(some 6), none, false, .mv (.t 25), (some [6])⟩]
def k81_18 : ACode := .seq (.region k81_o6) .ret
def k81_19 : ACode := .seq k81_16 k81_18
def k81_20 : ACode := .seq (.region k81_o0) k81_19
@[simp, simp ↓] theorem k81_3r : rC k81_3 (.t 11) .skip (.exit 0) := zC rfl
@[simp, simp ↓] theorem k81_4r : sR k81_4 k81_o2 k81_3 := yR rfl
@[simp, simp ↓] theorem k81_7r : sR k81_7 k81_o4 .ret := yR rfl
@[simp, simp ↓] theorem k81_8r : rC k81_8 (.t 21) k81_7 .skip := zC rfl
@[simp, simp ↓] theorem k81_9r : sR k81_9 k81_o3 k81_8 := yR rfl
@[simp, simp ↓] theorem k81_11r : rR k81_11 k81_o5 := zR rfl
@[simp, simp ↓] theorem k81_12r : sB k81_12 1 k81_9 k81_11 := yB rfl
@[simp, simp ↓] theorem k81_13r : rS k81_13 k81_4 k81_12 := zS rfl
@[simp, simp ↓] theorem k81_14r : rL k81_14 k81_13 := zL rfl
@[simp, simp ↓] theorem k81_15r : rB k81_15 0 k81_14 := zB rfl
@[simp, simp ↓] theorem k81_16r : sR k81_16 k81_o1 k81_15 := yR rfl
@[simp, simp ↓] theorem k81_18r : sR k81_18 k81_o6 .ret := yR rfl
@[simp, simp ↓] theorem k81_19r : rS k81_19 k81_16 k81_18 := zS rfl
@[simp, simp ↓] theorem k81_20r : sR k81_20 k81_o0 k81_19 := yR rfl
noncomputable abbrev k81_C : Orc → Cx := mkC Tryd.prog [] 81 26 [.tmp 6]
theorem k81_of0 : OfP0 Tryd.prog Tryd.f81 81 26 k81_C k81_20 := @ofP0 _ _ _ _ _ _ _ _ Tryd.func81 (by decide +kernel) rfl (by kernel_rfl) rfl (by kernel_rfl)
theorem l03Column_s (l : List Int) (n p : Int) (h : Heap) (hl : l.length ≤ 1048576) (hp : 0 ≤ p ∧ p ≤ 1048576) : ACalls Tryd.prog 81 [.snap 1 (l.map iv), .int .i64 n, .int .i64 p] h (fun v h' => v = .bool (decide (colOk l n p)) ∧ h' = h) := by
  refine k81_of0 rfl orcS1_p fun I => ?_
  refine Run2.of I 1000 ?_
  simp -implicitDefEqProofs
  refine Run2.loopE (fun (i : Nat) => [(0, .snap 1 (l.map iv)), (1, .int .i64 n), (2, .int .i64 p), (7, .int .i64 i)]) (fun i => h) (fun i => l.length - i) (fun i => i ≤ l.length ∧ ∀ j (hj : j < l.length), j < i → 0 ≤ l[j] ∧ l[j] ≤ p - 1) 0 (by simp) rfl ⟨Nat.zero_le _, fun _ _ h => by omega⟩ fun i hi ih => ?_
  by_cases hlt : i < l.length
  · have go := fun (h1 : 0 ≤ l[i] ∧ l[i] ≤ p - 1) => ih (i + 1) ⟨by omega, fun j hj hji => by
      rcases Nat.lt_or_ge j i with h | h
      · exact hi.2 j hj h
      · obtain rfl : j = i := by omega
        exact h1⟩ (by omega)
    have hb := fun (h1 : ¬ (0 ≤ l[i] ∧ l[i] ≤ p - 1)) => show ¬ colOk l n p from fun h => h1 (h.2 _ (List.getElem_mem hlt))
    clear ih
    by_cases h1 : 0 ≤ l[i] ∧ l[i] ≤ p - 1
    · have := go h1
      refine Run2.of I 1000 ?_
      simp -implicitDefEqProofs [hlt, h1.1, h1.2]
      refine ⟨by omega, by omega, by simpa using this⟩
    · have hb := hb h1
      have h1' : (decide (0 ≤ l[i]) && decide (l[i] ≤ p - 1)) = false := by rw [Bool.eq_false_iff]; simpa using h1
      refine Run2.of I 1000 ?_
      simp -implicitDefEqProofs [hlt, h1', hb]
      omega
  · obtain rfl : i = l.length := by omega
    have h1 : ∀ t ∈ l, 0 ≤ t ∧ t ≤ p - 1 := fun t ht => by
      obtain ⟨j, hj, rfl⟩ := List.mem_iff_getElem.1 ht
      exact hi.2 j hj hj
    have e : colOk l n p ↔ (l.length : Int) = n := ⟨fun h => h.1, fun h => ⟨h, h1⟩⟩
    refine Run2.of I 1000 ?_
    simp -implicitDefEqProofs [e]
noncomputable def o_l03Column : List AV → Option (Prop × AV) := tab (fun (x : List Int × Int × Int) => match x with | (l, n, p) => [.snap 1 (l.map iv), .int .i64 n, .int .i64 p]) (fun x => match x with | (l, n, p) => (l.length ≤ 1048576 ∧ 0 ≤ p ∧ p ≤ 1048576)) (fun x => match x with | (l, n, p) => .bool (decide (colOk l n p)))
@[simp] theorem o_l03Column_e (l : List Int) (n : Int) (p : Int) : o_l03Column [.snap 1 (l.map iv), .int .i64 n, .int .i64 p] = some ((l.length ≤ 1048576 ∧ 0 ≤ p ∧ p ≤ 1048576), .bool (decide (colOk l n p))) := tab_at (enc := fun (x : List Int × Int × Int) => match x with | (l, n, p) => [.snap 1 (l.map iv), .int .i64 n, .int .i64 p]) (fun x y h => by
  obtain ⟨l1, n1, p1⟩ := x; obtain ⟨l2, n2, p2⟩ := y; simp at h; simp [h] <;> omega) _ _ (l, n, p)
theorem o_l03Column_k : Knows Tryd.prog 81 o_l03Column := tab_knows fun x hx h => by
  obtain ⟨l, n, p⟩ := x; exact l03Column_s l n p h hx.1 hx.2
noncomputable def orcS4 : List (Nat × (List AV → Option (Prop × AV))) := (80, o_l05Ok) :: (82, o_l05Faces) :: (81, o_l03Column) :: orcS3
theorem orcS4_p : Pure Tryd.prog (lk orcS4) := (lk_pure o_l05Ok_k (lk_pure o_l05Faces_k (lk_pure o_l03Column_k orcS3_p)))
@[simp] theorem orcS4_l (b : Bool) (g : FuncId) (l : List AV) : lk orcS4 b g l = if g = 80 then o_l05Ok l else if g = 82 then o_l05Faces l else if g = 81 then o_l03Column l else lk orcS3 b g l := nr rfl
def Fil.valid' (x : Fil) : Prop := cxOk x.rs ∧ colOk x.ts x.rs.length 1001 ∧ ∀ k (h : k < x.rs.length), x.faceOk k h
theorem Fil.valid_iff (x : Fil) : x.valid ↔ x.valid' := by
  unfold Fil.valid Fil.valid' colOk
  constructor
  · rintro ⟨h1, ⟨h2, h3⟩, h4⟩; exact ⟨h1, ⟨by omega, fun t ht => by have := h3 t ht; omega⟩, h4⟩
  · rintro ⟨h1, ⟨h2, h3⟩, h4⟩; exact ⟨h1, ⟨by omega, fun t ht => by have := h3 t ht; omega⟩, h4⟩
theorem faceOk_iff (x : Fil) (k : Nat) (h : k < x.rs.length) : x.faceOk k h ↔ ∀ j (hj : j < (facesI x.rs x.rs[k]).length), x.ts.getD ((facesI x.rs x.rs[k])[j]).toNat 0 ≤ x.ts.getD k 0 := by
  unfold Fil.faceOk facesI
  constructor
  · intro h1 j hj
    have := h1 ((faces x.rs[k])[j]'(by simpa using hj)) (List.getElem_mem _)
    simpa using this
  · intro h1 f hf
    obtain ⟨j, hj, rfl⟩ := List.mem_iff_getElem.1 hf
    have := h1 j (by simpa using hj)
    simpa using this
theorem facesI_in {rs : List (List Int)} (h : cxOk rs) {i : Nat} (hi : i < rs.length) : ∀ k ∈ facesI rs rs[i], 0 ≤ k ∧ k < rs.length := by
  intro k hk
  unfold facesI at hk
  obtain ⟨f, hf, rfl⟩ := List.mem_map.1 hk
  obtain ⟨j, hj, _, e⟩ := ixS_mem ((h.1 i hi).2.2 f hf)
  omega
abbrev k50_o0 : List AJ := [.o ⟨(some 2), none, false, .mv (.c (.bool false)), (some [0])⟩]
abbrev k50_o1 : List AI := [⟨(some 6), none, false, .mv (.t 0), none⟩, ⟨(some 7), none, false, .nilchk (.t 6), none⟩, ⟨(some 8), none, false, .fieldA 0 (.t 7), none⟩, ⟨(some 9), none, false, .call 80 [(.t 8)], none⟩, ⟨(some 10), none, false, .un .not (.t 9), none⟩, ⟨(some 11), none, false, .mv (.t 10), none⟩, ⟨(some 12), (some (11, false)), false, .mv (.t 0), none⟩, ⟨(some 13), (some (11, false)), false, .nilchk (.t 12), none⟩, ⟨(some 14), (some (11, false)), false, .fieldA 1 (.t 13), none⟩, ⟨(some 15), (some (11, false)), false, .load 1 false (.t 14), (some [0, 11, 15])⟩, ⟨(some 16), (some (11, false)), false, .mv (.t 0), none⟩, ⟨(some 17), (some (11, false)), false, .nilchk (.t 16), none⟩, ⟨(some 18), (some (11, false)), false, .fieldA 0 (.t 17), none⟩, ⟨(some 19), (some (11, false)), false, .fieldA 0 (.t 18), none⟩, ⟨(some 20), (some (11, false)), false, .load 1 false (.t 19), none⟩, ⟨(some 21), (some (11, false)), false, .len (.t 20), none⟩, ⟨(some 22), (some (11, false)), false, .call 81 [(.t 15), (.t 21), (.c (.int .i64 1001))], (some [0, 11, 22])⟩, ⟨(some 23), (some (11, false)), false, .un .not (.t 22), none⟩, ⟨(some 24), none, false, .pick (.t 11) (.c (.bool true)) (.t 23), (some [0, 24])⟩]
abbrev k50_o2 : List AJ := [.o ⟨(some 2), none, false, .mv (.c (.bool false)), (some [2])⟩]
def k50_3 : ACode := .seq (.region k50_o2) .ret
def k50_4 : ACode := .cond (.t 24) k50_3 .skip
def k50_5 : ACode := .seq (.draw k50_o1 [] rfl) k50_4
abbrev k50_o3 : List AJ := [.o ⟨(some 3), none, false, .mv (.c (.int .i64 0)), (some [0, 3])⟩]
abbrev k50_o4 : List AJ := [.o ⟨(some 25), none, false, .mv (.t 3), none⟩, .o ⟨(some 26), none, false, .mv (.t 0), none⟩, .o ⟨(some 27), none, false, .nilchk (.t 26), none⟩, .o ⟨(some 28), none, false, .fieldA 1 (.t 27), none⟩, .o ⟨(some 29), none, false, .load 1 false (.t 28), none⟩, .o ⟨(some 30), none, false, .len (.t 29), none⟩, .o ⟨(some 31), none, false, .bin .lss (.t 25) (.t 30), (some [0, 3, 31])⟩]
def k50_8 : ACode := .cond (.t 31) .skip (.exit 0)
def k50_9 : ACode := .seq (.region k50_o4) k50_8
abbrev k50_o5 : List AJ := [.o ⟨(some 34), none, false, .mv (.t 0), none⟩, .o ⟨(some 35), none, false, .nilchk (.t 34), none⟩, .o ⟨(some 36), none, false, .fieldA 0 (.t 35), none⟩, .o ⟨(some 37), none, false, .mv (.t 3), none⟩, .o ⟨(some 38), none, false, .call 82 [(.t 36), (.t 37)], none⟩, .o ⟨(some 4), none, false, .mv (.t 38), (some [0, 3, 4])⟩]
abbrev k50_o6 : List AJ := [.o ⟨(some 5), none, false, .mv (.c (.int .i64 0)), (some [0, 3, 4, 5])⟩]
abbrev k50_o7 : List AJ := [.o ⟨(some 39), none, false, .mv (.t 5), none⟩, .o ⟨(some 40), none, false, .mv (.t 4), none⟩, .o ⟨(some 41), none, false, .len (.t 40), none⟩, .o ⟨(some 42), none, false, .bin .lss (.t 39) (.t 41), (some [0, 3, 4, 5, 42])⟩]
def k50_13 : ACode := .cond (.t 42) .skip (.exit 2)
def k50_14 : ACode := .seq (.region k50_o7) k50_13
abbrev k50_o8 : List AI := [⟨(some 45), none, false, .mv (.t 0), none⟩, ⟨(some 46), none, false, .nilchk (.t 45), none⟩, ⟨(some 47), none, false, .fieldA 1 (.t 46), none⟩, ⟨(some 48), none, false, .load 1 false (.t 47), none⟩, ⟨(some 49), none, false, .mv (.t 4), none⟩, ⟨(some 50), none, false, .mv (.t 5), none⟩, ⟨(some 51), none, false, .idxA 1 (.t 49) (.t 50), none⟩, ⟨(some 52), none, false, .load 1 false (.t 51), none⟩, ⟨(some 53), none, false, .idxA 1 (.t 48) (.t 52), none⟩, ⟨(some 54), none, false, .load 1 false (.t 53), none⟩, ⟨(some 55), none, false, .mv (.t 0), none⟩, ⟨(some 56), none, false, .nilchk (.t 55), none⟩, ⟨(some 57), none, false, .fieldA 1 (.t 56), none⟩, ⟨(some 58), none, false, .load 1 false (.t 57), (some [0, 3, 4, 5, 54, 58])⟩, ⟨(some 59), none, false, .mv (.t 3), none⟩, ⟨(some 60), none, false, .idxA 1 (.t 58) (.t 59), none⟩, ⟨(some 61), none, false, .load 1 false (.t 60), none⟩, ⟨(some 62), none, false, .bin .gtr (.t 54) (.t 61), (some [0, 3, 4, 5, 62])⟩]
abbrev k50_o9 : List AJ := [.o ⟨(some 2), none, false, .mv (.c (.bool false)), (some [2])⟩]
def k50_17 : ACode := .seq (.region k50_o9) .ret
def k50_18 : ACode := .cond (.t 62) k50_17 .skip
def k50_19 : ACode := .seq (.draw k50_o8 [] rfl) k50_18
abbrev k50_o10 : List AJ := [.o ⟨(some 43), none, false, .mv (.t 5), none⟩, .o ⟨(some 44), none, true, .bin .add (.t 43) (.c (.int .i64 1)), none⟩, .o ⟨(some 5), none, false, .mv (.t 44), (some [0, 3, 4, 5])⟩]
def k50_21 : ACode := .region k50_o10
def k50_22 : ACode := .seq (.block 3 k50_19) k50_21
def k50_23 : ACode := .seq k50_14 k50_22
def k50_24 : ACode := .loop k50_23
def k50_25 : ACode := .block 2 k50_24
def k50_26 : ACode := .seq (.region k50_o6) k50_25
def k50_27 : ACode := .seq (.region k50_o5) k50_26
abbrev k50_o11 : List AJ := [.o ⟨(some 32), none, false, .mv (.t 3), none⟩, .o ⟨(some 33), none, true, .bin .add (.t 32) (.c (.int .i64 1)), none⟩, .o ⟨(some 3), none, false, .mv (.t 33), (some [0, 3])⟩]
def k50_29 : ACode := .region k50_o11
def k50_30 : ACode := .seq (.block 1 k50_27) k50_29
def k50_31 : ACode := .seq k50_9 k50_30
def k50_32 : ACode := .loop k50_31
def k50_33 : ACode := .block 0 k50_32
def k50_34 : ACode := .seq (.region k50_o3) k50_33
abbrev k50_o12 : List AJ := [.o ⟨(some 2), none, false, .mv (.c (.bool true)), (some [2])⟩]
def k50_36 : ACode := .seq (.region k50_o12) .ret
def k50_37 : ACode := .seq k50_34 k50_36
def k50_38 : ACode := .seq k50_5 k50_37
def k50_39 : ACode := .seq (.region k50_o0) k50_38
@[simp, simp ↓] theorem k50_3r : sR k50_3 k50_o2 .ret := yR rfl
@[simp, simp ↓] theorem k50_4r : rC k50_4 (.t 24) k50_3 .skip := zC rfl
@[simp, simp ↓] theorem k50_5r : sD k50_5 k50_o1 [] k50_4 := yD rfl
@[simp, simp ↓] theorem k50_8r : rC k50_8 (.t 31) .skip (.exit 0) := zC rfl
@[simp, simp ↓] theorem k50_9r : sR k50_9 k50_o4 k50_8 := yR rfl
@[simp, simp ↓] theorem k50_13r : rC k50_13 (.t 42) .skip (.exit 2) := zC rfl
@[simp, simp ↓] theorem k50_14r : sR k50_14 k50_o7 k50_13 := yR rfl
@[simp, simp ↓] theorem k50_17r : sR k50_17 k50_o9 .ret := yR rfl
@[simp, simp ↓] theorem k50_18r : rC k50_18 (.t 62) k50_17 .skip := zC rfl
@[simp, simp ↓] theorem k50_19r : sD k50_19 k50_o8 [] k50_18 := yD rfl
@[simp, simp ↓] theorem k50_21r : rR k50_21 k50_o10 := zR rfl
@[simp, simp ↓] theorem k50_22r : sB k50_22 3 k50_19 k50_21 := yB rfl
@[simp, simp ↓] theorem k50_23r : rS k50_23 k50_14 k50_22 := zS rfl
@[simp, simp ↓] theorem k50_24r : rL k50_24 k50_23 := zL rfl
@[simp, simp ↓] theorem k50_25r : rB k50_25 2 k50_24 := zB rfl
@[simp, simp ↓] theorem k50_26r : sR k50_26 k50_o6 k50_25 := yR rfl
@[simp, simp ↓] theorem k50_27r : sR k50_27 k50_o5 k50_26 := yR rfl
@[simp, simp ↓] theorem k50_29r : rR k50_29 k50_o11 := zR rfl
@[simp, simp ↓] theorem k50_30r : sB k50_30 1 k50_27 k50_29 := yB rfl
@[simp, simp ↓] theorem k50_31r : rS k50_31 k50_9 k50_30 := zS rfl
@[simp, simp ↓] theorem k50_32r : rL k50_32 k50_31 := zL rfl
@[simp, simp ↓] theorem k50_33r : rB k50_33 0 k50_32 := zB rfl
@[simp, simp ↓] theorem k50_34r : sR k50_34 k50_o3 k50_33 := yR rfl
@[simp, simp ↓] theorem k50_36r : sR k50_36 k50_o12 .ret := yR rfl
@[simp, simp ↓] theorem k50_37r : rS k50_37 k50_34 k50_36 := zS rfl
@[simp, simp ↓] theorem k50_38r : rS k50_38 k50_5 k50_37 := zS rfl
@[simp, simp ↓] theorem k50_39r : sR k50_39 k50_o0 k50_38 := yR rfl
noncomputable abbrev k50_C : Orc → Cx := mkC Tryd.prog [] 50 63 [.tmp 2]
theorem k50_of0 : OfP0 Tryd.prog Tryd.f50 50 63 k50_C k50_39 := @ofP0 _ _ _ _ _ _ _ _ Tryd.func50 (by decide +kernel) rfl (by kernel_rfl) rfl (by kernel_rfl)
theorem l21Ok_s (x : Fil) (h : Heap) (hl : x.tot ≤ 1048576) : ACalls Tryd.prog 50 [.ip [.snap 1 (x.rs.map il), .snap 1 (x.ts.map iv)]] h (fun v h' => v = .bool (decide x.valid) ∧ h' = h) := by
  obtain ⟨hl1, hl2⟩ := x.lens hl
  have hn := (fit_of_tot hl1).1
  refine k50_of0 rfl orcS4_p fun I => ?_
  have hv := x.valid_iff
  unfold Fil.valid' at hv
  by_cases h1 : cxOk x.rs
  · by_cases h2 : colOk x.ts x.rs.length 1001
    · have hv : x.valid ↔ ∀ k (h : k < x.rs.length), x.faceOk k h := by rw [hv]; simp [h1, h2]
      have htl : x.ts.length = x.rs.length := by have := h2.1; omega
      refine Run2.of I 1000 ?_
      simp -implicitDefEqProofs [hl1, hl2, h1, h2]
      refine Run2.loopE (fun (i : Nat) => [(0, .ip [.snap 1 (x.rs.map il), .snap 1 (x.ts.map iv)]), (3, .int .i64 i)]) (fun i => h) (fun i => x.ts.length - i) (fun i => i ≤ x.ts.length ∧ ∀ j (hj : j < x.rs.length), j < i → x.faceOk j hj) 0 (by simp) rfl ⟨Nat.zero_le _, fun _ _ h => by omega⟩ fun i hi ih => ?_
      by_cases hlt : i < x.ts.length
      · have hlt' : i < x.rs.length := by omega
        have hget : x.rs.getD i [] = x.rs[i] := by simp [hlt']
        have hin := facesI_in h1 hlt'
        have hfo := faceOk_iff x i hlt'
        have go := fun (h1 : x.faceOk i hlt') => ih (i + 1) ⟨by omega, fun j hj hji => by
          rcases Nat.lt_or_ge j i with h | h
          · exact hi.2 j hj h
          · obtain rfl : j = i := by omega
            exact h1⟩ (by omega)
        have hbad : ¬ x.faceOk i hlt' → ¬ x.valid := fun h1 h2 => h1 (hv.1 h2 i hlt')
        have hfl := facesI_length x.rs x.rs[i]
        have hr := (fit_of_tot hl1).2 _ (List.getElem_mem hlt')
        rw [hfo] at go hbad
        have hti : x.ts.getD i 0 = x.ts[i] := by simp [hlt]
        rw [hti] at go hbad
        clear ih hfo
        refine Run2.of I 1000 ?_
        simp -implicitDefEqProofs [hlt, hlt', hl1, hget]
        generalize facesI x.rs x.rs[i] = fs at *
        refine Run2.loopE (fun (k : Nat) => [(0, .ip [.snap 1 (x.rs.map il), .snap 1 (x.ts.map iv)]), (3, .int .i64 i), (4, .snap 1 (fs.map iv)), (5, .int .i64 k)]) (fun i => h) (fun k => fs.length - k) (fun k => k ≤ fs.length ∧ ∀ j (hj : j < fs.length), j < k → x.ts.getD fs[j].toNat 0 ≤ x.ts[i]) 0 (by simp) rfl ⟨Nat.zero_le _, fun _ _ h => by omega⟩ fun k hk ih => ?_
        by_cases hkl : k < fs.length
        · have hfk := hin _ (List.getElem_mem hkl)
          obtain ⟨m, hm⟩ := Int.eq_ofNat_of_zero_le hfk.1
          rw [hm] at hfk
          have hml : m < x.ts.length := by omega
          have htm : x.ts.getD fs[k].toNat 0 = x.ts[m] := by rw [hm]; simp [hml]
          have go2 := fun (hm2 : x.ts[m] ≤ x.ts[i]) => ih (k + 1) ⟨by omega, fun j hj hjk => by
            rcases Nat.lt_or_ge j k with h | h
            · exact hk.2 j hj h
            · obtain rfl : j = k := by omega
              rw [htm]; exact hm2⟩ (by omega)
          have hb := fun (hm : x.ts[i] < x.ts[m]) => hbad fun h => by have := h k hkl; rw [htm] at this; omega
          clear ih
          refine Run2.of I 1000 ?_
          simp -implicitDefEqProofs [hkl, hm, hml, hlt]
          refine ⟨fun h => hb h, fun h => ⟨by omega, by simpa using go2 h⟩⟩
        · obtain rfl : k = fs.length := by omega
          have := go fun j hj => hk.2 j hj hj
          refine Run2.of I 1000 ?_
          simp -implicitDefEqProofs [hkl]
          refine ⟨by omega, by simpa using this⟩
      · obtain rfl : i = x.ts.length := by omega
        have eo : x.valid := hv.2 fun k hk => hi.2 k hk (by omega)
        refine Run2.of I 1000 ?_
        simp -implicitDefEqProofs [eo]
    · have hb : ¬ x.valid := fun h => h2 (hv.1 h).2.1
      refine Run2.of I 1000 ?_
      simp -implicitDefEqProofs [hl1, hl2, h1, h2, hb]
  · have hb : ¬ x.valid := fun h => h1 (hv.1 h).1
    refine Run2.of I 1000 ?_
    simp -implicitDefEqProofs [hl1, hl2, h1, hb]
noncomputable def o_l21Ok : List AV → Option (Prop × AV) := tab (fun (x : LS × List Int) => match x with | (rs, ts) => [.ip [.snap 1 (rs.map il), .snap 1 (ts.map iv)]]) (fun x => match x with | (rs, ts) => (⟨rs, ts⟩ : Fil).tot ≤ 1048576) (fun x => match x with | (rs, ts) => .bool (decide (⟨rs, ts⟩ : Fil).valid))
@[simp] theorem o_l21Ok_e (rs : LS) (ts : List Int) : o_l21Ok [.ip [.snap 1 (rs.map il), .snap 1 (ts.map iv)]] = some ((⟨rs, ts⟩ : Fil).tot ≤ 1048576, .bool (decide (⟨rs, ts⟩ : Fil).valid)) := tab_at (enc := fun (x : LS × List Int) => match x with | (rs, ts) => [.ip [.snap 1 (rs.map il), .snap 1 (ts.map iv)]]) (fun x y h => by
  obtain ⟨rs1, ts1⟩ := x; obtain ⟨rs2, ts2⟩ := y; simp at h; simp [h] <;> omega) _ _ (rs, ts)
theorem o_l21Ok_k : Knows Tryd.prog 50 o_l21Ok := tab_knows fun x hx h => by
  obtain ⟨rs, ts⟩ := x; exact l21Ok_s ⟨rs, ts⟩ h hx
@[simp] theorem Fil_eta (x : Fil) : (⟨x.rs, x.ts⟩ : Fil) = x := rfl
end Go.AG
