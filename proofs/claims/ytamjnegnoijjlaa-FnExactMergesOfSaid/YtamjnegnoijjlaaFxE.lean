/- What a complex and a filtration are: the reference. No statement is made here. -/
import Derived.Test.YtamjnegnoijjlaaFxD
namespace Go.AG
open Go.Proofs Go.Proofs.Ytamjnegnoijjlaa
set_option linter.unusedSimpArgs false
set_option linter.unusedVariables false
set_option maxRecDepth 4000
noncomputable def orcS3 : List (Nat × (List AV → Option (Prop × AV))) := (112, o_l05Simplex) :: (113, o_l05Before) :: (114, o_l05Drop) :: (73, o_l05Find) :: orcS2
theorem orcS3_p : Pure Try.prog (lk orcS3) := (lk_pure o_l05Simplex_k (lk_pure o_l05Before_k (lk_pure o_l05Drop_k (lk_pure o_l05Find_k orcS2_p))))
@[simp] theorem orcS3_l (b : Bool) (g : FuncId) (l : List AV) : lk orcS3 b g l = if g = 112 then o_l05Simplex l else if g = 113 then o_l05Before l else if g = 114 then o_l05Drop l else if g = 73 then o_l05Find l else lk orcS2 b g l := nr rfl
theorem faces_all {s : List Int} {P : List Int → Prop} (h1 : 1 < s.length) : (∀ f ∈ faces s, P f) ↔ ∀ k, k < s.length → P (dropK s k) := by
  unfold faces
  rw [if_pos h1]
  simp
abbrev k71_o0 : List AJ := [.o ⟨(some 2), none, false, .mv (.c (.bool false)), (some [0])⟩]
abbrev k71_o1 : List AJ := [.o ⟨(some 6), none, false, .mv (.t 0), none⟩, .o ⟨(some 7), none, false, .nilchk (.t 6), none⟩, .o ⟨(some 8), none, false, .fieldA 0 (.t 7), none⟩, .o ⟨(some 9), none, false, .load 1 false (.t 8), none⟩, .o ⟨(some 10), none, false, .len (.t 9), none⟩, .o ⟨(some 11), none, false, .bin .gtr (.t 10) (.c (.int .i64 48)), (some [0, 11])⟩]
abbrev k71_o2 : List AJ := [.o ⟨(some 2), none, false, .mv (.c (.bool false)), (some [2])⟩]
def k71_3 : ACode := .seq (.region k71_o2) .ret
def k71_4 : ACode := .cond (.t 11) k71_3 .skip
def k71_5 : ACode := .seq (.region k71_o1) k71_4
abbrev k71_o3 : List AJ := [.o ⟨(some 3), none, false, .mv (.c (.int .i64 0)), (some [0, 3])⟩]
abbrev k71_o4 : List AJ := [.o ⟨(some 12), none, false, .mv (.t 3), none⟩, .o ⟨(some 13), none, false, .mv (.t 0), none⟩, .o ⟨(some 14), none, false, .nilchk (.t 13), none⟩, .o ⟨(some 15), none, false, .fieldA 0 (.t 14), none⟩, .o ⟨(some 16), none, false, .load 1 false (.t 15), none⟩, .o ⟨(some 17), none, false, .len (.t 16), none⟩, .o ⟨(some 18), none, false, .bin .lss (.t 12) (.t 17), (some [0, 3, 18])⟩]
def k71_8 : ACode := .cond (.t 18) .skip (.exit 0)
def k71_9 : ACode := .seq (.region k71_o4) k71_8
abbrev k71_o5 : List AJ := [.o ⟨(some 21), none, false, .mv (.t 0), none⟩, .o ⟨(some 22), none, false, .nilchk (.t 21), none⟩, .o ⟨(some 23), none, false, .fieldA 0 (.t 22), none⟩, .o ⟨(some 24), none, false, .load 1 false (.t 23), none⟩, .o ⟨(some 25), none, false, .mv (.t 3), none⟩, .o ⟨(some 26), none, false, .idxA 1 (.t 24) (.t 25), none⟩, .o ⟨(some 27), none, false, .load 1 false (.t 26), none⟩, .o ⟨(some 4), none, false, .mv (.t 27), (some [0, 3, 4])⟩]
abbrev k71_o6 : List AJ := [.o ⟨(some 28), none, false, .mv (.t 4), none⟩, .o ⟨(some 29), none, false, .call 112 [(.t 28)], none⟩, .o ⟨(some 30), none, false, .un .not (.t 29), none⟩, .o ⟨(some 31), none, false, .mv (.t 30), none⟩, .o ⟨(some 32), (some (31, false)), false, .mv (.t 3), none⟩, .o ⟨(some 33), (some (31, false)), false, .bin .gtr (.t 32) (.c (.int .i64 0)), none⟩, .o ⟨(some 34), (some (31, false)), false, .mv (.t 33), none⟩, .o ⟨(some 35), (some (34, true)), false, .mv (.t 0), none⟩, .o ⟨(some 36), (some (34, true)), false, .nilchk (.t 35), (some [0, 3, 4, 31, 34, 36])⟩, .o ⟨(some 37), (some (34, true)), false, .fieldA 0 (.t 36), none⟩, .o ⟨(some 38), (some (34, true)), false, .load 1 false (.t 37), none⟩, .o ⟨(some 39), (some (34, true)), false, .mv (.t 3), none⟩, .o ⟨(some 40), (some (34, true)), true, .bin .sub (.t 39) (.c (.int .i64 1)), none⟩, .o ⟨(some 41), (some (34, true)), false, .idxA 1 (.t 38) (.t 40), none⟩, .o ⟨(some 42), (some (34, true)), false, .load 1 false (.t 41), none⟩, .o ⟨(some 43), (some (34, true)), false, .mv (.t 4), (some [0, 3, 4, 31, 34, 42, 43])⟩, .o ⟨(some 44), (some (34, true)), false, .call 113 [(.t 42), (.t 43)], none⟩, .o ⟨(some 45), (some (34, true)), false, .un .not (.t 44), none⟩, .o ⟨(some 46), (some (31, false)), false, .pick (.t 34) (.t 45) (.c (.bool false)), none⟩, .o ⟨(some 47), none, false, .pick (.t 31) (.c (.bool true)) (.t 46), (some [0, 3, 4, 47])⟩]
abbrev k71_o7 : List AJ := [.o ⟨(some 2), none, false, .mv (.c (.bool false)), (some [2])⟩]
def k71_13 : ACode := .seq (.region k71_o7) .ret
def k71_14 : ACode := .cond (.t 47) k71_13 .skip
def k71_15 : ACode := .seq (.region k71_o6) k71_14
abbrev k71_o8 : List AJ := [.o ⟨(some 5), none, false, .mv (.c (.int .i64 0)), (some [0, 3, 4, 5])⟩]
abbrev k71_o9 : List AJ := [.o ⟨(some 48), none, false, .mv (.t 5), none⟩, .o ⟨(some 49), none, false, .mv (.t 4), none⟩, .o ⟨(some 50), none, false, .len (.t 49), none⟩, .o ⟨(some 51), none, false, .bin .lss (.t 48) (.t 50), none⟩, .o ⟨(some 52), none, false, .mv (.t 51), none⟩, .o ⟨(some 53), (some (52, true)), false, .mv (.t 4), none⟩, .o ⟨(some 54), (some (52, true)), false, .len (.t 53), none⟩, .o ⟨(some 55), (some (52, true)), false, .bin .gtr (.t 54) (.c (.int .i64 1)), none⟩, .o ⟨(some 56), none, false, .pick (.t 52) (.t 55) (.c (.bool false)), (some [0, 3, 4, 5, 56])⟩]
def k71_18 : ACode := .cond (.t 56) .skip (.exit 2)
def k71_19 : ACode := .seq (.region k71_o9) k71_18
abbrev k71_o10 : List AJ := [.o ⟨(some 59), none, false, .mv (.t 0), none⟩, .o ⟨(some 60), none, false, .mv (.t 4), none⟩, .o ⟨(some 61), none, false, .mv (.t 5), none⟩, .o ⟨(some 62), none, false, .call 114 [(.t 60), (.t 61)], none⟩, .o ⟨(some 63), none, false, .call 73 [(.t 59), (.t 62)], none⟩, .o ⟨(some 64), none, false, .bin .lss (.t 63) (.c (.int .i64 0)), (some [0, 3, 4, 5, 64])⟩]
abbrev k71_o11 : List AJ := [.o ⟨(some 2), none, false, .mv (.c (.bool false)), (some [2])⟩]
def k71_22 : ACode := .seq (.region k71_o11) .ret
def k71_23 : ACode := .cond (.t 64) k71_22 .skip
def k71_24 : ACode := .seq (.region k71_o10) k71_23
abbrev k71_o12 : List AJ := [.o ⟨(some 57), none, false, .mv (.t 5), none⟩, .o ⟨(some 58), none, true, .bin .add (.t 57) (.c (.int .i64 1)), none⟩, .o ⟨(some 5), none, false, .mv (.t 58), (some [0, 3, 4, 5])⟩]
def k71_26 : ACode := .region k71_o12
def k71_27 : ACode := .seq (.block 3 k71_24) k71_26
def k71_28 : ACode := .seq k71_19 k71_27
def k71_29 : ACode := .loop k71_28
def k71_30 : ACode := .block 2 k71_29
def k71_31 : ACode := .seq (.region k71_o8) k71_30
def k71_32 : ACode := .seq k71_15 k71_31
def k71_33 : ACode := .seq (.region k71_o5) k71_32
abbrev k71_o13 : List AJ := [.o ⟨(some 19), none, false, .mv (.t 3), none⟩, .o ⟨(some 20), none, true, .bin .add (.t 19) (.c (.int .i64 1)), none⟩, .o ⟨(some 3), none, false, .mv (.t 20), (some [0, 3])⟩]
def k71_35 : ACode := .region k71_o13
def k71_36 : ACode := .seq (.block 1 k71_33) k71_35
def k71_37 : ACode := .seq k71_9 k71_36
def k71_38 : ACode := .loop k71_37
def k71_39 : ACode := .block 0 k71_38
def k71_40 : ACode := .seq (.region k71_o3) k71_39
abbrev k71_o14 : List AJ := [.o ⟨(some 2), none, false, .mv (.c (.bool true)), (some [2])⟩]
def k71_42 : ACode := .seq (.region k71_o14) .ret
def k71_43 : ACode := .seq k71_40 k71_42
def k71_44 : ACode := .seq k71_5 k71_43
def k71_45 : ACode := .seq (.region k71_o0) k71_44
@[simp, simp ↓] theorem k71_3r : sR k71_3 k71_o2 .ret := yR rfl
@[simp, simp ↓] theorem k71_4r : rC k71_4 (.t 11) k71_3 .skip := zC rfl
@[simp, simp ↓] theorem k71_5r : sR k71_5 k71_o1 k71_4 := yR rfl
@[simp, simp ↓] theorem k71_8r : rC k71_8 (.t 18) .skip (.exit 0) := zC rfl
@[simp, simp ↓] theorem k71_9r : sR k71_9 k71_o4 k71_8 := yR rfl
@[simp, simp ↓] theorem k71_13r : sR k71_13 k71_o7 .ret := yR rfl
@[simp, simp ↓] theorem k71_14r : rC k71_14 (.t 47) k71_13 .skip := zC rfl
@[simp, simp ↓] theorem k71_15r : sR k71_15 k71_o6 k71_14 := yR rfl
@[simp, simp ↓] theorem k71_18r : rC k71_18 (.t 56) .skip (.exit 2) := zC rfl
@[simp, simp ↓] theorem k71_19r : sR k71_19 k71_o9 k71_18 := yR rfl
@[simp, simp ↓] theorem k71_22r : sR k71_22 k71_o11 .ret := yR rfl
@[simp, simp ↓] theorem k71_23r : rC k71_23 (.t 64) k71_22 .skip := zC rfl
@[simp, simp ↓] theorem k71_24r : sR k71_24 k71_o10 k71_23 := yR rfl
@[simp, simp ↓] theorem k71_26r : rR k71_26 k71_o12 := zR rfl
@[simp, simp ↓] theorem k71_27r : sB k71_27 3 k71_24 k71_26 := yB rfl
@[simp, simp ↓] theorem k71_28r : rS k71_28 k71_19 k71_27 := zS rfl
@[simp, simp ↓] theorem k71_29r : rL k71_29 k71_28 := zL rfl
@[simp, simp ↓] theorem k71_30r : rB k71_30 2 k71_29 := zB rfl
@[simp, simp ↓] theorem k71_31r : sR k71_31 k71_o8 k71_30 := yR rfl
@[simp, simp ↓] theorem k71_32r : rS k71_32 k71_15 k71_31 := zS rfl
@[simp, simp ↓] theorem k71_33r : sR k71_33 k71_o5 k71_32 := yR rfl
@[simp, simp ↓] theorem k71_35r : rR k71_35 k71_o13 := zR rfl
@[simp, simp ↓] theorem k71_36r : sB k71_36 1 k71_33 k71_35 := yB rfl
@[simp, simp ↓] theorem k71_37r : rS k71_37 k71_9 k71_36 := zS rfl
@[simp, simp ↓] theorem k71_38r : rL k71_38 k71_37 := zL rfl
@[simp, simp ↓] theorem k71_39r : rB k71_39 0 k71_38 := zB rfl
@[simp, simp ↓] theorem k71_40r : sR k71_40 k71_o3 k71_39 := yR rfl
@[simp, simp ↓] theorem k71_42r : sR k71_42 k71_o14 .ret := yR rfl
@[simp, simp ↓] theorem k71_43r : rS k71_43 k71_40 k71_42 := zS rfl
@[simp, simp ↓] theorem k71_44r : rS k71_44 k71_5 k71_43 := zS rfl
@[simp, simp ↓] theorem k71_45r : sR k71_45 k71_o0 k71_44 := yR rfl
noncomputable abbrev k71_C : Orc → Cx := mkC Try.prog [] 71 65 [.tmp 2]
theorem k71_of0 : OfP0 Try.prog Try.f71 71 65 k71_C k71_45 := @ofP0 _ _ _ _ _ _ _ _ Try.func71 (by decide +kernel) rfl (by kernel_rfl) rfl (by kernel_rfl)
theorem l05Ok_s (rs : List (List Int)) (e : List AV) (h : Heap) (hl : ssTot rs ≤ 1048576) : ACalls Try.prog 71 [.ip (.snap 1 (rs.map il) :: e)] h (fun v h' => v = .bool (decide (cxOk rs)) ∧ h' = h) := by
  have hf := fit_of_tot hl
  have hn := hf.1
  refine k71_of0 rfl orcS3_p fun I => ?_
  by_cases h48 : rs.length ≤ 48
  · have h48' : ¬ (48 : Int) < rs.length := by omega
    refine Run2.of I 1000 ?_
    simp -implicitDefEqProofs [h48']
    refine Run2.loopE (fun (i : Nat) => [(0, .ip (.snap 1 (rs.map il) :: e)), (3, .int .i64 i)]) (fun i => h) (fun i => rs.length - i) (fun i => i ≤ rs.length ∧ ∀ j (hj : j < rs.length), j < i → cxAt rs j hj) 0 (by simp) rfl ⟨Nat.zero_le _, fun _ _ h => by omega⟩ fun i hi ih => ?_
    by_cases hlt : i < rs.length
    · have hr := hf.2 _ (List.getElem_mem hlt)
      have hbad : ¬ cxAt rs i hlt → ¬ cxOk rs := fun h1 h2 => h1 (h2.1 i hlt)
      have go := fun (h1 : cxAt rs i hlt) => ih (i + 1) ⟨by omega, fun j hj hji => by
        rcases Nat.lt_or_ge j i with h | h
        · exact hi.2 j hj h
        · obtain rfl : j = i := by omega
          exact h1⟩ (by omega)
      clear ih
      by_cases h1 : smOk rs[i]
      · have h4 := h1.1.2
        have key : (0 < i → cmpS rs[i - 1] rs[i] < 0) → Run2 (k71_C (lk orcS3)) [.code k71_28, .inLoop k71_28, .inBlock 2, .inBlock 1, .code k71_35, .inLoop k71_37, .inBlock 0, .code k71_42]
            [(0, .ip (.snap 1 (rs.map il) :: e)), (3, .int .i64 i), (4, .snap 1 (rs[i].map iv)), (5, .int .i64 0)] h fun v h' => v = .bool (decide (cxOk rs)) ∧ h' = h := fun h2 => by
          have hst : cxAt rs i hlt ↔ ∀ f ∈ faces rs[i], f ∈ rs := ⟨fun h => h.2.2, fun h => ⟨h1, h2, h⟩⟩
          generalize hs : rs[i] = s at *
          by_cases hs1 : 1 < s.length
          · rw [faces_all hs1] at hst
            refine Run2.loopE (fun (k : Nat) => [(0, .ip (.snap 1 (rs.map il) :: e)), (3, .int .i64 i), (4, .snap 1 (s.map iv)), (5, .int .i64 k)]) (fun i => h) (fun k => s.length - k) (fun k => k ≤ s.length ∧ ∀ j, j < k → dropK s j ∈ rs) 0 (by simp) rfl ⟨Nat.zero_le _, fun _ h => by omega⟩ fun k hk ih => ?_
            by_cases hkl : k < s.length
            · have hdl := dropK_length hkl
              have go2 := fun (hm : dropK s k ∈ rs) => ih (k + 1) ⟨by omega, fun j hj => by
                rcases Nat.lt_or_ge j k with h | h
                · exact hk.2 j h
                · obtain rfl : j = k := by omega
                  exact hm⟩ (by omega)
              have hb := fun (hm : dropK s k ∉ rs) => hbad fun h => hm (hst.1 h k hkl)
              clear ih
              refine Run2.of I 1000 ?_
              have hs1' : (1 : Int) < s.length := by omega
              simp -implicitDefEqProofs [hkl, hs1', hr, hl, ixS_neg]
              refine ⟨fun h => hb h, fun h => ⟨by omega, by simpa using go2 h⟩⟩
            · obtain rfl : k = s.length := by omega
              have := go (hst.2 fun j hj => hk.2 j hj)
              refine Run2.of I 1000 ?_
              simp -implicitDefEqProofs [hkl]
              refine ⟨by omega, by simpa using this⟩
          · have hno : faces s = [] := by unfold faces; rw [if_neg hs1]
            have := go (hst.2 fun f hf => by rw [hno] at hf; simp at hf)
            by_cases hs0 : 0 < s.length
            · refine Run2.loopE (fun (k : Nat) => [(0, .ip (.snap 1 (rs.map il) :: e)), (3, .int .i64 i), (4, .snap 1 (s.map iv)), (5, .int .i64 k)]) (fun i => h) (fun k => 0) (fun k => k = 0) 0 (by simp) rfl rfl fun k hk ih => ?_
              subst hk
              have hs1' : ¬ (1 : Int) < s.length := by omega
              refine Run2.of I 1000 ?_
              simp -implicitDefEqProofs [hs0, hs1']
              refine ⟨by omega, by simpa using this⟩
            · exact absurd h1.1.1 (by omega)
        rcases Nat.eq_zero_or_pos i with hz | hpos
        · have hz' : ¬ 0 < i := by omega
          have key := key (fun h => by omega)
          refine Run2.of I 1000 ?_
          simp -implicitDefEqProofs [hlt, hr, h1, hz']
          exact key
        · have hlt' : i - 1 < rs.length := by omega
          have hr' := hf.2 _ (List.getElem_mem hlt')
          have hc : ((i : Int) - 1).toNat = i - 1 := by omega
          by_cases h2 : cmpS rs[i - 1] rs[i] < 0
          · have key := key (fun _ => h2)
            refine Run2.of I 1000 ?_
            simp -implicitDefEqProofs [hlt, hlt', hr, hr', h1, hc, h2, hpos]
            exact ⟨by omega, by omega, key⟩
          · have hb := hbad fun h => h2 (h.2.1 hpos)
            refine Run2.of I 1000 ?_
            simp -implicitDefEqProofs [hlt, hlt', hr, hr', h1, hc, h2, hpos, hb]
            omega
      · have hb := hbad fun h => h1 h.1
        refine Run2.of I 1000 ?_
        simp -implicitDefEqProofs [hlt, hr, h1, hb]
    · obtain rfl : i = rs.length := by omega
      have eo : cxOk rs := ⟨fun j hj => hi.2 j hj hj, h48⟩
      refine Run2.of I 1000 ?_
      simp -implicitDefEqProofs [eo]
  · have h48' : (48 : Int) < rs.length := by omega
    have eo : ¬ cxOk rs := fun h => h48 h.2
    refine Run2.of I 1000 ?_
    simp -implicitDefEqProofs [h48', eo]
noncomputable def o_l05Ok : List AV → Option (Prop × AV) := tab (fun (x : LS × List AV) => match x with | (rs, e) => [.ip (.snap 1 (rs.map il) :: e)]) (fun x => match x with | (rs, e) => ssTot rs ≤ 1048576) (fun x => match x with | (rs, e) => .bool (decide (cxOk rs)))
@[simp] theorem o_l05Ok_e (rs : LS) (e : List AV) : o_l05Ok [.ip (.snap 1 (rs.map il) :: e)] = some (ssTot rs ≤ 1048576, .bool (decide (cxOk rs))) := tab_at (enc := fun (x : LS × List AV) => match x with | (rs, e) => [.ip (.snap 1 (rs.map il) :: e)]) (fun x y h => by
  obtain ⟨rs1, e1⟩ := x; obtain ⟨rs2, e2⟩ := y; simp at h; simp [h] <;> omega) _ _ (rs, e)
theorem o_l05Ok_k : Knows Try.prog 71 o_l05Ok := tab_knows fun x hx h => by
  obtain ⟨rs, e⟩ := x; exact l05Ok_s rs e h hx
/-- The places of the faces. -/
def facesI (rs : List (List Int)) (s : List Int) : List Int := (faces s).map (ixS rs)
theorem facesI_length (rs : List (List Int)) (s : List Int) : (facesI rs s).length ≤ s.length := by
  unfold facesI; rw [List.length_map]; exact faces_length s
abbrev k99_o0 : List AJ := [.o ⟨(some 4), none, false, .mv (.c .nilsl), (some [0, 1])⟩]
abbrev k99_o1 : List AJ := [.o ⟨(some 8), none, false, .mv (.t 0), none⟩, .o ⟨(some 9), none, false, .nilchk (.t 8), none⟩, .o ⟨(some 10), none, false, .fieldA 0 (.t 9), none⟩, .o ⟨(some 11), none, false, .load 1 false (.t 10), none⟩, .o ⟨(some 12), none, false, .mv (.t 1), none⟩, .o ⟨(some 13), none, false, .idxA 1 (.t 11) (.t 12), none⟩, .o ⟨(some 14), none, false, .load 1 false (.t 13), none⟩, .o ⟨(some 5), none, false, .mv (.t 14), (some [0, 5])⟩]
abbrev k99_o2 : List AJ := [.e 15 1 none, .o ⟨(some 6), none, false, .mv (.t 15), (some [0, 5, 6])⟩]
abbrev k99_o3 : List AJ := [.o ⟨(some 7), none, false, .mv (.c (.int .i64 0)), (some [0, 5, 6, 7])⟩]
abbrev k99_o4 : List AJ := [.o ⟨(some 16), none, false, .mv (.t 7), none⟩, .o ⟨(some 17), none, false, .mv (.t 5), none⟩, .o ⟨(some 18), none, false, .len (.t 17), none⟩, .o ⟨(some 19), none, false, .bin .lss (.t 16) (.t 18), none⟩, .o ⟨(some 20), none, false, .mv (.t 19), none⟩, .o ⟨(some 21), (some (20, true)), false, .mv (.t 5), none⟩, .o ⟨(some 22), (some (20, true)), false, .len (.t 21), none⟩, .o ⟨(some 23), (some (20, true)), false, .bin .gtr (.t 22) (.c (.int .i64 1)), none⟩, .o ⟨(some 24), none, false, .pick (.t 20) (.t 23) (.c (.bool false)), (some [0, 5, 6, 7, 24])⟩]
def k99_5 : ACode := .cond (.t 24) .skip (.exit 0)
def k99_6 : ACode := .seq (.region k99_o4) k99_5
abbrev k99_o5 : List AJ := [.o ⟨(some 27), none, false, .mv (.t 6), none⟩, .o ⟨(some 28), none, false, .mv (.t 0), none⟩, .o ⟨(some 29), none, false, .mv (.t 5), none⟩, .o ⟨(some 30), none, false, .mv (.t 7), none⟩, .o ⟨(some 31), none, false, .call 114 [(.t 29), (.t 30)], none⟩, .o ⟨(some 32), none, false, .call 73 [(.t 28), (.t 31)], none⟩, .o ⟨(some 33), none, false, .bsl false 1 [(.t 32)], none⟩, .o ⟨(some 34), none, false, .append 1 8 (.t 27) (.t 33), none⟩, .o ⟨(some 6), none, false, .mv (.t 34), (some [0, 5, 6, 7])⟩]
def k99_7 : ACode := .region k99_o5
abbrev k99_o6 : List AJ := [.o ⟨(some 25), none, false, .mv (.t 7), none⟩, .o ⟨(some 26), none, true, .bin .add (.t 25) (.c (.int .i64 1)), none⟩, .o ⟨(some 7), none, false, .mv (.t 26), (some [0, 5, 6, 7])⟩]
def k99_9 : ACode := .region k99_o6
def k99_10 : ACode := .seq (.block 1 k99_7) k99_9
def k99_11 : ACode := .seq k99_6 k99_10
def k99_12 : ACode := .loop k99_11
def k99_13 : ACode := .block 0 k99_12
def k99_14 : ACode := .seq (.region k99_o3) k99_13
abbrev k99_o7 : List AJ := [.o ⟨(some 35), none, false, .mv (.t 6), none⟩, .o ⟨(some 4), none, false, .mv (.t 35), (some [4])⟩]
def k99_16 : ACode := .seq (.region k99_o7) .ret
def k99_17 : ACode := .seq k99_14 k99_16
def k99_18 : ACode := .seq (.region k99_o2) k99_17
def k99_19 : ACode := .seq (.region k99_o1) k99_18
def k99_20 : ACode := .seq (.region k99_o0) k99_19
@[simp, simp ↓] theorem k99_5r : rC k99_5 (.t 24) .skip (.exit 0) := zC rfl
@[simp, simp ↓] theorem k99_6r : sR k99_6 k99_o4 k99_5 := yR rfl
@[simp, simp ↓] theorem k99_7r : rR k99_7 k99_o5 := zR rfl
@[simp, simp ↓] theorem k99_9r : rR k99_9 k99_o6 := zR rfl
@[simp, simp ↓] theorem k99_10r : sB k99_10 1 k99_7 k99_9 := yB rfl
@[simp, simp ↓] theorem k99_11r : rS k99_11 k99_6 k99_10 := zS rfl
@[simp, simp ↓] theorem k99_12r : rL k99_12 k99_11 := zL rfl
@[simp, simp ↓] theorem k99_13r : rB k99_13 0 k99_12 := zB rfl
@[simp, simp ↓] theorem k99_14r : sR k99_14 k99_o3 k99_13 := yR rfl
@[simp, simp ↓] theorem k99_16r : sR k99_16 k99_o7 .ret := yR rfl
@[simp, simp ↓] theorem k99_17r : rS k99_17 k99_14 k99_16 := zS rfl
@[simp, simp ↓] theorem k99_18r : sR k99_18 k99_o2 k99_17 := yR rfl
@[simp, simp ↓] theorem k99_19r : sR k99_19 k99_o1 k99_18 := yR rfl
@[simp, simp ↓] theorem k99_20r : sR k99_20 k99_o0 k99_19 := yR rfl
noncomputable abbrev k99_C : Orc → Cx := mkC Try.prog [15] 99 36 [.tmp 4]
theorem k99_of : OfP Try.prog Try.f99 99 36 k99_C k99_20 := @ofP _ _ _ _ _ _ _ _ Try.func99 (by decide +kernel) rfl (by kernel_rfl) rfl (by kernel_rfl)
theorem l05Faces_s (rs : List (List Int)) (e : List AV) (i : Nat) (h : Heap) (hl : ssTot rs ≤ 1048576) (hi : i < rs.length) : ACalls Try.prog 99 [.ip (.snap 1 (rs.map il) :: e), .int .i64 i] h (fun v h' => v = .snap 1 ((facesI rs rs[i]).map iv) ∧ h' = h) := by
  have hf := fit_of_tot hl
  have hr := hf.2 _ (List.getElem_mem hi)
  refine k99_of rfl orcS3_p fun I => ?_
  refine Run2.of I 1000 ?_
  simp -implicitDefEqProofs [hi]
  generalize hs : rs[i] = s at *
  by_cases hs1 : 1 < s.length
  · have hs1' : (1 : Int) < s.length := by omega
    refine Run2.loopE (α := Nat × AV × Heap) (fun p => [(0, .ip (.snap 1 (rs.map il) :: e)), (5, .snap 1 (s.map iv)), (6, p.2.1), (7, .int .i64 (p.1 : Nat))]) (fun p => p.2.2 ++ h) (fun p => s.length - p.1) (fun p => p.1 ≤ s.length ∧ Grow 1 p.2.1 (((List.range p.1).map fun k => ixS rs (dropK s k)).map iv) p.2.2) (0, .emp, []) (by simp) rfl ⟨Nat.zero_le _, by simpa using Grow.emp⟩ ?_
    rintro ⟨k, w, hp⟩ ⟨hk, hg⟩ ih
    simp only at hk hg
    have hcell := hg.cell
    by_cases hlt : k < s.length
    · have go := fun w' hp' (g : Grow 1 w' (((List.range k).map fun k => ixS rs (dropK s k)).map iv ++ [iv (ixS rs (dropK s k))]) hp') => ih (k + 1, w', hp') ⟨hlt, by
        simp only
        rw [List.range_succ, List.map_append, List.map_append]
        exact g⟩ (by simp; omega)
      clear ih
      refine Run2.of I 1000 ?_
      simp -implicitDefEqProofs [hlt, hs1', hcell, hr, hl]
      refine hg.app (by simp; omega) (by simp) fun w' hp' hg' => ?_
      have hcell' := hg'.cell
      have := go w' hp' hg'
      simp -implicitDefEqProofs [hcell']
      refine ⟨by omega, ?_⟩
      simpa using this
    · obtain rfl : k = s.length := by omega
      refine Run2.of I 1000 ?_
      simp -implicitDefEqProofs [hlt, hcell]
      refine hg.froze (fun x => x) (fun _ _ _ => rfl) (fun _ _ h => h) (.base ⟨?_, rfl⟩)
      simp [facesI, faces, hs1]
  · have hno : facesI rs s = [] := by unfold facesI faces; rw [if_neg hs1]; rfl
    refine Run2.loopE (fun (k : Nat) => [(0, .ip (.snap 1 (rs.map il) :: e)), (5, .snap 1 (s.map iv)), (6, .emp), (7, .int .i64 (k : Nat))]) (fun i => h) (fun k => 0) (fun k => k = 0) 0 (by simp) rfl rfl fun k hk ih => ?_
    subst hk
    have hs1' : ¬ (1 : Int) < s.length := by omega
    refine Run2.of I 1000 ?_
    by_cases hs0 : 0 < s.length
    · simp -implicitDefEqProofs [hs0, hs1', hno]
      exact .wk (Wk.emp 1) (.base ⟨rfl, rfl⟩)
    · simp -implicitDefEqProofs [hs0, hs1', hno]
      exact .wk (Wk.emp 1) (.base ⟨rfl, rfl⟩)
noncomputable def o_l05Faces : List AV → Option (Prop × AV) := tab (fun (x : LS × List AV × Nat) => match x with | (rs, e, i) => [.ip (.snap 1 (rs.map il) :: e), .int .i64 i]) (fun x => match x with | (rs, e, i) => (ssTot rs ≤ 1048576 ∧ i < rs.length)) (fun x => match x with | (rs, e, i) => .snap 1 ((facesI rs (rs.getD i [])).map iv))
@[simp] theorem o_l05Faces_e (rs : LS) (e : List AV) (i : Nat) : o_l05Faces [.ip (.snap 1 (rs.map il) :: e), .int .i64 i] = some ((ssTot rs ≤ 1048576 ∧ i < rs.length), .snap 1 ((facesI rs (rs.getD i [])).map iv)) := tab_at (enc := fun (x : LS × List AV × Nat) => match x with | (rs, e, i) => [.ip (.snap 1 (rs.map il) :: e), .int .i64 i]) (fun x y h => by
  obtain ⟨rs1, e1, i1⟩ := x; obtain ⟨rs2, e2, i2⟩ := y; simp at h; simp [h] <;> omega) _ _ (rs, e, i)
theorem o_l05Faces_k : Knows Try.prog 99 o_l05Faces := tab_knows fun x hx h => by
  obtain ⟨rs, e, i⟩ := x; exact by have := l05Faces_s rs e i h hx.1 hx.2; simpa [hx.2] using this
def colOk (l : List Int) (n p : Int) : Prop := (l.length : Int) = n ∧ ∀ t ∈ l, 0 ≤ t ∧ t ≤ p - 1
noncomputable instance (l : List Int) (n p : Int) : Decidable (colOk l n p) := Classical.propDecidable _
abbrev k98_o0 : List AJ := [.o ⟨(some 6), none, false, .mv (.c (.bool false)), (some [0, 1, 2])⟩]
abbrev k98_o1 : List AJ := [.o ⟨(some 7), none, false, .mv (.c (.int .i64 0)), (some [0, 1, 2, 7])⟩]
abbrev k98_o2 : List AJ := [.o ⟨(some 8), none, false, .mv (.t 7), none⟩, .o ⟨(some 9), none, false, .mv (.t 0), none⟩, .o ⟨(some 10), none, false, .len (.t 9), none⟩, .o ⟨(some 11), none, false, .bin .lss (.t 8) (.t 10), (some [0, 1, 2, 7, 11])⟩]
def k98_3 : ACode := .cond (.t 11) .skip (.exit 0)
def k98_4 : ACode := .seq (.region k98_o2) k98_3
abbrev k98_o3 : List AJ := [.o ⟨(some 14), none, false, .mv (.t 0), none⟩, .o ⟨(some 15), none, false, .mv (.t 7), none⟩, .o ⟨(some 16), none, false, .idxA 1 (.t 14) (.t 15), none⟩, .o ⟨(some 17), none, false, .load 1 false (.t 16), none⟩, .o ⟨(some 18), none, false, .mv (.t 2), none⟩, .o ⟨(some 19), none, true, .bin .sub (.t 18) (.c (.int .i64 1)), none⟩, .o ⟨(some 20), none, false, .call 67 [(.t 17), (.c (.int .i64 0)), (.t 19)], none⟩, .o ⟨(some 21), none, false, .un .not (.t 20), (some [0, 1, 2, 7, 21])⟩]
abbrev k98_o4 : List AJ := [.o ⟨(some 6), none, false, .mv (.c (.bool false)), (some [6])⟩]
def k98_7 : ACode := .seq (.region k98_o4) .ret
def k98_8 : ACode := .cond (.t 21) k98_7 .skip
def k98_9 : ACode := .seq (.region k98_o3) k98_8
abbrev k98_o5 : List AJ := [.o ⟨(some 12), none, false, .mv (.t 7), none⟩, .o ⟨(some 13), none, true, .bin .add (.t 12) (.c (.int .i64 1)), none⟩, .o ⟨(some 7), none, false, .mv (.t 13), (some [0, 1, 2, 7])⟩]
def k98_11 : ACode := .region k98_o5
def k98_12 : ACode := .seq (.block 1 k98_9) k98_11
def k98_13 : ACode := .seq k98_4 k98_12
def k98_14 : ACode := .loop k98_13
def k98_15 : ACode := .block 0 k98_14
def k98_16 : ACode := .seq (.region k98_o1) k98_15
abbrev k98_o6 : List AJ := [.o ⟨(some 22), none, false, .mv (.t 0), none⟩, .o ⟨(some 23), none, false, .len (.t 22), none⟩, .o ⟨(some 24), none, false, .mv (.t 1), none⟩, .o ⟨(some 25), none, false, .bin .eql (.t 23) (.t 24), none⟩, .o ⟨(some 6), none, false, .mv (.t 25), (some [6])⟩]
def k98_18 : ACode := .seq (.region k98_o6) .ret
def k98_19 : ACode := .seq k98_16 k98_18
def k98_20 : ACode := .seq (.region k98_o0) k98_19
@[simp, simp ↓] theorem k98_3r : rC k98_3 (.t 11) .skip (.exit 0) := zC rfl
@[simp, simp ↓] theorem k98_4r : sR k98_4 k98_o2 k98_3 := yR rfl
@[simp, simp ↓] theorem k98_7r : sR k98_7 k98_o4 .ret := yR rfl
@[simp, simp ↓] theorem k98_8r : rC k98_8 (.t 21) k98_7 .skip := zC rfl
@[simp, simp ↓] theorem k98_9r : sR k98_9 k98_o3 k98_8 := yR rfl
@[simp, simp ↓] theorem k98_11r : rR k98_11 k98_o5 := zR rfl
@[simp, simp ↓] theorem k98_12r : sB k98_12 1 k98_9 k98_11 := yB rfl
@[simp, simp ↓] theorem k98_13r : rS k98_13 k98_4 k98_12 := zS rfl
@[simp, simp ↓] theorem k98_14r : rL k98_14 k98_13 := zL rfl
@[simp, simp ↓] theorem k98_15r : rB k98_15 0 k98_14 := zB rfl
@[simp, simp ↓] theorem k98_16r : sR k98_16 k98_o1 k98_15 := yR rfl
@[simp, simp ↓] theorem k98_18r : sR k98_18 k98_o6 .ret := yR rfl
@[simp, simp ↓] theorem k98_19r : rS k98_19 k98_16 k98_18 := zS rfl
@[simp, simp ↓] theorem k98_20r : sR k98_20 k98_o0 k98_19 := yR rfl
noncomputable abbrev k98_C : Orc → Cx := mkC Try.prog [] 98 26 [.tmp 6]
theorem k98_of0 : OfP0 Try.prog Try.f98 98 26 k98_C k98_20 := @ofP0 _ _ _ _ _ _ _ _ Try.func98 (by decide +kernel) rfl (by kernel_rfl) rfl (by kernel_rfl)
theorem l03Column_s (l : List Int) (n p : Int) (h : Heap) (hl : l.length ≤ 1048576) (hp : 0 ≤ p ∧ p ≤ 1048576) : ACalls Try.prog 98 [.snap 1 (l.map iv), .int .i64 n, .int .i64 p] h (fun v h' => v = .bool (decide (colOk l n p)) ∧ h' = h) := by
  refine k98_of0 rfl orcS1_p fun I => ?_
  refine Run2.of I 1000 ?_
  simp -implicitDefEqProofs
  refine Run2.loopE (fun (i : Nat) => [(0, .snap 1 (l.map iv)), (1, .int .i64 n), (2, .int .i64 p), (7, .int .i64 i)]) (fun i => h) (fun i => l.length - i) (fun i => i ≤ l.length ∧ ∀ j (hj : j < l.length), j < i → 0 ≤ l[j] ∧ l[j] ≤ p - 1) 0 (by simp) rfl ⟨Nat.zero_le _, fun _ _ h => by omega⟩ fun i hi ih => ?_
  by_cases hlt : i < l.length
  · have go := fun (h1 : 0 ≤ l[i] ∧ l[i] ≤ p - 1) => ih (i + 1) ⟨by omega, fun j hj hji => by
      rcases Nat.lt_or_ge j i with h | h
      · exact hi.2 j hj h
      · obtain rfl : j = i := by omega
        exact h1⟩ (by omega)
    have hb := fun (h1 : ¬ (0 ≤ l[i] ∧ l[i] ≤ p - 1)) => show ¬ colOk l n p from fun h => h1 (h.2 _ (List.getElem_mem hlt))
    clear ih
    by_cases h1 : 0 ≤ l[i] ∧ l[i] ≤ p - 1
    · have := go h1
      refine Run2.of I 1000 ?_
      simp -implicitDefEqProofs [hlt, h1.1, h1.2]
      refine ⟨by omega, by omega, by simpa using this⟩
    · have hb := hb h1
      have h1' : (decide (0 ≤ l[i]) && decide (l[i] ≤ p - 1)) = false := by rw [Bool.eq_false_iff]; simpa using h1
      refine Run2.of I 1000 ?_
      simp -implicitDefEqProofs [hlt, h1', hb]
      omega
  · obtain rfl : i = l.length := by omega
    have h1 : ∀ t ∈ l, 0 ≤ t ∧ t ≤ p - 1 := fun t ht => by
      obtain ⟨j, hj, rfl⟩ := List.mem_iff_getElem.1 ht
      exact hi.2 j hj hj
    have e : colOk l n p ↔ (l.length : Int) = n := ⟨fun h => h.1, fun h => ⟨h, h1⟩⟩
    refine Run2.of I 1000 ?_
    simp -implicitDefEqProofs [e]
noncomputable def o_l03Column : List AV → Option (Prop × AV) := tab (fun (x : List Int × Int × Int) => match x with | (l, n, p) => [.snap 1 (l.map iv), .int .i64 n, .int .i64 p]) (fun x => match x with | (l, n, p) => (l.length ≤ 1048576 ∧ 0 ≤ p ∧ p ≤ 1048576)) (fun x => match x with | (l, n, p) => .bool (decide (colOk l n p)))
@[simp] theorem o_l03Column_e (l : List Int) (n : Int) (p : Int) : o_l03Column [.snap 1 (l.map iv), .int .i64 n, .int .i64 p] = some ((l.length ≤ 1048576 ∧ 0 ≤ p ∧ p ≤ 1048576), .bool (decide (colOk l n p))) := tab_at (enc := fun (x : List Int × Int × Int) => match x with | (l, n, p) => [.snap 1 (l.map iv), .int .i64 n, .int .i64 p]) (fun x y h => by
  obtain ⟨l1, n1, p1⟩ := x; obtain ⟨l2, n2, p2⟩ := y; simp at h; simp [h] <;> omega) _ _ (l, n, p)
theorem o_l03Column_k : Knows Try.prog 98 o_l03Column := tab_knows fun x hx h => by
  obtain ⟨l, n, p⟩ := x; exact l03Column_s l n p h hx.1 hx.2
noncomputable def orcS4 : List (Nat × (List AV → Option (Prop × AV))) := (71, o_l05Ok) :: (99, o_l05Faces) :: (98, o_l03Column) :: orcS3
theorem orcS4_p : Pure Try.prog (lk orcS4) := (lk_pure o_l05Ok_k (lk_pure o_l05Faces_k (lk_pure o_l03Column_k orcS3_p)))
@[simp] theorem orcS4_l (b : Bool) (g : FuncId) (l : List AV) : lk orcS4 b g l = if g = 71 then o_l05Ok l else if g = 99 then o_l05Faces l else if g = 98 then o_l03Column l else lk orcS3 b g l := nr rfl
def Fil.valid' (x : Fil) : Prop := cxOk x.rs ∧ colOk x.ts x.rs.length 1001 ∧ ∀ k (h : k < x.rs.length), x.faceOk k h
theorem Fil.valid_iff (x : Fil) : x.valid ↔ x.valid' := by
  unfold Fil.valid Fil.valid' colOk
  constructor
  · rintro ⟨h1, ⟨h2, h3⟩, h4⟩; exact ⟨h1, ⟨by omega, fun t ht => by have := h3 t ht; omega⟩, h4⟩
  · rintro ⟨h1, ⟨h2, h3⟩, h4⟩; exact ⟨h1, ⟨by omega, fun t ht => by have := h3 t ht; omega⟩, h4⟩
theorem faceOk_iff (x : Fil) (k : Nat) (h : k < x.rs.length) : x.faceOk k h ↔ ∀ j (hj : j < (facesI x.rs x.rs[k]).length), x.ts.getD ((facesI x.rs x.rs[k])[j]).toNat 0 ≤ x.ts.getD k 0 := by
  unfold Fil.faceOk facesI
  constructor
  · intro h1 j hj
    have := h1 ((faces x.rs[k])[j]'(by simpa using hj)) (List.getElem_mem _)
    simpa using this
  · intro h1 f hf
    obtain ⟨j, hj, rfl⟩ := List.mem_iff_getElem.1 hf
    have := h1 j (by simpa using hj)
    simpa using this
theorem facesI_in {rs : List (List Int)} (h : cxOk rs) {i : Nat} (hi : i < rs.length) : ∀ k ∈ facesI rs rs[i], 0 ≤ k ∧ k < rs.length := by
  intro k hk
  unfold facesI at hk
  obtain ⟨f, hf, rfl⟩ := List.mem_map.1 hk
  obtain ⟨j, hj, _, e⟩ := ixS_mem ((h.1 i hi).2.2 f hf)
  omega
abbrev k53_o0 : List AJ := [.o ⟨(some 2), none, false, .mv (.c (.bool false)), (some [0])⟩]
abbrev k53_o1 : List AI := [⟨(some 6), none, false, .mv (.t 0), none⟩, ⟨(some 7), none, false, .nilchk (.t 6), none⟩, ⟨(some 8), none, false, .fieldA 0 (.t 7), none⟩, ⟨(some 9), none, false, .call 71 [(.t 8)], none⟩, ⟨(some 10), none, false, .un .not (.t 9), none⟩, ⟨(some 11), none, false, .mv (.t 10), none⟩, ⟨(some 12), (some (11, false)), false, .mv (.t 0), none⟩, ⟨(some 13), (some (11, false)), false, .nilchk (.t 12), none⟩, ⟨(some 14), (some (11, false)), false, .fieldA 1 (.t 13), none⟩, ⟨(some 15), (some (11, false)), false, .load 1 false (.t 14), (some [0, 11, 15])⟩, ⟨(some 16), (some (11, false)), false, .mv (.t 0), none⟩, ⟨(some 17), (some (11, false)), false, .nilchk (.t 16), none⟩, ⟨(some 18), (some (11, false)), false, .fieldA 0 (.t 17), none⟩, ⟨(some 19), (some (11, false)), false, .fieldA 0 (.t 18), none⟩, ⟨(some 20), (some (11, false)), false, .load 1 false (.t 19), none⟩, ⟨(some 21), (some (11, false)), false, .len (.t 20), none⟩, ⟨(some 22), (some (11, false)), false, .call 98 [(.t 15), (.t 21), (.c (.int .i64 1001))], (some [0, 11, 22])⟩, ⟨(some 23), (some (11, false)), false, .un .not (.t 22), none⟩, ⟨(some 24), none, false, .pick (.t 11) (.c (.bool true)) (.t 23), (some [0, 24])⟩]
abbrev k53_o2 : List AJ := [.o ⟨(some 2), none, false, .mv (.c (.bool false)), (some [2])⟩]
def k53_3 : ACode := .seq (.region k53_o2) .ret
def k53_4 : ACode := .cond (.t 24) k53_3 .skip
def k53_5 : ACode := .seq (.draw k53_o1 [] rfl) k53_4
abbrev k53_o3 : List AJ := [.o ⟨(some 3), none, false, .mv (.c (.int .i64 0)), (some [0, 3])⟩]
abbrev k53_o4 : List AJ := [.o ⟨(some 25), none, false, .mv (.t 3), none⟩, .o ⟨(some 26), none, false, .mv (.t 0), none⟩, .o ⟨(some 27), none, false, .nilchk (.t 26), none⟩, .o ⟨(some 28), none, false, .fieldA 1 (.t 27), none⟩, .o ⟨(some 29), none, false, .load 1 false (.t 28), none⟩, .o ⟨(some 30), none, false, .len (.t 29), none⟩, .o ⟨(some 31), none, false, .bin .lss (.t 25) (.t 30), (some [0, 3, 31])⟩]
def k53_8 : ACode := .cond (.t 31) .skip (.exit 0)
def k53_9 : ACode := .seq (.region k53_o4) k53_8
abbrev k53_o5 : List AJ := [.o ⟨(some 34), none, false, .mv (.t 0), none⟩, .o ⟨(some 35), none, false, .nilchk (.t 34), none⟩, .o ⟨(some 36), none, false, .fieldA 0 (.t 35), none⟩, .o ⟨(some 37), none, false, .mv (.t 3), none⟩, .o ⟨(some 38), none, false, .call 99 [(.t 36), (.t 37)], none⟩, .o ⟨(some 4), none, false, .mv (.t 38), (some [0, 3, 4])⟩]
abbrev k53_o6 : List AJ := [.o ⟨(some 5), none, false, .mv (.c (.int .i64 0)), (some [0, 3, 4, 5])⟩]
abbrev k53_o7 : List AJ := [.o ⟨(some 39), none, false, .mv (.t 5), none⟩, .o ⟨(some 40), none, false, .mv (.t 4), none⟩, .o ⟨(some 41), none, false, .len (.t 40), none⟩, .o ⟨(some 42), none, false, .bin .lss (.t 39) (.t 41), (some [0, 3, 4, 5, 42])⟩]
def k53_13 : ACode := .cond (.t 42) .skip (.exit 2)
def k53_14 : ACode := .seq (.region k53_o7) k53_13
abbrev k53_o8 : List AI := [⟨(some 45), none, false, .mv (.t 0), none⟩, ⟨(some 46), none, false, .nilchk (.t 45), none⟩, ⟨(some 47), none, false, .fieldA 1 (.t 46), none⟩, ⟨(some 48), none, false, .load 1 false (.t 47), none⟩, ⟨(some 49), none, false, .mv (.t 4), none⟩, ⟨(some 50), none, false, .mv (.t 5), none⟩, ⟨(some 51), none, false, .idxA 1 (.t 49) (.t 50), none⟩, ⟨(some 52), none, false, .load 1 false (.t 51), none⟩, ⟨(some 53), none, false, .idxA 1 (.t 48) (.t 52), none⟩, ⟨(some 54), none, false, .load 1 false (.t 53), none⟩, ⟨(some 55), none, false, .mv (.t 0), none⟩, ⟨(some 56), none, false, .nilchk (.t 55), none⟩, ⟨(some 57), none, false, .fieldA 1 (.t 56), none⟩, ⟨(some 58), none, false, .load 1 false (.t 57), (some [0, 3, 4, 5, 54, 58])⟩, ⟨(some 59), none, false, .mv (.t 3), none⟩, ⟨(some 60), none, false, .idxA 1 (.t 58) (.t 59), none⟩, ⟨(some 61), none, false, .load 1 false (.t 60), none⟩, ⟨(some 62), none, false, .bin .gtr (.t 54) (.t 61), (some [0, 3, 4, 5, 62])⟩]
abbrev k53_o9 : List AJ := [.o ⟨(some 2), none, false, .mv (.c (.bool false)), (some [2])⟩]
def k53_17 : ACode := .seq (.region k53_o9) .ret
def k53_18 : ACode := .cond (.t 62) k53_17 .skip
def k53_19 : ACode := .seq (.draw k53_o8 [] rfl) k53_18
abbrev k53_o10 : List AJ := [.o ⟨(some 43), none, false, .mv (.t 5), none⟩, .o ⟨(some 44), none, true, .bin .add (.t 43) (.c (.int .i64 1)), none⟩, .o ⟨(some 5), none, false, .mv (.t 44), (some [0, 3, 4, 5])⟩]
def k53_21 : ACode := .region k53_o10
def k53_22 : ACode := .seq (.block 3 k53_19) k53_21
def k53_23 : ACode := .seq k53_14 k53_22
def k53_24 : ACode := .loop k53_23
def k53_25 : ACode := .block 2 k53_24
def k53_26 : ACode := .seq (.region k53_o6) k53_25
def k53_27 : ACode := .seq (.region k53_o5) k53_26
abbrev k53_o11 : List AJ := [.o ⟨(some 32), none, false, .mv (.t 3), none⟩, .o ⟨(some 33), none, true, .bin .add (.t 32) (.c (.int .i64 1)), none⟩, .o ⟨(some 3), none, false, .mv (.t 33), (some [0, 3])⟩]
def k53_29 : ACode := .region k53_o11
def k53_30 : ACode := .seq (.block 1 k53_27) k53_29
def k53_31 : ACode := .seq k53_9 k53_30
def k53_32 : ACode := .loop k53_31
def k53_33 : ACode := .block 0 k53_32
def k53_34 : ACode := .seq (.region k53_o3) k53_33
abbrev k53_o12 : List AJ := [.o ⟨(some 2), none, false, .mv (.c (.bool true)), (some [2])⟩]
def k53_36 : ACode := .seq (.region k53_o12) .ret
def k53_37 : ACode := .seq k53_34 k53_36
def k53_38 : ACode := .seq k53_5 k53_37
def k53_39 : ACode := .seq (.region k53_o0) k53_38
@[simp, simp ↓] theorem k53_3r : sR k53_3 k53_o2 .ret := yR rfl
@[simp, simp ↓] theorem k53_4r : rC k53_4 (.t 24) k53_3 .skip := zC rfl
@[simp, simp ↓] theorem k53_5r : sD k53_5 k53_o1 [] k53_4 := yD rfl
@[simp, simp ↓] theorem k53_8r : rC k53_8 (.t 31) .skip (.exit 0) := zC rfl
@[simp, simp ↓] theorem k53_9r : sR k53_9 k53_o4 k53_8 := yR rfl
@[simp, simp ↓] theorem k53_13r : rC k53_13 (.t 42) .skip (.exit 2) := zC rfl
@[simp, simp ↓] theorem k53_14r : sR k53_14 k53_o7 k53_13 := yR rfl
@[simp, simp ↓] theorem k53_17r : sR k53_17 k53_o9 .ret := yR rfl
@[simp, simp ↓] theorem k53_18r : rC k53_18 (.t 62) k53_17 .skip := zC rfl
@[simp, simp ↓] theorem k53_19r : sD k53_19 k53_o8 [] k53_18 := yD rfl
@[simp, simp ↓] theorem k53_21r : rR k53_21 k53_o10 := zR rfl
@[simp, simp ↓] theorem k53_22r : sB k53_22 3 k53_19 k53_21 := yB rfl
@[simp, simp ↓] theorem k53_23r : rS k53_23 k53_14 k53_22 := zS rfl
@[simp, simp ↓] theorem k53_24r : rL k53_24 k53_23 := zL rfl
@[simp, simp ↓] theorem k53_25r : rB k53_25 2 k53_24 := zB rfl
@[simp, simp ↓] theorem k53_26r : sR k53_26 k53_o6 k53_25 := yR rfl
@[simp, simp ↓] theorem k53_27r : sR k53_27 k53_o5 k53_26 := yR rfl
@[simp, simp ↓] theorem k53_29r : rR k53_29 k53_o11 := zR rfl
@[simp, simp ↓] theorem k53_30r : sB k53_30 1 k53_27 k53_29 := yB rfl
@[simp, simp ↓] theorem k53_31r : rS k53_31 k53_9 k53_30 := zS rfl
@[simp, simp ↓] theorem k53_32r : rL k53_32 k53_31 := zL rfl
@[simp, simp ↓] theorem k53_33r : rB k53_33 0 k53_32 := zB rfl
@[simp, simp ↓] theorem k53_34r : sR k53_34 k53_o3 k53_33 := yR rfl
@[simp, simp ↓] theorem k53_36r : sR k53_36 k53_o12 .ret := yR rfl
@[simp, simp ↓] theorem k53_37r : rS k53_37 k53_34 k53_36 := zS rfl
@[simp, simp ↓] theorem k53_38r : rS k53_38 k53_5 k53_37 := zS rfl
@[simp, simp ↓] theorem k53_39r : sR k53_39 k53_o0 k53_38 := yR rfl
noncomputable abbrev k53_C : Orc → Cx := mkC Try.prog [] 53 63 [.tmp 2]
theorem k53_of0 : OfP0 Try.prog Try.f53 53 63 k53_C k53_39 := @ofP0 _ _ _ _ _ _ _ _ Try.func53 (by decide +kernel) rfl (by kernel_rfl) rfl (by kernel_rfl)
theorem l21Ok_s (x : Fil) (h : Heap) (hl : x.tot ≤ 1048576) : ACalls Try.prog 53 [.ip [.snap 1 (x.rs.map il), .snap 1 (x.ts.map iv)]] h (fun v h' => v = .bool (decide x.valid) ∧ h' = h) := by
  obtain ⟨hl1, hl2⟩ := x.lens hl
  have hn := (fit_of_tot hl1).1
  refine k53_of0 rfl orcS4_p fun I => ?_
  have hv := x.valid_iff
  unfold Fil.valid' at hv
  by_cases h1 : cxOk x.rs
  · by_cases h2 : colOk x.ts x.rs.length 1001
    · have hv : x.valid ↔ ∀ k (h : k < x.rs.length), x.faceOk k h := by rw [hv]; simp [h1, h2]
      have htl : x.ts.length = x.rs.length := by have := h2.1; omega
      refine Run2.of I 1000 ?_
      simp -implicitDefEqProofs [hl1, hl2, h1, h2]
      refine Run2.loopE (fun (i : Nat) => [(0, .ip [.snap 1 (x.rs.map il), .snap 1 (x.ts.map iv)]), (3, .int .i64 i)]) (fun i => h) (fun i => x.ts.length - i) (fun i => i ≤ x.ts.length ∧ ∀ j (hj : j < x.rs.length), j < i → x.faceOk j hj) 0 (by simp) rfl ⟨Nat.zero_le _, fun _ _ h => by omega⟩ fun i hi ih => ?_
      by_cases hlt : i < x.ts.length
      · have hlt' : i < x.rs.length := by omega
        have hget : x.rs.getD i [] = x.rs[i] := by simp [hlt']
        have hin := facesI_in h1 hlt'
        have hfo := faceOk_iff x i hlt'
        have go := fun (h1 : x.faceOk i hlt') => ih (i + 1) ⟨by omega, fun j hj hji => by
          rcases Nat.lt_or_ge j i with h | h
          · exact hi.2 j hj h
          · obtain rfl : j = i := by omega
            exact h1⟩ (by omega)
        have hbad : ¬ x.faceOk i hlt' → ¬ x.valid := fun h1 h2 => h1 (hv.1 h2 i hlt')
        have hfl := facesI_length x.rs x.rs[i]
        have hr := (fit_of_tot hl1).2 _ (List.getElem_mem hlt')
        rw [hfo] at go hbad
        have hti : x.ts.getD i 0 = x.ts[i] := by simp [hlt]
        rw [hti] at go hbad
        clear ih hfo
        refine Run2.of I 1000 ?_
        simp -implicitDefEqProofs [hlt, hlt', hl1, hget]
        generalize facesI x.rs x.rs[i] = fs at *
        refine Run2.loopE (fun (k : Nat) => [(0, .ip [.snap 1 (x.rs.map il), .snap 1 (x.ts.map iv)]), (3, .int .i64 i), (4, .snap 1 (fs.map iv)), (5, .int .i64 k)]) (fun i => h) (fun k => fs.length - k) (fun k => k ≤ fs.length ∧ ∀ j (hj : j < fs.length), j < k → x.ts.getD fs[j].toNat 0 ≤ x.ts[i]) 0 (by simp) rfl ⟨Nat.zero_le _, fun _ _ h => by omega⟩ fun k hk ih => ?_
        by_cases hkl : k < fs.length
        · have hfk := hin _ (List.getElem_mem hkl)
          obtain ⟨m, hm⟩ := Int.eq_ofNat_of_zero_le hfk.1
          rw [hm] at hfk
          have hml : m < x.ts.length := by omega
          have htm : x.ts.getD fs[k].toNat 0 = x.ts[m] := by rw [hm]; simp [hml]
          have go2 := fun (hm2 : x.ts[m] ≤ x.ts[i]) => ih (k + 1) ⟨by omega, fun j hj hjk => by
            rcases Nat.lt_or_ge j k with h | h
            · exact hk.2 j hj h
            · obtain rfl : j = k := by omega
              rw [htm]; exact hm2⟩ (by omega)
          have hb := fun (hm : x.ts[i] < x.ts[m]) => hbad fun h => by have := h k hkl; rw [htm] at this; omega
          clear ih
          refine Run2.of I 1000 ?_
          simp -implicitDefEqProofs [hkl, hm, hml, hlt]
          refine ⟨fun h => hb h, fun h => ⟨by omega, by simpa using go2 h⟩⟩
        · obtain rfl : k = fs.length := by omega
          have := go fun j hj => hk.2 j hj hj
          refine Run2.of I 1000 ?_
          simp -implicitDefEqProofs [hkl]
          refine ⟨by omega, by simpa using this⟩
      · obtain rfl : i = x.ts.length := by omega
        have eo : x.valid := hv.2 fun k hk => hi.2 k hk (by omega)
        refine Run2.of I 1000 ?_
        simp -implicitDefEqProofs [eo]
    · have hb : ¬ x.valid := fun h => h2 (hv.1 h).2.1
      refine Run2.of I 1000 ?_
      simp -implicitDefEqProofs [hl1, hl2, h1, h2, hb]
  · have hb : ¬ x.valid := fun h => h1 (hv.1 h).1
    refine Run2.of I 1000 ?_
    simp -implicitDefEqProofs [hl1, hl2, h1, hb]
noncomputable def o_l21Ok : List AV → Option (Prop × AV) := tab (fun (x : LS × List Int) => match x with | (rs, ts) => [.ip [.snap 1 (rs.map il), .snap 1 (ts.map iv)]]) (fun x => match x with | (rs, ts) => (⟨rs, ts⟩ : Fil).tot ≤ 1048576) (fun x => match x with | (rs, ts) => .bool (decide (⟨rs, ts⟩ : Fil).valid))
@[simp] theorem o_l21Ok_e (rs : LS) (ts : List Int) : o_l21Ok [.ip [.snap 1 (rs.map il), .snap 1 (ts.map iv)]] = some ((⟨rs, ts⟩ : Fil).tot ≤ 1048576, .bool (decide (⟨rs, ts⟩ : Fil).valid)) := tab_at (enc := fun (x : LS × List Int) => match x with | (rs, ts) => [.ip [.snap 1 (rs.map il), .snap 1 (ts.map iv)]]) (fun x y h => by
  obtain ⟨rs1, ts1⟩ := x; obtain ⟨rs2, ts2⟩ := y; simp at h; simp [h] <;> omega) _ _ (rs, ts)
theorem o_l21Ok_k : Knows Try.prog 53 o_l21Ok := tab_knows fun x hx h => by
  obtain ⟨rs, ts⟩ := x; exact l21Ok_s ⟨rs, ts⟩ h hx
@[simp] theorem Fil_eta (x : Fil) : (⟨x.rs, x.ts⟩ : Fil) = x := rfl
end Go.AG
