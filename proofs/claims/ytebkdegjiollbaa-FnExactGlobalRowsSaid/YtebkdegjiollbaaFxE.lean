/- What a complex and a filtration are: the reference. No statement is made here. -/
import Derived.Test.YtebkdegjiollbaaFxD
namespace Go.AG
open Go.Proofs Go.Proofs.Ytebkdegjiollbaa
set_option linter.unusedSimpArgs false
set_option linter.unusedVariables false
set_option maxRecDepth 4000
noncomputable def orcS3 : List (Nat × (List AV → Option (Prop × AV))) := (98, o_l05Simplex) :: (99, o_l05Before) :: (101, o_l05Drop) :: (100, o_l05Find) :: orcS2
theorem orcS3_p : Pure Try.prog (lk orcS3) := (lk_pure o_l05Simplex_k (lk_pure o_l05Before_k (lk_pure o_l05Drop_k (lk_pure o_l05Find_k orcS2_p))))
@[simp] theorem orcS3_l (b : Bool) (g : FuncId) (l : List AV) : lk orcS3 b g l = if g = 98 then o_l05Simplex l else if g = 99 then o_l05Before l else if g = 101 then o_l05Drop l else if g = 100 then o_l05Find l else lk orcS2 b g l := nr rfl
theorem faces_all {s : List Int} {P : List Int → Prop} (h1 : 1 < s.length) : (∀ f ∈ faces s, P f) ↔ ∀ k, k < s.length → P (dropK s k) := by
  unfold faces
  rw [if_pos h1]
  simp
abbrev k54_o0 : List AJ := [.o ⟨(some 2), none, false, .mv (.c (.bool false)), (some [0])⟩]
abbrev k54_o1 : List AJ := [.o ⟨(some 6), none, false, .mv (.t 0), none⟩, .o ⟨(some 7), none, false, .nilchk (.t 6), none⟩, .o ⟨(some 8), none, false, .fieldA 0 (.t 7), none⟩, .o ⟨(some 9), none, false, .load 1 false (.t 8), none⟩, .o ⟨(some 10), none, false, .len (.t 9), none⟩, .o ⟨(some 11), none, false, .bin .gtr (.t 10) (.c (.int .i64 48)), (some [0, 11])⟩]
abbrev k54_o2 : List AJ := [.o ⟨(some 2), none, false, .mv (.c (.bool false)), (some [2])⟩]
def k54_3 : ACode := .seq (.region k54_o2) .ret
def k54_4 : ACode := .cond (.t 11) k54_3 .skip
def k54_5 : ACode := .seq (.region k54_o1) k54_4
abbrev k54_o3 : List AJ := [.o ⟨(some 3), none, false, .mv (.c (.int .i64 0)), (some [0, 3])⟩]
abbrev k54_o4 : List AJ := [.o ⟨(some 12), none, false, .mv (.t 3), none⟩, .o ⟨(some 13), none, false, .mv (.t 0), none⟩, .o ⟨(some 14), none, false, .nilchk (.t 13), none⟩, .o ⟨(some 15), none, false, .fieldA 0 (.t 14), none⟩, .o ⟨(some 16), none, false, .load 1 false (.t 15), none⟩, .o ⟨(some 17), none, false, .len (.t 16), none⟩, .o ⟨(some 18), none, false, .bin .lss (.t 12) (.t 17), (some [0, 3, 18])⟩]
def k54_8 : ACode := .cond (.t 18) .skip (.exit 0)
def k54_9 : ACode := .seq (.region k54_o4) k54_8
abbrev k54_o5 : List AJ := [.o ⟨(some 21), none, false, .mv (.t 0), none⟩, .o ⟨(some 22), none, false, .nilchk (.t 21), none⟩, .o ⟨(some 23), none, false, .fieldA 0 (.t 22), none⟩, .o ⟨(some 24), none, false, .load 1 false (.t 23), none⟩, .o ⟨(some 25), none, false, .mv (.t 3), none⟩, .o ⟨(some 26), none, false, .idxA 1 (.t 24) (.t 25), none⟩, .o ⟨(some 27), none, false, .load 1 false (.t 26), none⟩, .o ⟨(some 4), none, false, .mv (.t 27), (some [0, 3, 4])⟩]
abbrev k54_o6 : List AJ := [.o ⟨(some 28), none, false, .mv (.t 4), none⟩, .o ⟨(some 29), none, false, .call 98 [(.t 28)], none⟩, .o ⟨(some 30), none, false, .un .not (.t 29), none⟩, .o ⟨(some 31), none, false, .mv (.t 30), none⟩, .o ⟨(some 32), (some (31, false)), false, .mv (.t 3), none⟩, .o ⟨(some 33), (some (31, false)), false, .bin .gtr (.t 32) (.c (.int .i64 0)), none⟩, .o ⟨(some 34), (some (31, false)), false, .mv (.t 33), none⟩, .o ⟨(some 35), (some (34, true)), false, .mv (.t 0), none⟩, .o ⟨(some 36), (some (34, true)), false, .nilchk (.t 35), (some [0, 3, 4, 31, 34, 36])⟩, .o ⟨(some 37), (some (34, true)), false, .fieldA 0 (.t 36), none⟩, .o ⟨(some 38), (some (34, true)), false, .load 1 false (.t 37), none⟩, .o ⟨(some 39), (some (34, true)), false, .mv (.t 3), none⟩, .o ⟨(some 40), (some (34, true)), true, .bin .sub (.t 39) (.c (.int .i64 1)), none⟩, .o ⟨(some 41), (some (34, true)), false, .idxA 1 (.t 38) (.t 40), none⟩, .o ⟨(some 42), (some (34, true)), false, .load 1 false (.t 41), none⟩, .o ⟨(some 43), (some (34, true)), false, .mv (.t 4), (some [0, 3, 4, 31, 34, 42, 43])⟩, .o ⟨(some 44), (some (34, true)), false, .call 99 [(.t 42), (.t 43)], none⟩, .o ⟨(some 45), (some (34, true)), false, .un .not (.t 44), none⟩, .o ⟨(some 46), (some (31, false)), false, .pick (.t 34) (.t 45) (.c (.bool false)), none⟩, .o ⟨(some 47), none, false, .pick (.t 31) (.c (.bool true)) (.t 46), (some [0, 3, 4, 47])⟩]
abbrev k54_o7 : List AJ := [.o ⟨(some 2), none, false, .mv (.c (.bool false)), (some [2])⟩]
def k54_13 : ACode := .seq (.region k54_o7) .ret
def k54_14 : ACode := .cond (.t 47) k54_13 .skip
def k54_15 : ACode := .seq (.region k54_o6) k54_14
abbrev k54_o8 : List AJ := [.o ⟨(some 5), none, false, .mv (.c (.int .i64 0)), (some [0, 3, 4, 5])⟩]
abbrev k54_o9 : List AJ := [.o ⟨(some 48), none, false, .mv (.t 5), none⟩, .o ⟨(some 49), none, false, .mv (.t 4), none⟩, .o ⟨(some 50), none, false, .len (.t 49), none⟩, .o ⟨(some 51), none, false, .bin .lss (.t 48) (.t 50), none⟩, .o ⟨(some 52), none, false, .mv (.t 51), none⟩, .o ⟨(some 53), (some (52, true)), false, .mv (.t 4), none⟩, .o ⟨(some 54), (some (52, true)), false, .len (.t 53), none⟩, .o ⟨(some 55), (some (52, true)), false, .bin .gtr (.t 54) (.c (.int .i64 1)), none⟩, .o ⟨(some 56), none, false, .pick (.t 52) (.t 55) (.c (.bool false)), (some [0, 3, 4, 5, 56])⟩]
def k54_18 : ACode := .cond (.t 56) .skip (.exit 2)
def k54_19 : ACode := .seq (.region k54_o9) k54_18
abbrev k54_o10 : List AJ := [.o ⟨(some 59), none, false, .mv (.t 0), none⟩, .o ⟨(some 60), none, false, .mv (.t 4), none⟩, .o ⟨(some 61), none, false, .mv (.t 5), none⟩, .o ⟨(some 62), none, false, .call 101 [(.t 60), (.t 61)], none⟩, .o ⟨(some 63), none, false, .call 100 [(.t 59), (.t 62)], none⟩, .o ⟨(some 64), none, false, .bin .lss (.t 63) (.c (.int .i64 0)), (some [0, 3, 4, 5, 64])⟩]
abbrev k54_o11 : List AJ := [.o ⟨(some 2), none, false, .mv (.c (.bool false)), (some [2])⟩]
def k54_22 : ACode := .seq (.region k54_o11) .ret
def k54_23 : ACode := .cond (.t 64) k54_22 .skip
def k54_24 : ACode := .seq (.region k54_o10) k54_23
abbrev k54_o12 : List AJ := [.o ⟨(some 57), none, false, .mv (.t 5), none⟩, .o ⟨(some 58), none, true, .bin .add (.t 57) (.c (.int .i64 1)), none⟩, .o ⟨(some 5), none, false, .mv (.t 58), (some [0, 3, 4, 5])⟩]
def k54_26 : ACode := .region k54_o12
def k54_27 : ACode := .seq (.block 3 k54_24) k54_26
def k54_28 : ACode := .seq k54_19 k54_27
def k54_29 : ACode := .loop k54_28
def k54_30 : ACode := .block 2 k54_29
def k54_31 : ACode := .seq (.region k54_o8) k54_30
def k54_32 : ACode := .seq k54_15 k54_31
def k54_33 : ACode := .seq (.region k54_o5) k54_32
abbrev k54_o13 : List AJ := [.o ⟨(some 19), none, false, .mv (.t 3), none⟩, .o ⟨(some 20), none, true, .bin .add (.t 19) (.c (.int .i64 1)), none⟩, .o ⟨(some 3), none, false, .mv (.t 20), (some [0, 3])⟩]
def k54_35 : ACode := .region k54_o13
def k54_36 : ACode := .seq (.block 1 k54_33) k54_35
def k54_37 : ACode := .seq k54_9 k54_36
def k54_38 : ACode := .loop k54_37
def k54_39 : ACode := .block 0 k54_38
def k54_40 : ACode := .seq (.region k54_o3) k54_39
abbrev k54_o14 : List AJ := [.o ⟨(some 2), none, false, .mv (.c (.bool true)), (some [2])⟩]
def k54_42 : ACode := .seq (.region k54_o14) .ret
def k54_43 : ACode := .seq k54_40 k54_42
def k54_44 : ACode := .seq k54_5 k54_43
def k54_45 : ACode := .seq (.region k54_o0) k54_44
@[simp, simp ↓] theorem k54_3r : sR k54_3 k54_o2 .ret := yR rfl
@[simp, simp ↓] theorem k54_4r : rC k54_4 (.t 11) k54_3 .skip := zC rfl
@[simp, simp ↓] theorem k54_5r : sR k54_5 k54_o1 k54_4 := yR rfl
@[simp, simp ↓] theorem k54_8r : rC k54_8 (.t 18) .skip (.exit 0) := zC rfl
@[simp, simp ↓] theorem k54_9r : sR k54_9 k54_o4 k54_8 := yR rfl
@[simp, simp ↓] theorem k54_13r : sR k54_13 k54_o7 .ret := yR rfl
@[simp, simp ↓] theorem k54_14r : rC k54_14 (.t 47) k54_13 .skip := zC rfl
@[simp, simp ↓] theorem k54_15r : sR k54_15 k54_o6 k54_14 := yR rfl
@[simp, simp ↓] theorem k54_18r : rC k54_18 (.t 56) .skip (.exit 2) := zC rfl
@[simp, simp ↓] theorem k54_19r : sR k54_19 k54_o9 k54_18 := yR rfl
@[simp, simp ↓] theorem k54_22r : sR k54_22 k54_o11 .ret := yR rfl
@[simp, simp ↓] theorem k54_23r : rC k54_23 (.t 64) k54_22 .skip := zC rfl
@[simp, simp ↓] theorem k54_24r : sR k54_24 k54_o10 k54_23 := yR rfl
@[simp, simp ↓] theorem k54_26r : rR k54_26 k54_o12 := zR rfl
@[simp, simp ↓] theorem k54_27r : sB k54_27 3 k54_24 k54_26 := yB rfl
@[simp, simp ↓] theorem k54_28r : rS k54_28 k54_19 k54_27 := zS rfl
@[simp, simp ↓] theorem k54_29r : rL k54_29 k54_28 := zL rfl
@[simp, simp ↓] theorem k54_30r : rB k54_30 2 k54_29 := zB rfl
@[simp, simp ↓] theorem k54_31r : sR k54_31 k54_o8 k54_30 := yR rfl
@[simp, simp ↓] theorem k54_32r : rS k54_32 k54_15 k54_31 := zS rfl
@[simp, simp ↓] theorem k54_33r : sR k54_33 k54_o5 k54_32 := yR rfl
@[simp, simp ↓] theorem k54_35r : rR k54_35 k54_o13 := zR rfl
@[simp, simp ↓] theorem k54_36r : sB k54_36 1 k54_33 k54_35 := yB rfl
@[simp, simp ↓] theorem k54_37r : rS k54_37 k54_9 k54_36 := zS rfl
@[simp, simp ↓] theorem k54_38r : rL k54_38 k54_37 := zL rfl
@[simp, simp ↓] theorem k54_39r : rB k54_39 0 k54_38 := zB rfl
@[simp, simp ↓] theorem k54_40r : sR k54_40 k54_o3 k54_39 := yR rfl
@[simp, simp ↓] theorem k54_42r : sR k54_42 k54_o14 .ret := yR rfl
@[simp, simp ↓] theorem k54_43r : rS k54_43 k54_40 k54_42 := zS rfl
@[simp, simp ↓] theorem k54_44r : rS k54_44 k54_5 k54_43 := zS rfl
@[simp, simp ↓] theorem k54_45r : sR k54_45 k54_o0 k54_44 := yR rfl
noncomputable abbrev k54_C : Orc → Cx := mkC Try.prog [] 54 65 [.tmp 2]
theorem k54_of0 : OfP0 Try.prog Try.f54 54 65 k54_C k54_45 := @ofP0 _ _ _ _ _ _ _ _ Try.func54 (by decide +kernel) rfl (by kernel_rfl) rfl (by kernel_rfl)
theorem l05Ok_s (rs : List (List Int)) (e : List AV) (h : Heap) (hl : ssTot rs ≤ 1048576) : ACalls Try.prog 54 [.ip (.snap 1 (rs.map il) :: e)] h (fun v h' => v = .bool (decide (cxOk rs)) ∧ h' = h) := by
  have hf := fit_of_tot hl
  have hn := hf.1
  refine k54_of0 rfl orcS3_p fun I => ?_
  by_cases h48 : rs.length ≤ 48
  · have h48' : ¬ (48 : Int) < rs.length := by omega
    refine Run2.of I 1000 ?_
    simp -implicitDefEqProofs [h48']
    refine Run2.loopE (fun (i : Nat) => [(0, .ip (.snap 1 (rs.map il) :: e)), (3, .int .i64 i)]) (fun i => h) (fun i => rs.length - i) (fun i => i ≤ rs.length ∧ ∀ j (hj : j < rs.length), j < i → cxAt rs j hj) 0 (by simp) rfl ⟨Nat.zero_le _, fun _ _ h => by omega⟩ fun i hi ih => ?_
    by_cases hlt : i < rs.length
    · have hr := hf.2 _ (List.getElem_mem hlt)
      have hbad : ¬ cxAt rs i hlt → ¬ cxOk rs := fun h1 h2 => h1 (h2.1 i hlt)
      have go := fun (h1 : cxAt rs i hlt) => ih (i + 1) ⟨by omega, fun j hj hji => by
        rcases Nat.lt_or_ge j i with h | h
        · exact hi.2 j hj h
        · obtain rfl : j = i := by omega
          exact h1⟩ (by omega)
      clear ih
      by_cases h1 : smOk rs[i]
      · have h4 := h1.1.2
        have key : (0 < i → cmpS rs[i - 1] rs[i] < 0) → Run2 (k54_C (lk orcS3)) [.code k54_28, .inLoop k54_28, .inBlock 2, .inBlock 1, .code k54_35, .inLoop k54_37, .inBlock 0, .code k54_42]
            [(0, .ip (.snap 1 (rs.map il) :: e)), (3, .int .i64 i), (4, .snap 1 (rs[i].map iv)), (5, .int .i64 0)] h fun v h' => v = .bool (decide (cxOk rs)) ∧ h' = h := fun h2 => by
          have hst : cxAt rs i hlt ↔ ∀ f ∈ faces rs[i], f ∈ rs := ⟨fun h => h.2.2, fun h => ⟨h1, h2, h⟩⟩
          generalize hs : rs[i] = s at *
          by_cases hs1 : 1 < s.length
          · rw [faces_all hs1] at hst
            refine Run2.loopE (fun (k : Nat) => [(0, .ip (.snap 1 (rs.map il) :: e)), (3, .int .i64 i), (4, .snap 1 (s.map iv)), (5, .int .i64 k)]) (fun i => h) (fun k => s.length - k) (fun k => k ≤ s.length ∧ ∀ j, j < k → dropK s j ∈ rs) 0 (by simp) rfl ⟨Nat.zero_le _, fun _ h => by omega⟩ fun k hk ih => ?_
            by_cases hkl : k < s.length
            · have hdl := dropK_length hkl
              have go2 := fun (hm : dropK s k ∈ rs) => ih (k + 1) ⟨by omega, fun j hj => by
                rcases Nat.lt_or_ge j k with h | h
                · exact hk.2 j h
                · obtain rfl : j = k := by omega
                  exact hm⟩ (by omega)
              have hb := fun (hm : dropK s k ∉ rs) => hbad fun h => hm (hst.1 h k hkl)
              clear ih
              refine Run2.of I 1000 ?_
              have hs1' : (1 : Int) < s.length := by omega
              simp -implicitDefEqProofs [hkl, hs1', hr, hl, ixS_neg]
              refine ⟨fun h => hb h, fun h => ⟨by omega, by simpa using go2 h⟩⟩
            · obtain rfl : k = s.length := by omega
              have := go (hst.2 fun j hj => hk.2 j hj)
              refine Run2.of I 1000 ?_
              simp -implicitDefEqProofs [hkl]
              refine ⟨by omega, by simpa using this⟩
          · have hno : faces s = [] := by unfold faces; rw [if_neg hs1]
            have := go (hst.2 fun f hf => by rw [hno] at hf; simp at hf)
            by_cases hs0 : 0 < s.length
            · refine Run2.loopE (fun (k : Nat) => [(0, .ip (.snap 1 (rs.map il) :: e)), (3, .int .i64 i), (4, .snap 1 (s.map iv)), (5, .int .i64 k)]) (fun i => h) (fun k => 0) (fun k => k = 0) 0 (by simp) rfl rfl fun k hk ih => ?_
              subst hk
              have hs1' : ¬ (1 : Int) < s.length := by omega
              refine Run2.of I 1000 ?_
              simp -implicitDefEqProofs [hs0, hs1']
              refine ⟨by omega, by simpa using this⟩
            · exact absurd h1.1.1 (by omega)
        rcases Nat.eq_zero_or_pos i with hz | hpos
        · have hz' : ¬ 0 < i := by omega
          have key := key (fun h => by omega)
          refine Run2.of I 1000 ?_
          simp -implicitDefEqProofs [hlt, hr, h1, hz']
          exact key
        · have hlt' : i - 1 < rs.length := by omega
          have hr' := hf.2 _ (List.getElem_mem hlt')
          have hc : ((i : Int) - 1).toNat = i - 1 := by omega
          by_cases h2 : cmpS rs[i - 1] rs[i] < 0
          · have key := key (fun _ => h2)
            refine Run2.of I 1000 ?_
            simp -implicitDefEqProofs [hlt, hlt', hr, hr', h1, hc, h2, hpos]
            exact ⟨by omega, by omega, key⟩
          · have hb := hbad fun h => h2 (h.2.1 hpos)
            refine Run2.of I 1000 ?_
            simp -implicitDefEqProofs [hlt, hlt', hr, hr', h1, hc, h2, hpos, hb]
            omega
      · have hb := hbad fun h => h1 h.1
        refine Run2.of I 1000 ?_
        simp -implicitDefEqProofs [hlt, hr, h1, hb]
    · obtain rfl : i = rs.length := by omega
      have eo : cxOk rs := ⟨fun j hj => hi.2 j hj hj, h48⟩
      refine Run2.of I 1000 ?_
      simp -implicitDefEqProofs [eo]
  · have h48' : (48 : Int) < rs.length := by omega
    have eo : ¬ cxOk rs := fun h => h48 h.2
    refine Run2.of I 1000 ?_
    simp -implicitDefEqProofs [h48', eo]
noncomputable def o_l05Ok : List AV → Option (Prop × AV) := tab (fun (x : LS × List AV) => match x with | (rs, e) => [.ip (.snap 1 (rs.map il) :: e)]) (fun x => match x with | (rs, e) => ssTot rs ≤ 1048576) (fun x => match x with | (rs, e) => .bool (decide (cxOk rs)))
@[simp] theorem o_l05Ok_e (rs : LS) (e : List AV) : o_l05Ok [.ip (.snap 1 (rs.map il) :: e)] = some (ssTot rs ≤ 1048576, .bool (decide (cxOk rs))) := tab_at (enc := fun (x : LS × List AV) => match x with | (rs, e) => [.ip (.snap 1 (rs.map il) :: e)]) (fun x y h => by
  obtain ⟨rs1, e1⟩ := x; obtain ⟨rs2, e2⟩ := y; simp at h; simp [h] <;> omega) _ _ (rs, e)
theorem o_l05Ok_k : Knows Try.prog 54 o_l05Ok := tab_knows fun x hx h => by
  obtain ⟨rs, e⟩ := x; exact l05Ok_s rs e h hx
/-- The places of the faces. -/
def facesI (rs : List (List Int)) (s : List Int) : List Int := (faces s).map (ixS rs)
theorem facesI_length (rs : List (List Int)) (s : List Int) : (facesI rs s).length ≤ s.length := by
  unfold facesI; rw [List.length_map]; exact faces_length s

def colOk (l : List Int) (n p : Int) : Prop := (l.length : Int) = n ∧ ∀ t ∈ l, 0 ≤ t ∧ t ≤ p - 1
noncomputable instance (l : List Int) (n p : Int) : Decidable (colOk l n p) := Classical.propDecidable _

noncomputable def orcS4 : List (Nat × (List AV → Option (Prop × AV))) := (54, o_l05Ok) :: orcS3
theorem orcS4_p : Pure Try.prog (lk orcS4) := (lk_pure o_l05Ok_k orcS3_p)
@[simp] theorem orcS4_l (b : Bool) (g : FuncId) (l : List AV) : lk orcS4 b g l = if g = 54 then o_l05Ok l else lk orcS3 b g l := nr rfl
def Fil.valid' (x : Fil) : Prop := cxOk x.rs ∧ colOk x.ts x.rs.length 1001 ∧ ∀ k (h : k < x.rs.length), x.faceOk k h
theorem Fil.valid_iff (x : Fil) : x.valid ↔ x.valid' := by
  unfold Fil.valid Fil.valid' colOk
  constructor
  · rintro ⟨h1, ⟨h2, h3⟩, h4⟩; exact ⟨h1, ⟨by omega, fun t ht => by have := h3 t ht; omega⟩, h4⟩
  · rintro ⟨h1, ⟨h2, h3⟩, h4⟩; exact ⟨h1, ⟨by omega, fun t ht => by have := h3 t ht; omega⟩, h4⟩
theorem faceOk_iff (x : Fil) (k : Nat) (h : k < x.rs.length) : x.faceOk k h ↔ ∀ j (hj : j < (facesI x.rs x.rs[k]).length), x.ts.getD ((facesI x.rs x.rs[k])[j]).toNat 0 ≤ x.ts.getD k 0 := by
  unfold Fil.faceOk facesI
  constructor
  · intro h1 j hj
    have := h1 ((faces x.rs[k])[j]'(by simpa using hj)) (List.getElem_mem _)
    simpa using this
  · intro h1 f hf
    obtain ⟨j, hj, rfl⟩ := List.mem_iff_getElem.1 hf
    have := h1 j (by simpa using hj)
    simpa using this
theorem facesI_in {rs : List (List Int)} (h : cxOk rs) {i : Nat} (hi : i < rs.length) : ∀ k ∈ facesI rs rs[i], 0 ≤ k ∧ k < rs.length := by
  intro k hk
  unfold facesI at hk
  obtain ⟨f, hf, rfl⟩ := List.mem_map.1 hk
  obtain ⟨j, hj, _, e⟩ := ixS_mem ((h.1 i hi).2.2 f hf)
  omega

@[simp] theorem Fil_eta (x : Fil) : (⟨x.rs, x.ts⟩ : Fil) = x := rfl
end Go.AG
