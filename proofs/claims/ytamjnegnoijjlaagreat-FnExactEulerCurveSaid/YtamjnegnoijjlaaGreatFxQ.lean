/- The Euler numbers of a filtration: the program and the reference. No statement is made here. -/
import Derived.Test.YtamjnegnoijjlaaGreatFxP
namespace Go.AG
open Go.Proofs Go.Proofs.YtamjnegnoijjlaaGreat
set_option linter.unusedSimpArgs false
set_option linter.unusedVariables false
set_option maxRecDepth 4000
def eu1 (r : List Int) : Int := if r.length % 2 = 1 then 1 else -1
def eul (rs : List (List Int)) : Int := rs.foldl (fun s r => s + eu1 r) 0
theorem eul_snoc (rs : List (List Int)) (r : List Int) : eul (rs ++ [r]) = eul rs + eu1 r := by simp [eul, List.foldl_append]
theorem eul_bd (rs : List (List Int)) : -(rs.length : Int) ≤ eul rs ∧ eul rs ≤ rs.length := by
  suffices h : ∀ s : Int, s - rs.length ≤ rs.foldl (fun s r => s + eu1 r) s ∧ rs.foldl (fun s r => s + eu1 r) s ≤ s + rs.length by
    have := h 0; unfold eul; omega
  induction rs with
  | nil => intro s; simp
  | cons a t ih =>
    intro s
    have h1 := ih (s + eu1 a)
    have h2 : eu1 a = 1 ∨ eu1 a = -1 := by unfold eu1; split <;> simp
    rw [List.foldl_cons, List.length_cons]
    omega
theorem eul_len (rs : List (List Int)) {i : Nat} (hi : i < rs.length) : eul (rs.take (i + 1)) = eul (rs.take i) + eu1 rs[i] := by
  rw [List.take_succ_eq_append_getElem hi, eul_snoc]
abbrev k35_o0 : List AJ := [.o ⟨(some 2), none, false, .mv (.c (.int .i64 0)), (some [0])⟩]
abbrev k35_o1 : List AJ := [.o ⟨(some 3), none, false, .mv (.t 0), none⟩, .o ⟨(some 4), none, false, .len (.t 3), none⟩, .o ⟨(some 2), none, false, .mv (.t 4), (some [2])⟩]
def k35_2 : ACode := .seq (.region k35_o1) .ret
def k35_3 : ACode := .seq (.region k35_o0) k35_2
@[simp, simp ↓] theorem k35_2r : sR k35_2 k35_o1 .ret := yR rfl
@[simp, simp ↓] theorem k35_3r : sR k35_3 k35_o0 k35_2 := yR rfl
noncomputable abbrev k35_C : Orc → Cx := mkC Tryz.prog [] 35 5 [.tmp 2]
theorem k35_of0 : OfP0 Tryz.prog Tryz.f35 35 5 k35_C k35_3 := @ofP0 _ _ _ _ _ _ _ _ Tryz.func35 (by decide +kernel) rfl (by kernel_rfl) rfl (by kernel_rfl)
theorem sizeI_q (l : List Int) (h : Heap) : ACalls Tryz.prog 35 [.snap 1 (l.map iv)] h (fun v h' => v = .int .i64 l.length ∧ h' = h) := by
  refine k35_of0 rfl noPure fun I => ?_
  refine Run2.of I 1000 ?_
  simp -implicitDefEqProofs
noncomputable def o_sizeI : List AV → Option (Prop × AV) := tab (fun (x : List Int) => match x with | l => [.snap 1 (l.map iv)]) (fun x => match x with | l => True) (fun x => match x with | l => .int .i64 l.length)
@[simp] theorem o_sizeI_e (l : List Int) : o_sizeI [.snap 1 (l.map iv)] = some (True, .int .i64 l.length) := tab_at (enc := fun (x : List Int) => match x with | l => [.snap 1 (l.map iv)]) (fun x y h => by
  simp at h; simp [h] <;> omega) _ _ l
theorem o_sizeI_k : Knows Tryz.prog 35 o_sizeI := tab_knows fun x hx h => by
  exact sizeI_q x h
noncomputable def orcQ1 : List (Nat × (List AV → Option (Prop × AV))) := (61, o_validCx) :: (35, o_sizeI) :: []
theorem orcQ1_p : Pure Tryz.prog (lk orcQ1) := (lk_pure o_validCx_k (lk_pure o_sizeI_k lk_pure0))
@[simp] theorem orcQ1_l (b : Bool) (g : FuncId) (l : List AV) : lk orcQ1 b g l = if g = 61 then o_validCx l else if g = 35 then o_sizeI l else none := nr rfl
abbrev k51_o0 : List AJ := [.o ⟨(some 1), none, false, .box false 1 (.t 0), none⟩, .o ⟨(some 2), none, false, .mv (.c (.int .i64 0)), none⟩, .o ⟨(some 3), none, false, .mv (.c (.int .i64 0)), (some [1])⟩]
abbrev k51_o1 : List AJ := [.o ⟨(some 7), none, false, .load 1 true (.t 1), none⟩, .o ⟨(some 8), none, false, .call 61 [(.t 7)], none⟩, .o ⟨(some 9), none, false, .un .not (.t 8), (some [1, 9])⟩]
abbrev k51_o2 : List AJ := [.o ⟨(some 2), none, false, .mv (.c (.int .i64 0)), none⟩, .o ⟨(some 3), none, false, .mv (.c (.int .i64 1)), (some [2, 3])⟩]
def k51_3 : ACode := .seq (.region k51_o2) .ret
def k51_4 : ACode := .cond (.t 9) k51_3 .skip
def k51_5 : ACode := .seq (.region k51_o1) k51_4
abbrev k51_o3 : List AJ := [.o ⟨(some 4), none, false, .mv (.c (.int .i64 0)), (some [1, 4])⟩]
abbrev k51_o4 : List AJ := [.o ⟨(some 10), none, false, .fieldA 0 (.t 1), none⟩, .o ⟨(some 11), none, false, .load 1 false (.t 10), none⟩, .o ⟨(some 12), none, false, .len (.t 11), none⟩, .o ⟨(some 13), none, false, .mv (.c (.int .i64 0)), (some [4, 11, 12, 13])⟩]
abbrev k51_o5 : List AJ := [.o ⟨(some 14), none, false, .bin .lss (.t 13) (.t 12), (some [4, 11, 12, 13, 14])⟩]
abbrev k51_o6 : List AJ := [.o ⟨(some 15), none, false, .idxA 1 (.t 11) (.t 13), none⟩, .o ⟨(some 16), none, false, .load 1 false (.t 15), none⟩, .o ⟨(some 6), none, false, .mv (.t 16), (some [4, 6, 11, 12, 13])⟩]
abbrev k51_o7 : List AJ := [.o ⟨(some 17), none, false, .mv (.t 4), none⟩, .o ⟨(some 18), none, false, .mv (.t 6), none⟩, .o ⟨(some 19), none, false, .call 35 [(.t 18)], none⟩, .o ⟨(some 20), none, false, .bin .rem (.t 19) (.c (.int .i64 2)), none⟩, .o ⟨(some 21), none, true, .bin .mul (.c (.int .i64 2)) (.t 20), none⟩, .o ⟨(some 22), none, true, .bin .sub (.t 21) (.c (.int .i64 1)), none⟩, .o ⟨(some 23), none, true, .bin .add (.t 17) (.t 22), none⟩, .o ⟨(some 4), none, false, .mv (.t 23), (some [4, 11, 12, 13])⟩]
def k51_11 : ACode := .region k51_o7
def k51_12 : ACode := .seq (.region k51_o6) k51_11
abbrev k51_o8 : List AJ := [.o ⟨(some 24), none, true, .bin .add (.t 13) (.c (.int .i64 1)), none⟩, .o ⟨(some 13), none, false, .mv (.t 24), (some [4, 11, 12, 13])⟩]
def k51_14 : ACode := .region k51_o8
def k51_15 : ACode := .seq (.block 1 k51_12) k51_14
def k51_16 : ACode := .seq (.cond (.t 14) .skip (.exit 0)) k51_15
def k51_17 : ACode := .seq (.region k51_o5) k51_16
def k51_18 : ACode := .loop k51_17
def k51_19 : ACode := .block 0 k51_18
def k51_20 : ACode := .seq (.region k51_o4) k51_19
abbrev k51_o9 : List AJ := [.o ⟨(some 25), none, false, .mv (.t 4), none⟩, .o ⟨(some 2), none, false, .mv (.t 25), none⟩, .o ⟨(some 3), none, false, .mv (.c (.int .i64 0)), (some [2, 3])⟩]
def k51_22 : ACode := .seq (.region k51_o9) .ret
def k51_23 : ACode := .seq k51_20 k51_22
def k51_24 : ACode := .seq (.region k51_o3) k51_23
def k51_25 : ACode := .seq k51_5 k51_24
def k51_26 : ACode := .seq (.region k51_o0) k51_25
@[simp, simp ↓] theorem k51_3r : sR k51_3 k51_o2 .ret := yR rfl
@[simp, simp ↓] theorem k51_4r : rC k51_4 (.t 9) k51_3 .skip := zC rfl
@[simp, simp ↓] theorem k51_5r : sR k51_5 k51_o1 k51_4 := yR rfl
@[simp, simp ↓] theorem k51_11r : rR k51_11 k51_o7 := zR rfl
@[simp, simp ↓] theorem k51_12r : sR k51_12 k51_o6 k51_11 := yR rfl
@[simp, simp ↓] theorem k51_14r : rR k51_14 k51_o8 := zR rfl
@[simp, simp ↓] theorem k51_15r : sB k51_15 1 k51_12 k51_14 := yB rfl
@[simp, simp ↓] theorem k51_16r : sC k51_16 (.t 14) .skip (.exit 0) k51_15 := yC rfl
@[simp, simp ↓] theorem k51_17r : sR k51_17 k51_o5 k51_16 := yR rfl
@[simp, simp ↓] theorem k51_18r : rL k51_18 k51_17 := zL rfl
@[simp, simp ↓] theorem k51_19r : rB k51_19 0 k51_18 := zB rfl
@[simp, simp ↓] theorem k51_20r : sR k51_20 k51_o4 k51_19 := yR rfl
@[simp, simp ↓] theorem k51_22r : sR k51_22 k51_o9 .ret := yR rfl
@[simp, simp ↓] theorem k51_23r : rS k51_23 k51_20 k51_22 := zS rfl
@[simp, simp ↓] theorem k51_24r : sR k51_24 k51_o3 k51_23 := yR rfl
@[simp, simp ↓] theorem k51_25r : rS k51_25 k51_5 k51_24 := zS rfl
@[simp, simp ↓] theorem k51_26r : sR k51_26 k51_o0 k51_25 := yR rfl
noncomputable abbrev k51_C : Orc → Cx := mkC Tryz.prog [] 51 26 [.tmp 2, .tmp 3]
theorem k51_of0 : OfP0 Tryz.prog Tryz.f51 51 26 k51_C k51_26 := @ofP0 _ _ _ _ _ _ _ _ Tryz.func51 (by decide +kernel) rfl (by kernel_rfl) rfl (by kernel_rfl)
theorem EulerN_s (rs : List (List Int)) (h : Heap) (hl : ssTot rs ≤ 1048576) (hc : cxOk rs) : ACalls Tryz.prog 51 [cx rs] h (fun v h' => v = .tup [.int .i64 (eul rs), .int .i64 0] ∧ h' = h) := by
  have hf := fit_of_tot hl
  have hn := hf.1
  refine k51_of0 rfl orcQ1_p fun I => ?_
  refine Run2.of I 1000 ?_
  simp -implicitDefEqProofs [hl, hc]
  refine Run2.loopE (fun (i : Nat) => [(4, .int .i64 (eul (rs.take i))), (11, .snap 1 (rs.map il)), (12, .int .i64 rs.length), (13, .int .i64 i)]) (fun _ => h) (fun i => rs.length - i) (fun i => i ≤ rs.length) 0 (by simp [eul]) rfl (Nat.zero_le _) fun i hi ih => ?_
  have hb := eul_bd (rs.take i)
  rw [List.length_take] at hb
  by_cases hlt : i < rs.length
  · have hr := hf.2 _ (List.getElem_mem hlt)
    have go := ih (i + 1) hlt (by omega)
    rw [eul_len rs hlt] at go
    clear ih
    generalize eul (rs.take i) = S at *
    have he : 2 * ((rs[i].length : Int).tmod 2) - 1 = eu1 rs[i] := by
      unfold eu1
      rw [Int.tmod_eq_emod_of_nonneg (by omega)]
      split <;> omega
    generalize hE : eu1 rs[i] = E at *
    generalize hL : rs[i].length = L at *
    refine Run2.of I 1000 ?_
    simp -implicitDefEqProofs [hlt]
    have hE2 : E = 1 ∨ E = -1 := by rw [← hE]; unfold eu1; split <;> simp
    rw [hL]
    generalize (L : Int).tmod 2 = M at *
    rw [he]
    refine ⟨by omega, by omega, by omega, by omega, by simpa using go⟩
  · obtain rfl : i = rs.length := by omega
    rw [List.take_length] at *
    refine Run2.of I 1000 ?_
    simp -implicitDefEqProofs [hlt]
abbrev k49_o0 : List AJ := [.o ⟨(some 2), none, false, .mv (.c (.int .i64 0)), (some [0])⟩]
abbrev k49_o1 : List AJ := [.o ⟨(some 3), none, false, .mv (.c (.int .i64 0)), (some [0, 3])⟩]
abbrev k49_o2 : List AJ := [.o ⟨(some 4), none, false, .mv (.c (.int .i64 0)), (some [0, 3, 4])⟩]
abbrev k49_o3 : List AJ := [.o ⟨(some 5), none, false, .mv (.t 4), none⟩, .o ⟨(some 6), none, false, .mv (.t 0), none⟩, .o ⟨(some 7), none, false, .nilchk (.t 6), none⟩, .o ⟨(some 8), none, false, .fieldA 0 (.t 7), none⟩, .o ⟨(some 9), none, false, .load 1 false (.t 8), none⟩, .o ⟨(some 10), none, false, .len (.t 9), none⟩, .o ⟨(some 11), none, false, .bin .lss (.t 5) (.t 10), (some [0, 3, 4, 11])⟩]
def k49_4 : ACode := .cond (.t 11) .skip (.exit 0)
def k49_5 : ACode := .seq (.region k49_o3) k49_4
abbrev k49_o4 : List AJ := [.o ⟨(some 14), none, false, .mv (.t 0), none⟩, .o ⟨(some 15), none, false, .nilchk (.t 14), none⟩, .o ⟨(some 16), none, false, .fieldA 0 (.t 15), none⟩, .o ⟨(some 17), none, false, .load 1 false (.t 16), none⟩, .o ⟨(some 18), none, false, .mv (.t 4), none⟩, .o ⟨(some 19), none, false, .idxA 1 (.t 17) (.t 18), none⟩, .o ⟨(some 20), none, false, .load 1 false (.t 19), none⟩, .o ⟨(some 21), none, false, .len (.t 20), none⟩, .o ⟨(some 22), none, false, .bin .rem (.t 21) (.c (.int .i64 2)), none⟩, .o ⟨(some 23), none, false, .bin .eql (.t 22) (.c (.int .i64 1)), (some [0, 3, 4, 23])⟩]
abbrev k49_o5 : List AJ := [.o ⟨(some 24), none, false, .mv (.t 3), none⟩, .o ⟨(some 25), none, true, .bin .add (.t 24) (.c (.int .i64 1)), none⟩, .o ⟨(some 3), none, false, .mv (.t 25), (some [0, 3, 4])⟩]
def k49_7 : ACode := .region k49_o5
abbrev k49_o6 : List AJ := [.o ⟨(some 26), none, false, .mv (.t 3), none⟩, .o ⟨(some 27), none, true, .bin .sub (.t 26) (.c (.int .i64 1)), none⟩, .o ⟨(some 3), none, false, .mv (.t 27), (some [0, 3, 4])⟩]
def k49_8 : ACode := .region k49_o6
def k49_9 : ACode := .cond (.t 23) k49_7 k49_8
def k49_10 : ACode := .seq (.region k49_o4) k49_9
abbrev k49_o7 : List AJ := [.o ⟨(some 12), none, false, .mv (.t 4), none⟩, .o ⟨(some 13), none, true, .bin .add (.t 12) (.c (.int .i64 1)), none⟩, .o ⟨(some 4), none, false, .mv (.t 13), (some [0, 3, 4])⟩]
def k49_12 : ACode := .region k49_o7
def k49_13 : ACode := .seq (.block 1 k49_10) k49_12
def k49_14 : ACode := .seq k49_5 k49_13
def k49_15 : ACode := .loop k49_14
def k49_16 : ACode := .block 0 k49_15
def k49_17 : ACode := .seq (.region k49_o2) k49_16
abbrev k49_o8 : List AJ := [.o ⟨(some 28), none, false, .mv (.t 3), none⟩, .o ⟨(some 2), none, false, .mv (.t 28), (some [2])⟩]
def k49_19 : ACode := .seq (.region k49_o8) .ret
def k49_20 : ACode := .seq k49_17 k49_19
def k49_21 : ACode := .seq (.region k49_o1) k49_20
def k49_22 : ACode := .seq (.region k49_o0) k49_21
@[simp, simp ↓] theorem k49_4r : rC k49_4 (.t 11) .skip (.exit 0) := zC rfl
@[simp, simp ↓] theorem k49_5r : sR k49_5 k49_o3 k49_4 := yR rfl
@[simp, simp ↓] theorem k49_7r : rR k49_7 k49_o5 := zR rfl
@[simp, simp ↓] theorem k49_8r : rR k49_8 k49_o6 := zR rfl
@[simp, simp ↓] theorem k49_9r : rC k49_9 (.t 23) k49_7 k49_8 := zC rfl
@[simp, simp ↓] theorem k49_10r : sR k49_10 k49_o4 k49_9 := yR rfl
@[simp, simp ↓] theorem k49_12r : rR k49_12 k49_o7 := zR rfl
@[simp, simp ↓] theorem k49_13r : sB k49_13 1 k49_10 k49_12 := yB rfl
@[simp, simp ↓] theorem k49_14r : rS k49_14 k49_5 k49_13 := zS rfl
@[simp, simp ↓] theorem k49_15r : rL k49_15 k49_14 := zL rfl
@[simp, simp ↓] theorem k49_16r : rB k49_16 0 k49_15 := zB rfl
@[simp, simp ↓] theorem k49_17r : sR k49_17 k49_o2 k49_16 := yR rfl
@[simp, simp ↓] theorem k49_19r : sR k49_19 k49_o8 .ret := yR rfl
@[simp, simp ↓] theorem k49_20r : rS k49_20 k49_17 k49_19 := zS rfl
@[simp, simp ↓] theorem k49_21r : sR k49_21 k49_o1 k49_20 := yR rfl
@[simp, simp ↓] theorem k49_22r : sR k49_22 k49_o0 k49_21 := yR rfl
noncomputable abbrev k49_C : Orc → Cx := mkC Tryz.prog [] 49 29 [.tmp 2]
theorem k49_of0 : OfP0 Tryz.prog Tryz.f49 49 29 k49_C k49_22 := @ofP0 _ _ _ _ _ _ _ _ Tryz.func49 (by decide +kernel) rfl (by kernel_rfl) rfl (by kernel_rfl)
theorem l05Euler_s (rs : List (List Int)) (h : Heap) (hl : ssTot rs ≤ 1048576) : ACalls Tryz.prog 49 [.ip [.snap 1 (rs.map il)]] h (fun v h' => v = .int .i64 (eul rs) ∧ h' = h) := by
  have hf := fit_of_tot hl
  have hn := hf.1
  refine k49_of0 rfl noPure fun I => ?_
  refine Run2.of I 1000 ?_
  simp -implicitDefEqProofs
  refine Run2.loopE (fun (i : Nat) => [(0, .ip [.snap 1 (rs.map il)]), (3, .int .i64 (eul (rs.take i))), (4, .int .i64 i)]) (fun _ => h) (fun i => rs.length - i) (fun i => i ≤ rs.length) 0 (by simp [eul]) rfl (Nat.zero_le _) fun i hi ih => ?_
  have hbd := eul_bd (rs.take i)
  rw [List.length_take] at hbd
  by_cases hlt : i < rs.length
  · have hr := hf.2 _ (List.getElem_mem hlt)
    have go := ih (i + 1) hlt (by omega)
    rw [eul_len rs hlt] at go
    clear ih
    generalize eul (rs.take i) = S at *
    have ho : (rs[i].length : Int).tmod 2 = 1 ↔ rs[i].length % 2 = 1 := by
      rw [Int.tmod_eq_emod_of_nonneg (by omega)]; omega
    by_cases h1 : rs[i].length % 2 = 1
    · have h1' := ho.2 h1
      rw [show eu1 rs[i] = 1 by unfold eu1; rw [if_pos h1]] at go
      refine Run2.of I 1000 ?_
      simp -implicitDefEqProofs [hlt, h1']
      exact ⟨by omega, by omega, by simpa using go⟩
    · have h1' : ¬ (rs[i].length : Int).tmod 2 = 1 := fun h => h1 (ho.1 h)
      rw [show eu1 rs[i] = -1 by unfold eu1; rw [if_neg h1]] at go
      refine Run2.of I 1000 ?_
      simp -implicitDefEqProofs [hlt, h1']
      exact ⟨by omega, by omega, by simpa [Int.sub_eq_add_neg] using go⟩
  · obtain rfl : i = rs.length := by omega
    rw [List.take_length] at *
    refine Run2.of I 1000 ?_
    simp -implicitDefEqProofs [hlt]
noncomputable def o_l05Euler : List AV → Option (Prop × AV) := tab (fun (x : LS) => match x with | rs => [.ip [.snap 1 (rs.map il)]]) (fun x => match x with | rs => ssTot rs ≤ 1048576) (fun x => match x with | rs => .int .i64 (eul rs))
@[simp] theorem o_l05Euler_e (rs : LS) : o_l05Euler [.ip [.snap 1 (rs.map il)]] = some (ssTot rs ≤ 1048576, .int .i64 (eul rs)) := tab_at (enc := fun (x : LS) => match x with | rs => [.ip [.snap 1 (rs.map il)]]) (fun x y h => by
  simp at h; simp [h] <;> omega) _ _ rs
theorem o_l05Euler_k : Knows Tryz.prog 49 o_l05Euler := tab_knows fun x hx h => by
  exact l05Euler_s x h hx
def euT (x : Fil) (t : Int) : Int := eul (x.atT t)
noncomputable def Fil.euL (x : Fil) : List Int := if x.valid then (critL x.ts).map (euT x) else []
theorem Fil.euL_len (x : Fil) : x.euL.length ≤ x.ts.length := by
  unfold Fil.euL
  split
  · rw [List.length_map]; exact critL_len _
  · simp
noncomputable def orcQ2 : List (Nat × (List AV → Option (Prop × AV))) := (47, o_l22Times) :: (25, o_l21Ok) :: (48, o_l21At) :: (49, o_l05Euler) :: []
theorem orcQ2_p : Pure Tryz.prog (lk orcQ2) := (lk_pure o_l22Times_k (lk_pure o_l21Ok_k (lk_pure o_l21At_k (lk_pure o_l05Euler_k lk_pure0))))
@[simp] theorem orcQ2_l (b : Bool) (g : FuncId) (l : List AV) : lk orcQ2 b g l = if g = 47 then o_l22Times l else if g = 25 then o_l21Ok l else if g = 48 then o_l21At l else if g = 49 then o_l05Euler l else none := nr rfl
abbrev k18_o0 : List AJ := [.o ⟨(some 1), none, false, .box false 2 (.t 0), none⟩, .o ⟨(some 2), none, false, .mv (.c .nilsl), none⟩, .o ⟨(some 3), none, false, .mv (.c (.int .i64 0)), (some [1])⟩]
abbrev k18_o1 : List AJ := [.o ⟨(some 8), none, false, .call 25 [(.t 1)], none⟩, .o ⟨(some 9), none, false, .un .not (.t 8), (some [1, 9])⟩]
abbrev k18_o2 : List AJ := [.o ⟨(some 2), none, false, .mv (.c .nilsl), none⟩, .o ⟨(some 3), none, false, .mv (.c (.int .i64 1)), (some [2, 3])⟩]
def k18_3 : ACode := .seq (.region k18_o2) .ret
def k18_4 : ACode := .cond (.t 9) k18_3 .skip
def k18_5 : ACode := .seq (.region k18_o1) k18_4
abbrev k18_o3 : List AJ := [.o ⟨(some 10), none, false, .call 47 [(.t 1)], none⟩, .o ⟨(some 4), none, false, .mv (.t 10), (some [1, 4])⟩]
abbrev k18_o4 : List AJ := [.e 11 1 none, .o ⟨(some 5), none, false, .mv (.t 11), (some [1, 4, 5])⟩]
abbrev k18_o5 : List AJ := [.o ⟨(some 6), none, false, .mv (.c (.int .i64 0)), (some [1, 4, 5, 6])⟩]
abbrev k18_o6 : List AJ := [.o ⟨(some 12), none, false, .mv (.t 6), none⟩, .o ⟨(some 13), none, false, .mv (.t 4), none⟩, .o ⟨(some 14), none, false, .len (.t 13), none⟩, .o ⟨(some 15), none, false, .bin .lss (.t 12) (.t 14), (some [1, 4, 5, 6, 15])⟩]
def k18_10 : ACode := .cond (.t 15) .skip (.exit 0)
def k18_11 : ACode := .seq (.region k18_o6) k18_10
abbrev k18_o7 : List AJ := [.o ⟨(some 18), none, false, .mv (.t 4), none⟩, .o ⟨(some 19), none, false, .mv (.t 6), none⟩, .o ⟨(some 20), none, false, .idxA 1 (.t 18) (.t 19), none⟩, .o ⟨(some 21), none, false, .load 1 false (.t 20), none⟩, .o ⟨(some 22), none, false, .call 48 [(.t 1), (.t 21)], none⟩, .v 7 1 (.agg [.nilsl]) [] (.t 22) (some [1, 4, 5, 6, 7])]
abbrev k18_o8 : List AJ := [.o ⟨(some 23), none, false, .mv (.t 5), none⟩, .o ⟨(some 24), none, false, .call 49 [(.t 7)], none⟩, .o ⟨(some 25), none, false, .bsl false 1 [(.t 24)], none⟩, .o ⟨(some 26), none, false, .append 1 8 (.t 23) (.t 25), none⟩, .o ⟨(some 5), none, false, .mv (.t 26), (some [1, 4, 5, 6])⟩]
def k18_13 : ACode := .region k18_o8
def k18_14 : ACode := .seq (.region k18_o7) k18_13
abbrev k18_o9 : List AJ := [.o ⟨(some 16), none, false, .mv (.t 6), none⟩, .o ⟨(some 17), none, true, .bin .add (.t 16) (.c (.int .i64 1)), none⟩, .o ⟨(some 6), none, false, .mv (.t 17), (some [1, 4, 5, 6])⟩]
def k18_16 : ACode := .region k18_o9
def k18_17 : ACode := .seq (.block 1 k18_14) k18_16
def k18_18 : ACode := .seq k18_11 k18_17
def k18_19 : ACode := .loop k18_18
def k18_20 : ACode := .block 0 k18_19
def k18_21 : ACode := .seq (.region k18_o5) k18_20
abbrev k18_o10 : List AJ := [.o ⟨(some 27), none, false, .mv (.t 5), none⟩, .o ⟨(some 2), none, false, .mv (.t 27), none⟩, .o ⟨(some 3), none, false, .mv (.c (.int .i64 0)), (some [2, 3])⟩]
def k18_23 : ACode := .seq (.region k18_o10) .ret
def k18_24 : ACode := .seq k18_21 k18_23
def k18_25 : ACode := .seq (.region k18_o4) k18_24
def k18_26 : ACode := .seq (.region k18_o3) k18_25
def k18_27 : ACode := .seq k18_5 k18_26
def k18_28 : ACode := .seq (.region k18_o0) k18_27
@[simp, simp ↓] theorem k18_3r : sR k18_3 k18_o2 .ret := yR rfl
@[simp, simp ↓] theorem k18_4r : rC k18_4 (.t 9) k18_3 .skip := zC rfl
@[simp, simp ↓] theorem k18_5r : sR k18_5 k18_o1 k18_4 := yR rfl
@[simp, simp ↓] theorem k18_10r : rC k18_10 (.t 15) .skip (.exit 0) := zC rfl
@[simp, simp ↓] theorem k18_11r : sR k18_11 k18_o6 k18_10 := yR rfl
@[simp, simp ↓] theorem k18_13r : rR k18_13 k18_o8 := zR rfl
@[simp, simp ↓] theorem k18_14r : sR k18_14 k18_o7 k18_13 := yR rfl
@[simp, simp ↓] theorem k18_16r : rR k18_16 k18_o9 := zR rfl
@[simp, simp ↓] theorem k18_17r : sB k18_17 1 k18_14 k18_16 := yB rfl
@[simp, simp ↓] theorem k18_18r : rS k18_18 k18_11 k18_17 := zS rfl
@[simp, simp ↓] theorem k18_19r : rL k18_19 k18_18 := zL rfl
@[simp, simp ↓] theorem k18_20r : rB k18_20 0 k18_19 := zB rfl
@[simp, simp ↓] theorem k18_21r : sR k18_21 k18_o5 k18_20 := yR rfl
@[simp, simp ↓] theorem k18_23r : sR k18_23 k18_o10 .ret := yR rfl
@[simp, simp ↓] theorem k18_24r : rS k18_24 k18_21 k18_23 := zS rfl
@[simp, simp ↓] theorem k18_25r : sR k18_25 k18_o4 k18_24 := yR rfl
@[simp, simp ↓] theorem k18_26r : sR k18_26 k18_o3 k18_25 := yR rfl
@[simp, simp ↓] theorem k18_27r : rS k18_27 k18_5 k18_26 := zS rfl
@[simp, simp ↓] theorem k18_28r : sR k18_28 k18_o0 k18_27 := yR rfl
noncomputable abbrev k18_C : Orc → Cx := mkC Tryz.prog [7, 11] 18 28 [.tmp 2, .tmp 3]
theorem k18_of : OfP Tryz.prog Tryz.f18 18 28 k18_C k18_28 := @ofP _ _ _ _ _ _ _ _ Tryz.func18 (by decide +kernel) rfl (by kernel_rfl) rfl (by kernel_rfl)
theorem specEC_c (x : Fil) (h : Heap) (hl : x.tot ≤ 1048576) : ACalls Tryz.prog 18 [x.av] h (fun v h' => v = .tup [.snap 1 (x.euL.map iv), .int .i64 x.ctC] ∧ h' = h) := by
  obtain ⟨hl1, hl2⟩ := x.lens hl
  refine k18_of rfl orcQ2_p fun I => ?_
  unfold Fil.euL Fil.ctC
  by_cases hv : x.valid
  · have hcl := critL_len x.ts
    rw [if_pos hv, if_pos hv]
    refine Run2.of I 1000 ?_
    simp -implicitDefEqProofs [hl, hv]
    generalize critL x.ts = cs at *
    refine Run2.loopE (α := Nat × AV × Heap) (fun p => [(1, .ip [.snap 1 (x.rs.map il), .snap 1 (x.ts.map iv)]), (4, .snap 1 (cs.map iv)), (5, p.2.1), (6, .int .i64 (p.1 : Nat))]) (fun p => p.2.2 ++ h) (fun p => cs.length - p.1) (fun p => p.1 ≤ cs.length ∧ Grow 1 p.2.1 (((cs.take p.1).map (euT x)).map iv) p.2.2) (0, .emp, []) (by simp) rfl ⟨Nat.zero_le _, by simpa using Grow.emp⟩ ?_
    rintro ⟨i, w, hp⟩ ⟨hi, hg⟩ ih
    simp only at hi hg
    have hcell := hg.cell
    by_cases hlt : i < cs.length
    · have go := fun w' hp' => ih (i + 1, w', hp')
      simp only [List.take_succ_eq_append_getElem hlt, List.map_append] at go
      have htot := x.atT_tot cs[i]
      clear ih
      refine Run2.of I 1000 ?_
      have htot2 : ssTot (x.atT cs[i]) ≤ 1048576 := by omega
      simp -implicitDefEqProofs [hlt, hl, hv, htot2, hcell]
      refine hg.app (by simp; omega) (by simp) fun w2 hp2 hg2 => ?_
      have hcell2 := hg2.cell
      have := go w2 hp2 ⟨hlt, by simpa [euT] using hg2⟩ (by omega)
      simp -implicitDefEqProofs [hlt, hcell2]
      exact ⟨by omega, by simpa using this⟩
    · obtain rfl : i = cs.length := by omega
      rw [List.take_length] at *
      refine Run2.of I 1000 ?_
      simp -implicitDefEqProofs [hlt, hcell]
      refine hg.froze (fun x => .tup [x, .int .i64 0]) (fun id b x => by simp [fz, fzs]) (fun _ _ h => Wk.tup (.cons h (.cons (.refl _) .nil))) (.base ⟨by simp, rfl⟩)
  · rw [if_neg hv, if_neg hv]
    refine Run2.of I 1000 ?_
    simp -implicitDefEqProofs [hl, hv]
    exact .wk (Wk.tup (.cons (Wk.nil 1) (.cons (.refl _) .nil))) (.base ⟨rfl, rfl⟩)
/-! ## The program -/
theorem critF (x : Fil) (h : Heap) (hl : x.tot ≤ 1048576) : ACalls Tryz.prog 50 [x.av] h (fun v h' => v = .snap 1 ((critL x.ts).map iv) ∧ h' = h) := by
  refine ACalls.post ((crit_o x h hl).mono ?_)
  rintro v h' ⟨g, o, rfl⟩
  refine Post.lend ?_
  exact .wk o.lent.wk (.base ⟨rfl, rfl⟩)
theorem catF (x : Fil) (t : Int) (h : Heap) (hl : x.tot ≤ 1048576) (hv : x.valid) : ACalls Tryz.prog 52 [x.av, .int .i64 t] h (fun v h' => v = cx (x.atT t) ∧ h' = h) := by
  refine ACalls.post ((ACalls.gives (h := h) [] (by simp) (complexAt_o x t hl hv) fun v h' o => o.own).mono ?_)
  rintro v h' ⟨g, o, _, rfl⟩
  refine Post.lend ?_
  exact .wk o.lent.wk (.base ⟨rfl, rfl⟩)
noncomputable def o_critF : List AV → Option (Prop × AV) := tab (fun (x : LS × List Int) => match x with | (rs, ts) => [.agg [.snap 1 (rs.map il), .snap 1 (ts.map iv)]]) (fun x => match x with | (rs, ts) => (⟨rs, ts⟩ : Fil).tot ≤ 1048576) (fun x => match x with | (rs, ts) => .snap 1 ((critL ts).map iv))
@[simp] theorem o_critF_e (rs : LS) (ts : List Int) : o_critF [.agg [.snap 1 (rs.map il), .snap 1 (ts.map iv)]] = some ((⟨rs, ts⟩ : Fil).tot ≤ 1048576, .snap 1 ((critL ts).map iv)) := tab_at (enc := fun (x : LS × List Int) => match x with | (rs, ts) => [.agg [.snap 1 (rs.map il), .snap 1 (ts.map iv)]]) (fun x y h => by
  obtain ⟨rs1, ts1⟩ := x; obtain ⟨rs2, ts2⟩ := y; simp at h; simp [h] <;> omega) _ _ (rs, ts)
theorem o_critF_k : Knows Tryz.prog 50 o_critF := tab_knows fun x hx h => by
  obtain ⟨rs, ts⟩ := x; exact critF ⟨rs, ts⟩ h hx
noncomputable def o_catF : List AV → Option (Prop × AV) := tab (fun (x : LS × List Int × Int) => match x with | (rs, ts, t) => [.agg [.snap 1 (rs.map il), .snap 1 (ts.map iv)], .int .i64 t]) (fun x => match x with | (rs, ts, t) => ((⟨rs, ts⟩ : Fil).tot ≤ 1048576 ∧ (⟨rs, ts⟩ : Fil).valid)) (fun x => match x with | (rs, ts, t) => .agg [.snap 1 (((⟨rs, ts⟩ : Fil).atT t).map il)])
@[simp] theorem o_catF_e (rs : LS) (ts : List Int) (t : Int) : o_catF [.agg [.snap 1 (rs.map il), .snap 1 (ts.map iv)], .int .i64 t] = some (((⟨rs, ts⟩ : Fil).tot ≤ 1048576 ∧ (⟨rs, ts⟩ : Fil).valid), .agg [.snap 1 (((⟨rs, ts⟩ : Fil).atT t).map il)]) := tab_at (enc := fun (x : LS × List Int × Int) => match x with | (rs, ts, t) => [.agg [.snap 1 (rs.map il), .snap 1 (ts.map iv)], .int .i64 t]) (fun x y h => by
  obtain ⟨rs1, ts1, t1⟩ := x; obtain ⟨rs2, ts2, t2⟩ := y; simp at h; simp [h] <;> omega) _ _ (rs, ts, t)
theorem o_catF_k : Knows Tryz.prog 52 o_catF := tab_knows fun x hx h => by
  obtain ⟨rs, ts, t⟩ := x; exact catF ⟨rs, ts⟩ t h hx.1 hx.2
noncomputable def o_EulerN : List AV → Option (Prop × AV) := tab (fun (x : LS) => match x with | rs => [.agg [.snap 1 (rs.map il)]]) (fun x => match x with | rs => (ssTot rs ≤ 1048576 ∧ cxOk rs)) (fun x => match x with | rs => .tup [.int .i64 (eul rs), .int .i64 0])
@[simp] theorem o_EulerN_e (rs : LS) : o_EulerN [.agg [.snap 1 (rs.map il)]] = some ((ssTot rs ≤ 1048576 ∧ cxOk rs), .tup [.int .i64 (eul rs), .int .i64 0]) := tab_at (enc := fun (x : LS) => match x with | rs => [.agg [.snap 1 (rs.map il)]]) (fun x y h => by
  simp at h; simp [h] <;> omega) _ _ rs
theorem o_EulerN_k : Knows Tryz.prog 51 o_EulerN := tab_knows fun x hx h => by
  exact EulerN_s x h hx.1 hx.2
noncomputable def orcQ3 : List (Nat × (List AV → Option (Prop × AV))) := (33, o_validFil) :: (50, o_critF) :: (52, o_catF) :: (51, o_EulerN) :: []
theorem orcQ3_p : Pure Tryz.prog (lk orcQ3) := (lk_pure o_validFil_k (lk_pure o_critF_k (lk_pure o_catF_k (lk_pure o_EulerN_k lk_pure0))))
@[simp] theorem orcQ3_l (b : Bool) (g : FuncId) (l : List AV) : lk orcQ3 b g l = if g = 33 then o_validFil l else if g = 50 then o_critF l else if g = 52 then o_catF l else if g = 51 then o_EulerN l else none := nr rfl
abbrev k19_o0 : List AJ := [.o ⟨(some 1), none, false, .box false 2 (.t 0), none⟩, .o ⟨(some 2), none, false, .mv (.c .nilsl), none⟩, .o ⟨(some 3), none, false, .mv (.c (.int .i64 0)), (some [1])⟩]
abbrev k19_o1 : List AJ := [.o ⟨(some 9), none, false, .load 2 true (.t 1), none⟩, .o ⟨(some 10), none, false, .call 33 [(.t 9)], none⟩, .o ⟨(some 11), none, false, .un .not (.t 10), (some [1, 11])⟩]
abbrev k19_o2 : List AJ := [.o ⟨(some 2), none, false, .mv (.c .nilsl), none⟩, .o ⟨(some 3), none, false, .mv (.c (.int .i64 1)), (some [2, 3])⟩]
def k19_3 : ACode := .seq (.region k19_o2) .ret
def k19_4 : ACode := .cond (.t 11) k19_3 .skip
def k19_5 : ACode := .seq (.region k19_o1) k19_4
abbrev k19_o3 : List AJ := [.o ⟨(some 4), none, false, .mv (.c .nilsl), (some [1, 4])⟩]
abbrev k19_o4 : List AJ := [.o ⟨(some 12), none, false, .load 2 true (.t 1), none⟩, .o ⟨(some 13), none, false, .call 50 [(.t 12)], none⟩, .o ⟨(some 14), none, false, .len (.t 13), none⟩, .o ⟨(some 15), none, false, .mv (.c (.int .i64 0)), (some [1, 4, 13, 14, 15])⟩]
abbrev k19_o5 : List AJ := [.o ⟨(some 16), none, false, .bin .lss (.t 15) (.t 14), (some [1, 4, 13, 14, 15, 16])⟩]
abbrev k19_o6 : List AJ := [.o ⟨(some 17), none, false, .idxA 1 (.t 13) (.t 15), none⟩, .o ⟨(some 18), none, false, .load 1 false (.t 17), none⟩, .o ⟨(some 6), none, false, .mv (.t 18), (some [1, 4, 6, 13, 14, 15])⟩]
abbrev k19_o7 : List AJ := [.o ⟨(some 20), none, false, .load 2 true (.t 1), none⟩, .o ⟨(some 21), none, false, .mv (.t 6), none⟩, .o ⟨(some 22), none, false, .call 52 [(.t 20), (.t 21)], none⟩, .o ⟨(some 23), none, false, .call 51 [(.t 22)], none⟩, .o ⟨(some 19), none, false, .mv (.t 23), none⟩, .o ⟨(some 24), none, false, .extract (.t 19) 0, none⟩, .o ⟨(some 25), none, false, .extract (.t 19) 1, none⟩, .o ⟨(some 7), none, false, .mv (.t 24), none⟩, .o ⟨(some 8), none, false, .mv (.t 25), (some [1, 4, 7, 13, 14, 15])⟩]
abbrev k19_o8 : List AJ := [.o ⟨(some 26), none, false, .mv (.t 4), none⟩, .o ⟨(some 27), none, false, .mv (.t 7), none⟩, .o ⟨(some 28), none, false, .bsl false 1 [(.t 27)], none⟩, .o ⟨(some 29), none, false, .append 1 8 (.t 26) (.t 28), none⟩, .o ⟨(some 4), none, false, .mv (.t 29), (some [1, 4, 13, 14, 15])⟩]
def k19_12 : ACode := .region k19_o8
def k19_13 : ACode := .seq (.region k19_o7) k19_12
def k19_14 : ACode := .seq (.region k19_o6) k19_13
abbrev k19_o9 : List AJ := [.o ⟨(some 30), none, true, .bin .add (.t 15) (.c (.int .i64 1)), none⟩, .o ⟨(some 15), none, false, .mv (.t 30), (some [1, 4, 13, 14, 15])⟩]
def k19_16 : ACode := .region k19_o9
def k19_17 : ACode := .seq (.block 1 k19_14) k19_16
def k19_18 : ACode := .seq (.cond (.t 16) .skip (.exit 0)) k19_17
def k19_19 : ACode := .seq (.region k19_o5) k19_18
def k19_20 : ACode := .loop k19_19
def k19_21 : ACode := .block 0 k19_20
def k19_22 : ACode := .seq (.region k19_o4) k19_21
abbrev k19_o10 : List AJ := [.o ⟨(some 31), none, false, .mv (.t 4), none⟩, .o ⟨(some 2), none, false, .mv (.t 31), none⟩, .o ⟨(some 3), none, false, .mv (.c (.int .i64 0)), (some [2, 3])⟩]
def k19_24 : ACode := .seq (.region k19_o10) .ret
def k19_25 : ACode := .seq k19_22 k19_24
def k19_26 : ACode := .seq (.region k19_o3) k19_25
def k19_27 : ACode := .seq k19_5 k19_26
def k19_28 : ACode := .seq (.region k19_o0) k19_27
@[simp, simp ↓] theorem k19_3r : sR k19_3 k19_o2 .ret := yR rfl
@[simp, simp ↓] theorem k19_4r : rC k19_4 (.t 11) k19_3 .skip := zC rfl
@[simp, simp ↓] theorem k19_5r : sR k19_5 k19_o1 k19_4 := yR rfl
@[simp, simp ↓] theorem k19_12r : rR k19_12 k19_o8 := zR rfl
@[simp, simp ↓] theorem k19_13r : sR k19_13 k19_o7 k19_12 := yR rfl
@[simp, simp ↓] theorem k19_14r : sR k19_14 k19_o6 k19_13 := yR rfl
@[simp, simp ↓] theorem k19_16r : rR k19_16 k19_o9 := zR rfl
@[simp, simp ↓] theorem k19_17r : sB k19_17 1 k19_14 k19_16 := yB rfl
@[simp, simp ↓] theorem k19_18r : sC k19_18 (.t 16) .skip (.exit 0) k19_17 := yC rfl
@[simp, simp ↓] theorem k19_19r : sR k19_19 k19_o5 k19_18 := yR rfl
@[simp, simp ↓] theorem k19_20r : rL k19_20 k19_19 := zL rfl
@[simp, simp ↓] theorem k19_21r : rB k19_21 0 k19_20 := zB rfl
@[simp, simp ↓] theorem k19_22r : sR k19_22 k19_o4 k19_21 := yR rfl
@[simp, simp ↓] theorem k19_24r : sR k19_24 k19_o10 .ret := yR rfl
@[simp, simp ↓] theorem k19_25r : rS k19_25 k19_22 k19_24 := zS rfl
@[simp, simp ↓] theorem k19_26r : sR k19_26 k19_o3 k19_25 := yR rfl
@[simp, simp ↓] theorem k19_27r : rS k19_27 k19_5 k19_26 := zS rfl
@[simp, simp ↓] theorem k19_28r : sR k19_28 k19_o0 k19_27 := yR rfl
noncomputable abbrev k19_C : Orc → Cx := mkC Tryz.prog [] 19 32 [.tmp 2, .tmp 3]
theorem k19_of0 : OfP0 Tryz.prog Tryz.f19 19 32 k19_C k19_28 := @ofP0 _ _ _ _ _ _ _ _ Tryz.func19 (by decide +kernel) rfl (by kernel_rfl) rfl (by kernel_rfl)
theorem implEC_g (x : Fil) (h : Heap) (hl : x.tot ≤ 1048576) : ACalls Tryz.prog 19 [x.av] h (fun v h' => ∃ w g, v = .tup [w, .int .i64 x.ctC] ∧ OwnL iv 1 w x.euL g ∧ h' = g ++ h) := by
  obtain ⟨hl1, hl2⟩ := x.lens hl
  refine k19_of0 rfl orcQ3_p fun I => ?_
  unfold Fil.euL Fil.ctC
  by_cases hv : x.valid
  · have hcl := critL_len x.ts
    rw [if_pos hv, if_pos hv]
    refine Run2.of I 1000 ?_
    simp -implicitDefEqProofs [hl, hv]
    generalize critL x.ts = cs at *
    refine Run2.loopE (α := Nat × AV × Heap) (fun p => [(1, .ip [.snap 1 (x.rs.map il), .snap 1 (x.ts.map iv)]), (4, p.2.1), (13, .snap 1 (cs.map iv)), (14, .int .i64 cs.length), (15, .int .i64 (p.1 : Nat))]) (fun p => p.2.2 ++ h) (fun p => cs.length - p.1) (fun p => p.1 ≤ cs.length ∧ Grow 1 p.2.1 (((cs.take p.1).map (euT x)).map iv) p.2.2) (0, .nilsl, []) (by simp) rfl ⟨Nat.zero_le _, by simpa using Grow.nil⟩ ?_
    rintro ⟨i, w, hp⟩ ⟨hi, hg⟩ ih
    simp only at hi hg
    have hcell := hg.cell
    by_cases hlt : i < cs.length
    · have go := fun w' hp' => ih (i + 1, w', hp')
      simp only [List.take_succ_eq_append_getElem hlt, List.map_append] at go
      have htot := x.atT_tot cs[i]
      have hok := Fil.atT_ok hv cs[i]
      clear ih
      have htot2 : ssTot (x.atT cs[i]) ≤ 1048576 := by omega
      refine Run2.of I 1000 ?_
      simp -implicitDefEqProofs [hlt, hl, hv, htot2, hok, hcell]
      refine hg.app (by simp; omega) (by simp) fun w2 hp2 hg2 => ?_
      have hcell2 := hg2.cell
      have := go w2 hp2 ⟨hlt, by simpa [euT] using hg2⟩ (by omega)
      simp -implicitDefEqProofs [hlt, hcell2]
      exact ⟨by omega, by simpa using this⟩
    · obtain rfl : i = cs.length := by omega
      rw [List.take_length] at *
      refine Run2.of I 1000 ?_
      simp -implicitDefEqProofs [hlt, hcell]
      exact hg.own
  · rw [if_neg hv, if_neg hv]
    refine Run2.of I 1000 ?_
    simp -implicitDefEqProofs [hl, hv]
    exact .nil
theorem implEC_o (x : Fil) (hl : x.tot ≤ 1048576) : ACalls Tryz.prog 19 [x.av] [] (fun v h' => ∃ w, v = .tup [w, .int .i64 x.ctC] ∧ OwnL iv 1 w x.euL h') :=
  (implEC_g x [] hl).mono fun v h' ⟨w, g, e1, o, e2⟩ => ⟨w, e1, by rw [e2, List.append_nil]; exact o⟩
end Go.AG
