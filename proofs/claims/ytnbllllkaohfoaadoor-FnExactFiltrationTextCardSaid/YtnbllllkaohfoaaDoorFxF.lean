/- What a filtration is: the program. No statement is made here. -/
import Derived.Test.YtnbllllkaohfoaaDoorFxE
namespace Go.AG
open Go.Proofs Go.Proofs.YtnbllllkaohfoaaDoor
set_option linter.unusedSimpArgs false
set_option linter.unusedVariables false
set_option maxRecDepth 4000
noncomputable def orcF1 : List (Nat × (List AV → Option (Prop × AV))) := (104, o_facesOf) :: (106, o_indexOf) :: []
theorem orcF1_p : Pure Tryd.prog (lk orcF1) := (lk_pure o_facesOf_k (lk_pure o_indexOf_k lk_pure0))
@[simp] theorem orcF1_l (b : Bool) (g : FuncId) (l : List AV) : lk orcF1 b g l = if g = 104 then o_facesOf l else if g = 106 then o_indexOf l else none := nr rfl
abbrev k109_o0 : List AJ := [.o ⟨(some 2), none, false, .box false 1 (.t 0), none⟩, .o ⟨(some 4), none, false, .mv (.c .nilsl), (some [1, 2])⟩]
abbrev k109_o1 : List AJ := [.o ⟨(some 5), none, false, .mv (.c .nilsl), (some [1, 2, 5])⟩]
abbrev k109_o2 : List AJ := [.o ⟨(some 8), none, false, .fieldA 0 (.t 2), none⟩, .o ⟨(some 9), none, false, .load 1 false (.t 8), none⟩, .o ⟨(some 10), none, false, .mv (.t 1), none⟩, .o ⟨(some 11), none, false, .idxA 1 (.t 9) (.t 10), none⟩, .o ⟨(some 12), none, false, .load 1 false (.t 11), none⟩, .o ⟨(some 13), none, false, .call 104 [(.t 12)], none⟩, .o ⟨(some 14), none, false, .len (.t 13), none⟩, .o ⟨(some 15), none, false, .mv (.c (.int .i64 0)), (some [2, 5, 13, 14, 15])⟩]
abbrev k109_o3 : List AJ := [.o ⟨(some 16), none, false, .bin .lss (.t 15) (.t 14), (some [2, 5, 13, 14, 15, 16])⟩]
abbrev k109_o4 : List AJ := [.o ⟨(some 17), none, false, .idxA 1 (.t 13) (.t 15), none⟩, .o ⟨(some 18), none, false, .load 1 false (.t 17), none⟩, .o ⟨(some 7), none, false, .mv (.t 18), (some [2, 5, 7, 13, 14, 15])⟩]
abbrev k109_o5 : List AJ := [.o ⟨(some 19), none, false, .mv (.t 5), none⟩, .o ⟨(some 20), none, false, .load 1 true (.t 2), none⟩, .o ⟨(some 21), none, false, .mv (.t 7), none⟩, .o ⟨(some 22), none, false, .call 106 [(.t 20), (.t 21)], none⟩, .o ⟨(some 23), none, false, .bsl false 1 [(.t 22)], none⟩, .o ⟨(some 24), none, false, .append 1 8 (.t 19) (.t 23), none⟩, .o ⟨(some 5), none, false, .mv (.t 24), (some [2, 5, 13, 14, 15])⟩]
def k109_6 : ACode := .region k109_o5
def k109_7 : ACode := .seq (.region k109_o4) k109_6
abbrev k109_o6 : List AJ := [.o ⟨(some 25), none, true, .bin .add (.t 15) (.c (.int .i64 1)), none⟩, .o ⟨(some 15), none, false, .mv (.t 25), (some [2, 5, 13, 14, 15])⟩]
def k109_9 : ACode := .region k109_o6
def k109_10 : ACode := .seq (.block 1 k109_7) k109_9
def k109_11 : ACode := .seq (.cond (.t 16) .skip (.exit 0)) k109_10
def k109_12 : ACode := .seq (.region k109_o3) k109_11
def k109_13 : ACode := .loop k109_12
def k109_14 : ACode := .block 0 k109_13
def k109_15 : ACode := .seq (.region k109_o2) k109_14
abbrev k109_o7 : List AJ := [.o ⟨(some 26), none, false, .mv (.t 5), none⟩, .o ⟨(some 4), none, false, .mv (.t 26), (some [4])⟩]
def k109_17 : ACode := .seq (.region k109_o7) .ret
def k109_18 : ACode := .seq k109_15 k109_17
def k109_19 : ACode := .seq (.region k109_o1) k109_18
def k109_20 : ACode := .seq (.region k109_o0) k109_19
@[simp, simp ↓] theorem k109_6r : rR k109_6 k109_o5 := zR rfl
@[simp, simp ↓] theorem k109_7r : sR k109_7 k109_o4 k109_6 := yR rfl
@[simp, simp ↓] theorem k109_9r : rR k109_9 k109_o6 := zR rfl
@[simp, simp ↓] theorem k109_10r : sB k109_10 1 k109_7 k109_9 := yB rfl
@[simp, simp ↓] theorem k109_11r : sC k109_11 (.t 16) .skip (.exit 0) k109_10 := yC rfl
@[simp, simp ↓] theorem k109_12r : sR k109_12 k109_o3 k109_11 := yR rfl
@[simp, simp ↓] theorem k109_13r : rL k109_13 k109_12 := zL rfl
@[simp, simp ↓] theorem k109_14r : rB k109_14 0 k109_13 := zB rfl
@[simp, simp ↓] theorem k109_15r : sR k109_15 k109_o2 k109_14 := yR rfl
@[simp, simp ↓] theorem k109_17r : sR k109_17 k109_o7 .ret := yR rfl
@[simp, simp ↓] theorem k109_18r : rS k109_18 k109_15 k109_17 := zS rfl
@[simp, simp ↓] theorem k109_19r : sR k109_19 k109_o1 k109_18 := yR rfl
@[simp, simp ↓] theorem k109_20r : sR k109_20 k109_o0 k109_19 := yR rfl
noncomputable abbrev k109_C : Orc → Cx := mkC Tryd.prog [] 109 27 [.tmp 4]
theorem k109_of : OfP Tryd.prog Tryd.f109 109 27 k109_C k109_20 := @ofP _ _ _ _ _ _ _ _ Tryd.func109 (by decide +kernel) rfl (by kernel_rfl) rfl (by kernel_rfl)
theorem faceIndices_s (rs : List (List Int)) (i : Nat) (h : Heap) (hl : ssTot rs ≤ 1048576) (hs : sortS rs) (hi : i < rs.length) : ACalls Tryd.prog 109 [.agg [.snap 1 (rs.map il)], .int .i64 i] h (fun v h' => v = .snap 1 ((facesI rs rs[i]).map iv) ∧ h' = h) := by
  have hf := fit_of_tot hl
  have hr := hf.2 _ (List.getElem_mem hi)
  have hfl := faces_length rs[i]
  refine k109_of rfl orcF1_p fun I => ?_
  refine Run2.of I 1000 ?_
  simp -implicitDefEqProofs [hi, hr]
  unfold facesI
  generalize faces rs[i] = fs at *
  refine Run2.loopE (α := Nat × AV × Heap) (fun p => [(2, .ip [.snap 1 (rs.map il)]), (5, p.2.1), (13, .snap 1 (fs.map il)), (14, .int .i64 fs.length), (15, .int .i64 (p.1 : Nat))]) (fun p => p.2.2 ++ h) (fun p => fs.length - p.1) (fun p => p.1 ≤ fs.length ∧ Grow 1 p.2.1 (((fs.take p.1).map (ixS rs)).map iv) p.2.2) (0, .nilsl, []) (by simp) rfl ⟨Nat.zero_le _, by simpa using Grow.nil⟩ ?_
  rintro ⟨k, w, hp⟩ ⟨hk, hg⟩ ih
  simp only at hk hg
  have hcell := hg.cell
  by_cases hlt : k < fs.length
  · have go := fun w' hp' (g : Grow 1 w' (((fs.take k).map (ixS rs)).map iv ++ [iv (ixS rs fs[k])]) hp') => ih (k + 1, w', hp') ⟨hlt, by
      simp only
      rw [List.take_succ_eq_append_getElem hlt, List.map_append, List.map_append]
      exact g⟩ (by simp; omega)
    clear ih
    refine Run2.of I 1000 ?_
    simp -implicitDefEqProofs [hlt, hcell, hl, hs]
    refine hg.app (by simp; omega) (by simp) fun w' hp' hg' => ?_
    have hcell' := hg'.cell
    have := go w' hp' hg'
    simp -implicitDefEqProofs [hcell']
    refine ⟨by omega, ?_⟩
    simpa using this
  · obtain rfl : k = fs.length := by omega
    rw [List.take_length] at hg
    refine Run2.of I 1000 ?_
    simp -implicitDefEqProofs [hlt, hcell]
    refine hg.froze (fun x => x) (fun _ _ _ => rfl) (fun _ _ h => h) (.base ⟨?_, rfl⟩)
    rw [List.map_map]
noncomputable def o_faceIndices : List AV → Option (Prop × AV) := tab (fun (x : LS × Nat) => match x with | (rs, i) => [.agg [.snap 1 (rs.map il)], .int .i64 i]) (fun x => match x with | (rs, i) => (ssTot rs ≤ 1048576 ∧ sortS rs ∧ i < rs.length)) (fun x => match x with | (rs, i) => .snap 1 ((facesI rs (rs.getD i [])).map iv))
@[simp] theorem o_faceIndices_e (rs : LS) (i : Nat) : o_faceIndices [.agg [.snap 1 (rs.map il)], .int .i64 i] = some ((ssTot rs ≤ 1048576 ∧ sortS rs ∧ i < rs.length), .snap 1 ((facesI rs (rs.getD i [])).map iv)) := tab_at (enc := fun (x : LS × Nat) => match x with | (rs, i) => [.agg [.snap 1 (rs.map il)], .int .i64 i]) (fun x y h => by
  obtain ⟨rs1, i1⟩ := x; obtain ⟨rs2, i2⟩ := y; simp at h; simp [h] <;> omega) _ _ (rs, i)
theorem o_faceIndices_k : Knows Tryd.prog 109 o_faceIndices := tab_knows fun x hx h => by
  obtain ⟨rs, i⟩ := x; exact by have := faceIndices_s rs i h hx.1 hx.2.1 hx.2.2; simpa [hx.2.2] using this
abbrev k108_o0 : List AJ := [.o ⟨(some 2), none, false, .mv (.c (.int .i64 0)), (some [0])⟩]
abbrev k108_o1 : List AJ := [.o ⟨(some 3), none, false, .mv (.t 0), none⟩, .o ⟨(some 4), none, false, .len (.t 3), none⟩, .o ⟨(some 2), none, false, .mv (.t 4), (some [2])⟩]
def k108_2 : ACode := .seq (.region k108_o1) .ret
def k108_3 : ACode := .seq (.region k108_o0) k108_2
@[simp, simp ↓] theorem k108_2r : sR k108_2 k108_o1 .ret := yR rfl
@[simp, simp ↓] theorem k108_3r : sR k108_3 k108_o0 k108_2 := yR rfl
noncomputable abbrev k108_C : Orc → Cx := mkC Tryd.prog [] 108 5 [.tmp 2]
theorem k108_of0 : OfP0 Tryd.prog Tryd.f108 108 5 k108_C k108_3 := @ofP0 _ _ _ _ _ _ _ _ Tryd.func108 (by decide +kernel) rfl (by kernel_rfl) rfl (by kernel_rfl)
theorem sizeSS_s (l : List (List Int)) (h : Heap) : ACalls Tryd.prog 108 [.snap 1 (l.map il)] h (fun v h' => v = .int .i64 l.length ∧ h' = h) := by
  refine k108_of0 rfl noPure fun I => ?_
  refine Run2.of I 1000 ?_
  simp -implicitDefEqProofs
noncomputable def o_sizeSS : List AV → Option (Prop × AV) := tab (fun (x : LS) => match x with | l => [.snap 1 (l.map il)]) (fun x => match x with | l => True) (fun x => match x with | l => .int .i64 l.length)
@[simp] theorem o_sizeSS_e (l : LS) : o_sizeSS [.snap 1 (l.map il)] = some (True, .int .i64 l.length) := tab_at (enc := fun (x : LS) => match x with | l => [.snap 1 (l.map il)]) (fun x y h => by
  simp at h; simp [h] <;> omega) _ _ l
theorem o_sizeSS_k : Knows Tryd.prog 108 o_sizeSS := tab_knows fun x hx h => by
  exact sizeSS_s x h
noncomputable def orcF2 : List (Nat × (List AV → Option (Prop × AV))) := (109, o_faceIndices) :: (108, o_sizeSS) :: []
theorem orcF2_p : Pure Tryd.prog (lk orcF2) := (lk_pure o_faceIndices_k (lk_pure o_sizeSS_k lk_pure0))
@[simp] theorem orcF2_l (b : Bool) (g : FuncId) (l : List AV) : lk orcF2 b g l = if g = 109 then o_faceIndices l else if g = 108 then o_sizeSS l else none := nr rfl
abbrev k87_o0 : List AJ := [.o ⟨(some 1), none, false, .box false 1 (.t 0), none⟩, .o ⟨(some 2), none, false, .mv (.c .nilsl), (some [1])⟩]
abbrev k87_o1 : List AJ := [.o ⟨(some 3), none, false, .mv (.c .nilsl), (some [1, 3])⟩]
abbrev k87_o2 : List AJ := [.o ⟨(some 7), none, false, .fieldA 0 (.t 1), none⟩, .o ⟨(some 8), none, false, .load 1 false (.t 7), none⟩, .o ⟨(some 9), none, false, .call 108 [(.t 8)], none⟩, .o ⟨(some 10), none, false, .mv (.c (.int .i64 0)), (some [1, 3, 9, 10])⟩]
abbrev k87_o3 : List AJ := [.o ⟨(some 11), none, false, .bin .lss (.t 10) (.t 9), (some [1, 3, 9, 10, 11])⟩]
abbrev k87_o4 : List AJ := [.o ⟨(some 12), none, false, .mv (.t 10), none⟩, .o ⟨(some 4), none, false, .mv (.t 12), (some [1, 3, 4, 9, 10])⟩]
abbrev k87_o5 : List AJ := [.o ⟨(some 13), none, false, .load 1 true (.t 1), none⟩, .o ⟨(some 14), none, false, .mv (.t 4), none⟩, .o ⟨(some 15), none, false, .call 109 [(.t 13), (.t 14)], none⟩, .o ⟨(some 16), none, false, .len (.t 15), none⟩, .o ⟨(some 17), none, false, .mv (.c (.int .i64 0)), (some [1, 3, 4, 9, 10, 15, 16, 17])⟩]
abbrev k87_o6 : List AJ := [.o ⟨(some 18), none, false, .bin .lss (.t 17) (.t 16), (some [1, 3, 4, 9, 10, 15, 16, 17, 18])⟩]
abbrev k87_o7 : List AJ := [.o ⟨(some 19), none, false, .mv (.t 17), none⟩, .o ⟨(some 20), none, false, .idxA 1 (.t 15) (.t 17), none⟩, .o ⟨(some 21), none, false, .load 1 false (.t 20), none⟩, .o ⟨(some 5), none, false, .mv (.t 19), none⟩, .o ⟨(some 6), none, false, .mv (.t 21), (some [1, 3, 4, 5, 6, 9, 10, 15, 16, 17])⟩]
abbrev k87_o8 : List AJ := [.o ⟨(some 22), none, false, .mv (.t 3), none⟩, .o ⟨(some 23), none, false, .mv (.t 4), none⟩, .o ⟨(some 24), none, false, .mv (.t 5), none⟩, .o ⟨(some 25), none, false, .mv (.t 6), none⟩, .o ⟨(some 26), none, false, .build [(.int .i64 0), (.int .i64 0), (.int .i64 0)] [(0, 1, (.t 23)), (1, 1, (.t 24)), (2, 1, (.t 25))], none⟩, .o ⟨(some 27), none, false, .bsl false 3 [(.t 26)], none⟩, .o ⟨(some 28), none, false, .append 3 24 (.t 22) (.t 27), none⟩, .o ⟨(some 3), none, false, .mv (.t 28), (some [1, 3, 4, 9, 10, 15, 16, 17])⟩]
def k87_10 : ACode := .region k87_o8
def k87_11 : ACode := .seq (.region k87_o7) k87_10
abbrev k87_o9 : List AJ := [.o ⟨(some 29), none, true, .bin .add (.t 17) (.c (.int .i64 1)), none⟩, .o ⟨(some 17), none, false, .mv (.t 29), (some [1, 3, 4, 9, 10, 15, 16, 17])⟩]
def k87_13 : ACode := .region k87_o9
def k87_14 : ACode := .seq (.block 3 k87_11) k87_13
def k87_15 : ACode := .seq (.cond (.t 18) .skip (.exit 2)) k87_14
def k87_16 : ACode := .seq (.region k87_o6) k87_15
def k87_17 : ACode := .loop k87_16
def k87_18 : ACode := .block 2 k87_17
def k87_19 : ACode := .seq (.region k87_o5) k87_18
def k87_20 : ACode := .seq (.region k87_o4) k87_19
abbrev k87_o10 : List AJ := [.o ⟨(some 30), none, true, .bin .add (.t 10) (.c (.int .i64 1)), none⟩, .o ⟨(some 10), none, false, .mv (.t 30), (some [1, 3, 9, 10])⟩]
def k87_22 : ACode := .region k87_o10
def k87_23 : ACode := .seq (.block 1 k87_20) k87_22
def k87_24 : ACode := .seq (.cond (.t 11) .skip (.exit 0)) k87_23
def k87_25 : ACode := .seq (.region k87_o3) k87_24
def k87_26 : ACode := .loop k87_25
def k87_27 : ACode := .block 0 k87_26
def k87_28 : ACode := .seq (.region k87_o2) k87_27
abbrev k87_o11 : List AJ := [.o ⟨(some 31), none, false, .mv (.t 3), none⟩, .o ⟨(some 2), none, false, .mv (.t 31), (some [2])⟩]
def k87_30 : ACode := .seq (.region k87_o11) .ret
def k87_31 : ACode := .seq k87_28 k87_30
def k87_32 : ACode := .seq (.region k87_o1) k87_31
def k87_33 : ACode := .seq (.region k87_o0) k87_32
@[simp, simp ↓] theorem k87_10r : rR k87_10 k87_o8 := zR rfl
@[simp, simp ↓] theorem k87_11r : sR k87_11 k87_o7 k87_10 := yR rfl
@[simp, simp ↓] theorem k87_13r : rR k87_13 k87_o9 := zR rfl
@[simp, simp ↓] theorem k87_14r : sB k87_14 3 k87_11 k87_13 := yB rfl
@[simp, simp ↓] theorem k87_15r : sC k87_15 (.t 18) .skip (.exit 2) k87_14 := yC rfl
@[simp, simp ↓] theorem k87_16r : sR k87_16 k87_o6 k87_15 := yR rfl
@[simp, simp ↓] theorem k87_17r : rL k87_17 k87_16 := zL rfl
@[simp, simp ↓] theorem k87_18r : rB k87_18 2 k87_17 := zB rfl
@[simp, simp ↓] theorem k87_19r : sR k87_19 k87_o5 k87_18 := yR rfl
@[simp, simp ↓] theorem k87_20r : sR k87_20 k87_o4 k87_19 := yR rfl
@[simp, simp ↓] theorem k87_22r : rR k87_22 k87_o10 := zR rfl
@[simp, simp ↓] theorem k87_23r : sB k87_23 1 k87_20 k87_22 := yB rfl
@[simp, simp ↓] theorem k87_24r : sC k87_24 (.t 11) .skip (.exit 0) k87_23 := yC rfl
@[simp, simp ↓] theorem k87_25r : sR k87_25 k87_o3 k87_24 := yR rfl
@[simp, simp ↓] theorem k87_26r : rL k87_26 k87_25 := zL rfl
@[simp, simp ↓] theorem k87_27r : rB k87_27 0 k87_26 := zB rfl
@[simp, simp ↓] theorem k87_28r : sR k87_28 k87_o2 k87_27 := yR rfl
@[simp, simp ↓] theorem k87_30r : sR k87_30 k87_o11 .ret := yR rfl
@[simp, simp ↓] theorem k87_31r : rS k87_31 k87_28 k87_30 := zS rfl
@[simp, simp ↓] theorem k87_32r : sR k87_32 k87_o1 k87_31 := yR rfl
@[simp, simp ↓] theorem k87_33r : sR k87_33 k87_o0 k87_32 := yR rfl
noncomputable abbrev k87_C : Orc → Cx := mkC Tryd.prog [] 87 32 [.tmp 2]
theorem k87_of : OfP Tryd.prog Tryd.f87 87 32 k87_C k87_33 := @ofP _ _ _ _ _ _ _ _ Tryd.func87 (by decide +kernel) rfl (by kernel_rfl) rfl (by kernel_rfl)
/-- The faces of all simplices: number, place, number of the face. -/
abbrev I3 := Int × Int × Int
@[simp] def ar3 (a : I3) : AV := .agg [.int .i64 a.1, .int .i64 a.2.1, .int .i64 a.2.2]
def arwK (i : Nat) (fs : List Int) : List I3 := (List.range fs.length).map fun (k : Nat) => ((i : Int), (k : Int), fs.getD k 0)
def arw (rs : List (List Int)) : List I3 := (List.range rs.length).flatMap fun i => arwK i (facesI rs (rs.getD i []))
theorem arrows_s (rs : List (List Int)) (h : Heap) (hl : ssTot rs ≤ 1048576) (hc : cxOk rs) : ACalls Tryd.prog 87 [.agg [.snap 1 (rs.map il)]] h (fun v h' => v = .snap 3 ((arw rs).map ar3) ∧ h' = h) := by
  have hf := fit_of_tot hl
  have hs := hc.sort
  refine k87_of rfl orcF2_p fun I => ?_
  refine Run2.of I 1000 ?_
  simp -implicitDefEqProofs
  refine Run2.loopE (α := Nat × AV × Heap) (fun p => [(1, .ip [.snap 1 (rs.map il)]), (3, p.2.1), (9, .int .i64 rs.length), (10, .int .i64 (p.1 : Nat))]) (fun p => p.2.2 ++ h) (fun p => rs.length - p.1) (fun p => p.1 ≤ rs.length ∧ Grow 3 p.2.1 (((List.range p.1).flatMap fun i => arwK i (facesI rs (rs.getD i []))).map ar3) p.2.2 ∧ ((List.range p.1).flatMap fun i => arwK i (facesI rs (rs.getD i []))).length ≤ 4 * p.1) (0, .nilsl, []) (by simp) rfl ⟨Nat.zero_le _, by simpa using Grow.nil, by simp⟩ ?_
  rintro ⟨i, w, hp⟩ ⟨hi, hg, hgl⟩ ih
  simp only at hi hg hgl
  have hcell := hg.cell
  have h48 := hc.2
  by_cases hlt : i < rs.length
  · have hsm := (hc.1 i hlt).1.1.2
    have hget : rs.getD i [] = rs[i] := by simp [hlt]
    have hfl := facesI_length rs rs[i]
    have go := fun w' hp' (g : Grow 3 w' ((((List.range i).flatMap fun i => arwK i (facesI rs (rs.getD i []))) ++ arwK i (facesI rs rs[i])).map ar3) hp') => ih (i + 1, w', hp') ⟨hlt, by
      simp only
      rw [List.range_succ, List.flatMap_append, List.flatMap_singleton, hget]
      exact g, by
      simp only
      rw [List.range_succ, List.flatMap_append, List.flatMap_singleton, hget, List.length_append]
      simp only [arwK, List.length_map, List.length_range] at hgl ⊢
      omega⟩ (by simp; omega)
    clear ih
    refine Run2.of I 1000 ?_
    simp -implicitDefEqProofs [hlt, hcell, hl, hs, hget]
    generalize facesI rs rs[i] = fs at *
    generalize ((List.range i).flatMap fun i => arwK i (facesI rs (rs.getD i []))) = L at *
    refine Run2.loopE (α := Nat × AV × Heap) (fun p => [(1, .ip [.snap 1 (rs.map il)]), (3, p.2.1), (4, .int .i64 i), (9, .int .i64 rs.length), (10, .int .i64 i), (15, .snap 1 (fs.map iv)), (16, .int .i64 fs.length), (17, .int .i64 (p.1 : Nat))]) (fun p => p.2.2 ++ h) (fun p => fs.length - p.1) (fun p => p.1 ≤ fs.length ∧ Grow 3 p.2.1 ((L ++ (List.range p.1).map fun (k : Nat) => ((i : Int), (k : Int), fs.getD k 0)).map ar3) p.2.2) (0, w, hp) (by simp) rfl ⟨Nat.zero_le _, by simpa using hg⟩ ?_
    rintro ⟨k, w, hp⟩ ⟨hk, hg⟩ ih
    simp only at hk hg
    have hcell := hg.cell
    by_cases hkl : k < fs.length
    · have hgk : fs.getD k 0 = fs[k] := by simp [hkl]
      have go2 := fun w' hp' (g : Grow 3 w' ((L ++ ((List.range k).map fun (k : Nat) => ((i : Int), (k : Int), fs.getD k 0))).map ar3 ++ [.agg [.int .i64 i, .int .i64 k, .int .i64 fs[k]]]) hp') => ih (k + 1, w', hp') ⟨hkl, by
        simp only
        rw [List.range_succ, List.map_append, List.map_append]
        simpa [hkl] using g⟩ (by simp; omega)
      clear ih
      refine Run2.of I 1000 ?_
      simp -implicitDefEqProofs [hkl, hcell]
      refine hg.app (by simp; omega) (by simp) fun w' hp' hg' => ?_
      have hcell' := hg'.cell
      have := go2 w' hp' hg'
      simp -implicitDefEqProofs [hcell']
      refine ⟨by omega, ?_⟩
      simpa using this
    · obtain rfl : k = fs.length := by omega
      have := go w hp hg
      refine Run2.of I 1000 ?_
      simp -implicitDefEqProofs [hkl, hcell]
      refine ⟨by omega, ?_⟩
      simpa using this
  · obtain rfl : i = rs.length := by omega
    refine Run2.of I 1000 ?_
    simp -implicitDefEqProofs [hlt, hcell]
    refine hg.froze (fun x => x) (fun _ _ _ => rfl) (fun _ _ h => h) (.base ⟨?_, rfl⟩)
    rfl
theorem arw_mem {rs : List (List Int)} {a : I3} : a ∈ arw rs ↔ ∃ i, ∃ hi : i < rs.length, ∃ k, ∃ hk : k < (facesI rs rs[i]).length, a = ((i : Int), (k : Int), (facesI rs rs[i])[k]) := by
  unfold arw arwK
  simp only [List.mem_flatMap, List.mem_range, List.mem_map]
  constructor
  · rintro ⟨i, hi, k, hk, rfl⟩
    have hget : rs.getD i [] = rs[i] := by simp [hi]
    rw [hget] at hk
    exact ⟨i, hi, k, hk, by rw [hget]; simp [hk]⟩
  · rintro ⟨i, hi, k, hk, rfl⟩
    have hget : rs.getD i [] = rs[i] := by simp [hi]
    exact ⟨i, hi, k, by rw [hget]; exact hk, by rw [hget]; simp [hk]⟩
section
variable {α : Type}
/-- The first place where q holds. -/
def idxg (q : α → Bool) (l : List α) : Int := match l.findIdx? q with
  | some i => i
  | none => -1
theorem idxg_at {q : α → Bool} {l : List α} {i : Nat} (h : i < l.length) (hb : ∀ j (hj : j < l.length), j < i → q l[j] = false) (ht : q l[i] = true) : idxg q l = i := by
  have : l.findIdx? q = some i := List.findIdx?_eq_some_iff_getElem.2 ⟨h, ht, fun j hj => by simp [hb j (by omega) hj]⟩
  unfold idxg; rw [this]
theorem idxg_none {q : α → Bool} {l : List α} (hb : ∀ j (hj : j < l.length), q l[j] = false) : idxg q l = -1 := by
  have : l.findIdx? q = none := List.findIdx?_eq_none_iff.2 fun a ha => by
    obtain ⟨j, hj, rfl⟩ := List.mem_iff_getElem.1 ha
    simp [hb j hj]
  unfold idxg; rw [this]
theorem idxg_any (q : α → Bool) (l : List α) : decide (0 ≤ idxg q l) = l.any q := by
  rw [Bool.eq_iff_iff, decide_eq_true_eq, List.any_eq_true]
  unfold idxg
  cases h : l.findIdx? q with
  | none =>
    rw [List.findIdx?_eq_none_iff] at h
    simp only [show ¬ (0 : Int) ≤ -1 by omega, false_iff]
    rintro ⟨a, ha, hq⟩
    have := h a ha
    rw [hq] at this; cases this
  | some i =>
    obtain ⟨hi, hq, _⟩ := List.findIdx?_eq_some_iff_getElem.1 h
    simp only [Int.natCast_nonneg, true_iff]
    exact ⟨_, List.getElem_mem hi, hq⟩
end
abbrev k107_o0 : List AJ := [.o ⟨(some 4), none, false, .mv (.c (.int .i64 0)), (some [0, 1])⟩]
abbrev k107_o1 : List AJ := [.o ⟨(some 6), none, false, .mv (.t 0), none⟩, .o ⟨(some 7), none, false, .len (.t 6), none⟩, .o ⟨(some 8), none, false, .mv (.c (.int .i64 0)), (some [0, 1, 7, 8])⟩]
abbrev k107_o2 : List AJ := [.o ⟨(some 9), none, false, .bin .lss (.t 8) (.t 7), (some [0, 1, 7, 8, 9])⟩]
abbrev k107_o3 : List AJ := [.o ⟨(some 10), none, false, .mv (.t 8), none⟩, .o ⟨(some 5), none, false, .mv (.t 10), (some [0, 1, 5, 7, 8])⟩]
abbrev k107_o4 : List AJ := [.o ⟨(some 11), none, false, .mv (.t 1), none⟩, .o ⟨(some 12), none, false, .mv (.t 0), none⟩, .o ⟨(some 13), none, false, .mv (.t 5), none⟩, .o ⟨(some 14), none, false, .idxA 3 (.t 12) (.t 13), none⟩, .o ⟨(some 15), none, false, .load 3 true (.t 14), none⟩, .o ⟨(some 16), none, false, .callv (.t 11) [(.t 15)], (some [0, 1, 5, 7, 8, 16])⟩]
abbrev k107_o5 : List AJ := [.o ⟨(some 17), none, false, .mv (.t 5), none⟩, .o ⟨(some 4), none, false, .mv (.t 17), (some [4])⟩]
def k107_7 : ACode := .seq (.region k107_o5) .ret
def k107_8 : ACode := .cond (.t 16) k107_7 .skip
def k107_9 : ACode := .seq (.region k107_o4) k107_8
def k107_10 : ACode := .seq (.region k107_o3) k107_9
abbrev k107_o6 : List AJ := [.o ⟨(some 18), none, true, .bin .add (.t 8) (.c (.int .i64 1)), none⟩, .o ⟨(some 8), none, false, .mv (.t 18), (some [0, 1, 7, 8])⟩]
def k107_12 : ACode := .region k107_o6
def k107_13 : ACode := .seq (.block 1 k107_10) k107_12
def k107_14 : ACode := .seq (.cond (.t 9) .skip (.exit 0)) k107_13
def k107_15 : ACode := .seq (.region k107_o2) k107_14
def k107_16 : ACode := .loop k107_15
def k107_17 : ACode := .block 0 k107_16
def k107_18 : ACode := .seq (.region k107_o1) k107_17
abbrev k107_o7 : List AJ := [.o ⟨(some 4), none, false, .mv (.c (.int .i64 (-1))), (some [4])⟩]
def k107_20 : ACode := .seq (.region k107_o7) .ret
def k107_21 : ACode := .seq k107_18 k107_20
def k107_22 : ACode := .seq (.region k107_o0) k107_21
@[simp, simp ↓] theorem k107_7r : sR k107_7 k107_o5 .ret := yR rfl
@[simp, simp ↓] theorem k107_8r : rC k107_8 (.t 16) k107_7 .skip := zC rfl
@[simp, simp ↓] theorem k107_9r : sR k107_9 k107_o4 k107_8 := yR rfl
@[simp, simp ↓] theorem k107_10r : sR k107_10 k107_o3 k107_9 := yR rfl
@[simp, simp ↓] theorem k107_12r : rR k107_12 k107_o6 := zR rfl
@[simp, simp ↓] theorem k107_13r : sB k107_13 1 k107_10 k107_12 := yB rfl
@[simp, simp ↓] theorem k107_14r : sC k107_14 (.t 9) .skip (.exit 0) k107_13 := yC rfl
@[simp, simp ↓] theorem k107_15r : sR k107_15 k107_o2 k107_14 := yR rfl
@[simp, simp ↓] theorem k107_16r : rL k107_16 k107_15 := zL rfl
@[simp, simp ↓] theorem k107_17r : rB k107_17 0 k107_16 := zB rfl
@[simp, simp ↓] theorem k107_18r : sR k107_18 k107_o1 k107_17 := yR rfl
@[simp, simp ↓] theorem k107_20r : sR k107_20 k107_o7 .ret := yR rfl
@[simp, simp ↓] theorem k107_21r : rS k107_21 k107_18 k107_20 := zS rfl
@[simp, simp ↓] theorem k107_22r : sR k107_22 k107_o0 k107_21 := yR rfl
noncomputable abbrev k107_C : Orc → Cx := mkC Tryd.prog [] 107 19 [.tmp 4]
theorem k107_of0 : OfP0 Tryd.prog Tryd.f107 107 19 k107_C k107_22 := @ofP0 _ _ _ _ _ _ _ _ Tryd.func107 (by decide +kernel) rfl (by kernel_rfl) rfl (by kernel_rfl)
theorem IndexFuncA_s (l : List I3) (g : FuncId) (caps : List AV) (q : I3 → Bool) (h : Heap) (hl : l.length ≤ 1048576) (hq : ∀ a ∈ l, ACalls Tryd.prog g (ar3 a :: caps) h (fun v h' => v = .bool (q a) ∧ h' = h)) :
    ACalls Tryd.prog 107 [.snap 3 (l.map ar3), .fn g caps] h (fun v h' => v = .int .i64 (idxg q l) ∧ h' = h) := by
  refine k107_of0 rfl noPure fun I => ?_
  refine Run2.of I 1000 ?_
  simp -implicitDefEqProofs
  refine Run2.loopE (fun i => [(0, .snap 3 (l.map ar3)), (1, .fn g caps), (7, .int .i64 l.length), (8, .int .i64 (i : Nat))]) (fun i => h) (fun i => l.length - i) (fun i => i ≤ l.length ∧ ∀ j (hj : j < l.length), j < i → q l[j] = false) 0 (by simp) rfl ⟨Nat.zero_le _, fun _ _ h => absurd h (Nat.not_lt_zero _)⟩ fun i hi ih => ?_
  by_cases hlt : i < l.length
  · have go := fun (h1 : q l[i] = false) => ih (i + 1) ⟨by omega, fun j hj hji => by
      rcases Nat.lt_or_ge j i with h | h
      · exact hi.2 j hj h
      · obtain rfl : j = i := by omega
        exact h1⟩ (by omega)
    have hat := idxg_at (q := q) hlt hi.2
    clear ih
    refine Run2.of I 1000 ?_
    simp -implicitDefEqProofs [hlt]
    refine (hq _ (List.getElem_mem hlt)).mono ?_
    rintro v h' ⟨rfl, rfl⟩
    refine gK.go ?_
    simp -implicitDefEqProofs
    refine ⟨fun h => (hat h).symm, fun h => ⟨by omega, ?_⟩⟩
    simpa using go h
  · obtain rfl : i = l.length := by omega
    have := idxg_none (q := q) (l := l) fun j hj => hi.2 j hj hj
    refine Run2.of I 1000 ?_
    simp -implicitDefEqProofs
    exact this.symm
abbrev k86_o0 : List AJ := [.o ⟨(some 4), none, false, .mv (.c (.bool false)), (some [0, 1])⟩]
abbrev k86_o1 : List AJ := [.o ⟨(some 5), none, false, .mv (.t 0), none⟩, .o ⟨(some 6), none, false, .mv (.t 1), none⟩, .o ⟨(some 7), none, false, .call 107 [(.t 5), (.t 6)], none⟩, .o ⟨(some 8), none, false, .bin .geq (.t 7) (.c (.int .i64 0)), none⟩, .o ⟨(some 4), none, false, .mv (.t 8), (some [4])⟩]
def k86_2 : ACode := .seq (.region k86_o1) .ret
def k86_3 : ACode := .seq (.region k86_o0) k86_2
@[simp, simp ↓] theorem k86_2r : sR k86_2 k86_o1 .ret := yR rfl
@[simp, simp ↓] theorem k86_3r : sR k86_3 k86_o0 k86_2 := yR rfl
noncomputable abbrev k86_C : Orc → Cx := mkC Tryd.prog [] 86 9 [.tmp 4]
theorem k86_of0 : OfP0 Tryd.prog Tryd.f86 86 9 k86_C k86_3 := @ofP0 _ _ _ _ _ _ _ _ Tryd.func86 (by decide +kernel) rfl (by kernel_rfl) rfl (by kernel_rfl)
theorem ContainsFuncA_s (l : List I3) (g : FuncId) (caps : List AV) (q : I3 → Bool) (h : Heap) (hl : l.length ≤ 1048576) (hq : ∀ a ∈ l, ACalls Tryd.prog g (ar3 a :: caps) h (fun v h' => v = .bool (q a) ∧ h' = h)) :
    ACalls Tryd.prog 86 [.snap 3 (l.map ar3), .fn g caps] h (fun v h' => v = .bool (l.any q) ∧ h' = h) := by
  refine k86_of0 rfl noPure fun I => ?_
  refine Run2.of I 1000 ?_
  simp -implicitDefEqProofs
  refine (IndexFuncA_s l g caps q h hl hq).mono ?_
  rintro v h' ⟨rfl, rfl⟩
  refine gK.go ?_
  simp -implicitDefEqProofs
  exact idxg_any q l
abbrev k71_o0 : List AJ := [.o ⟨(some 2), none, false, .mv (.c (.bool false)), (some [0])⟩]
abbrev k71_o1 : List AJ := [.o ⟨(some 3), none, false, .mv (.t 0), none⟩, .o ⟨(some 4), none, false, .call 72 [(.t 3), (.c (.int .i64 0)), (.c (.int .i64 1000))], none⟩, .o ⟨(some 2), none, false, .mv (.t 4), (some [2])⟩]
def k71_2 : ACode := .seq (.region k71_o1) .ret
def k71_3 : ACode := .seq (.region k71_o0) k71_2
@[simp, simp ↓] theorem k71_2r : sR k71_2 k71_o1 .ret := yR rfl
@[simp, simp ↓] theorem k71_3r : sR k71_3 k71_o0 k71_2 := yR rfl
noncomputable abbrev k71_C : Orc → Cx := mkC Tryd.prog [] 71 5 [.tmp 2]
theorem k71_of0 : OfP0 Tryd.prog Tryd.f71 71 5 k71_C k71_3 := @ofP0 _ _ _ _ _ _ _ _ Tryd.func71 (by decide +kernel) rfl (by kernel_rfl) rfl (by kernel_rfl)
theorem isTime_c (a : Int) (h : Heap) : ACalls Tryd.prog 71 [.int .i64 a] h (fun v h' => v = .bool (decide (0 ≤ a) && decide (a ≤ 1000)) ∧ h' = h) := by
  refine k71_of0 rfl orc1_p fun I => ?_
  refine Run2.of I 1000 ?_
  simp -implicitDefEqProofs
noncomputable def o_isTime : List AV → Option (Prop × AV) := tab (fun (x : Int) => match x with | a => [.int .i64 a]) (fun x => match x with | a => True) (fun x => match x with | a => .bool (decide (0 ≤ a) && decide (a ≤ 1000)))
@[simp] theorem o_isTime_e (a : Int) : o_isTime [.int .i64 a] = some (True, .bool (decide (0 ≤ a) && decide (a ≤ 1000))) := tab_at (enc := fun (x : Int) => match x with | a => [.int .i64 a]) (fun x y h => by
  simp at h; simp [h] <;> omega) _ _ a
theorem o_isTime_k : Knows Tryd.prog 71 o_isTime := tab_knows fun x hx h => by
  exact isTime_c _ h
noncomputable def orcT : List (Nat × (List AV → Option (Prop × AV))) := (71, o_isTime) :: []
theorem orcT_p : Pure Tryd.prog (lk orcT) := (lk_pure o_isTime_k lk_pure0)
@[simp] theorem orcT_l (b : Bool) (g : FuncId) (l : List AV) : lk orcT b g l = if g = 71 then o_isTime l else none := nr rfl
abbrev k85_o0 : List AJ := [.o ⟨(some 2), none, false, .mv (.c (.bool false)), (some [0])⟩]
abbrev k85_o1 : List AJ := [.o ⟨(some 3), none, false, .mv (.t 0), none⟩, .o ⟨(some 4), none, false, .call 71 [(.t 3)], none⟩, .o ⟨(some 5), none, false, .un .not (.t 4), none⟩, .o ⟨(some 2), none, false, .mv (.t 5), (some [2])⟩]
def k85_2 : ACode := .seq (.region k85_o1) .ret
def k85_3 : ACode := .seq (.region k85_o0) k85_2
@[simp, simp ↓] theorem k85_2r : sR k85_2 k85_o1 .ret := yR rfl
@[simp, simp ↓] theorem k85_3r : sR k85_3 k85_o0 k85_2 := yR rfl
noncomputable abbrev k85_C : Orc → Cx := mkC Tryd.prog [] 85 6 [.tmp 2]
theorem k85_of0 : OfP0 Tryd.prog Tryd.f85 85 6 k85_C k85_3 := @ofP0 _ _ _ _ _ _ _ _ Tryd.func85 (by decide +kernel) rfl (by kernel_rfl) rfl (by kernel_rfl)
theorem VF1_c (a : Int) (h : Heap) : ACalls Tryd.prog 85 [.int .i64 a] h (fun v h' => v = .bool (!(decide (0 ≤ a) && decide (a ≤ 1000))) ∧ h' = h) := by
  refine k85_of0 rfl orcT_p fun I => ?_
  refine Run2.of I 1000 ?_
  simp -implicitDefEqProofs
abbrev k88_o0 : List AJ := [.o ⟨(some 2), none, false, .box false 3 (.t 0), none⟩, .o ⟨(some 3), none, false, .mv (.c (.bool false)), (some [1, 2])⟩]
abbrev k88_o1 : List AI := [⟨(some 4), none, false, .fieldA 1 (.t 1), none⟩, ⟨(some 5), none, false, .load 1 false (.t 4), none⟩, ⟨(some 6), none, false, .fieldA 2 (.t 2), none⟩, ⟨(some 7), none, false, .load 1 false (.t 6), none⟩, ⟨(some 8), none, false, .idxA 1 (.t 5) (.t 7), none⟩, ⟨(some 9), none, false, .load 1 false (.t 8), none⟩, ⟨(some 10), none, false, .fieldA 1 (.t 1), none⟩, ⟨(some 11), none, false, .load 1 false (.t 10), none⟩, ⟨(some 12), none, false, .fieldA 0 (.t 2), none⟩, ⟨(some 13), none, false, .load 1 false (.t 12), none⟩, ⟨(some 14), none, false, .idxA 1 (.t 11) (.t 13), none⟩, ⟨(some 15), none, false, .load 1 false (.t 14), none⟩, ⟨(some 16), none, false, .bin .gtr (.t 9) (.t 15), none⟩, ⟨(some 3), none, false, .mv (.t 16), (some [3])⟩]
def k88_2 : ACode := .seq (.draw k88_o1 [] rfl) .ret
def k88_3 : ACode := .seq (.region k88_o0) k88_2
@[simp, simp ↓] theorem k88_2r : sD k88_2 k88_o1 [] .ret := yD rfl
@[simp, simp ↓] theorem k88_3r : sR k88_3 k88_o0 k88_2 := yR rfl
noncomputable abbrev k88_C : Orc → Cx := mkC Tryd.prog [] 88 17 [.tmp 3]
theorem k88_of0 : OfP0 Tryd.prog Tryd.f88 88 17 k88_C k88_3 := @ofP0 _ _ _ _ _ _ _ _ Tryd.func88 (by decide +kernel) rfl (by kernel_rfl) rfl (by kernel_rfl)
theorem VF2_c (x : Fil) (i m : Nat) (k : Int) (h : Heap) (hi : i < x.ts.length) (hm : m < x.ts.length) : ACalls Tryd.prog 88 [.agg [.int .i64 i, .int .i64 k, .int .i64 m], .ip [.snap 1 (x.rs.map il), .snap 1 (x.ts.map iv)]] h (fun v h' => v = .bool (decide (x.ts[i] < x.ts[m])) ∧ h' = h) := by
  refine k88_of0 rfl noPure fun I => ?_
  refine Run2.of I 1000 ?_
  simp -implicitDefEqProofs [hi, hm]
noncomputable def orcF3 : List (Nat × (List AV → Option (Prop × AV))) := (84, o_validCx) :: []
theorem orcF3_p : Pure Tryd.prog (lk orcF3) := (lk_pure o_validCx_k lk_pure0)
@[simp] theorem orcF3_l (b : Bool) (g : FuncId) (l : List AV) : lk orcF3 b g l = if g = 84 then o_validCx l else none := nr rfl
abbrev k53_o0 : List AJ := [.o ⟨(some 1), none, false, .box false 2 (.t 0), none⟩, .o ⟨(some 2), none, false, .mv (.c (.bool false)), (some [1])⟩]
abbrev k53_o1 : List AJ := [.o ⟨(some 3), none, false, .fieldA 0 (.t 1), none⟩, .o ⟨(some 4), none, false, .load 1 true (.t 3), none⟩, .o ⟨(some 5), none, false, .call 84 [(.t 4)], none⟩, .o ⟨(some 6), none, false, .un .not (.t 5), none⟩, .o ⟨(some 7), none, false, .mv (.t 6), none⟩, .o ⟨(some 8), (some (7, false)), false, .fieldA 1 (.t 1), none⟩, .o ⟨(some 9), (some (7, false)), false, .load 1 false (.t 8), none⟩, .o ⟨(some 10), (some (7, false)), false, .len (.t 9), none⟩, .o ⟨(some 11), (some (7, false)), false, .fieldA 0 (.t 1), none⟩, .o ⟨(some 12), (some (7, false)), false, .fieldA 0 (.t 11), (some [1, 7, 10, 12])⟩, .o ⟨(some 13), (some (7, false)), false, .load 1 false (.t 12), none⟩, .o ⟨(some 14), (some (7, false)), false, .len (.t 13), none⟩, .o ⟨(some 15), (some (7, false)), false, .bin .neq (.t 10) (.t 14), none⟩, .o ⟨(some 16), none, false, .pick (.t 7) (.c (.bool true)) (.t 15), none⟩, .o ⟨(some 17), none, false, .mv (.t 16), none⟩, .o ⟨(some 18), (some (17, false)), false, .fieldA 1 (.t 1), none⟩, .o ⟨(some 19), (some (17, false)), false, .load 1 false (.t 18), none⟩, .o ⟨(some 20), (some (17, false)), false, .call 58 [(.t 19), (.c (.fn 85 []))], (some [1, 17, 20])⟩, .o ⟨(some 21), none, false, .pick (.t 17) (.c (.bool true)) (.t 20), (some [1, 21])⟩]
abbrev k53_o2 : List AJ := [.o ⟨(some 2), none, false, .mv (.c (.bool false)), (some [2])⟩]
def k53_3 : ACode := .seq (.region k53_o2) .ret
def k53_4 : ACode := .cond (.t 21) k53_3 .skip
def k53_5 : ACode := .seq (.region k53_o1) k53_4
abbrev k53_o3 : List AJ := [.o ⟨(some 22), none, false, .fieldA 0 (.t 1), none⟩, .o ⟨(some 23), none, false, .load 1 true (.t 22), none⟩, .o ⟨(some 24), none, false, .call 87 [(.t 23)], none⟩, .o ⟨(some 25), none, false, .mkfn 88 [(.t 1)], none⟩, .o ⟨(some 26), none, false, .call 86 [(.t 24), (.t 25)], none⟩, .o ⟨(some 27), none, false, .un .not (.t 26), none⟩, .o ⟨(some 2), none, false, .mv (.t 27), (some [2])⟩]
def k53_7 : ACode := .seq (.region k53_o3) .ret
def k53_8 : ACode := .seq k53_5 k53_7
def k53_9 : ACode := .seq (.region k53_o0) k53_8
@[simp, simp ↓] theorem k53_3r : sR k53_3 k53_o2 .ret := yR rfl
@[simp, simp ↓] theorem k53_4r : rC k53_4 (.t 21) k53_3 .skip := zC rfl
@[simp, simp ↓] theorem k53_5r : sR k53_5 k53_o1 k53_4 := yR rfl
@[simp, simp ↓] theorem k53_7r : sR k53_7 k53_o3 .ret := yR rfl
@[simp, simp ↓] theorem k53_8r : rS k53_8 k53_5 k53_7 := zS rfl
@[simp, simp ↓] theorem k53_9r : sR k53_9 k53_o0 k53_8 := yR rfl
noncomputable abbrev k53_C : Orc → Cx := mkC Tryd.prog [] 53 28 [.tmp 2]
theorem k53_of0 : OfP0 Tryd.prog Tryd.f53 53 28 k53_C k53_9 := @ofP0 _ _ _ _ _ _ _ _ Tryd.func53 (by decide +kernel) rfl (by kernel_rfl) rfl (by kernel_rfl)
theorem validFil_s (x : Fil) (h : Heap) (hl : x.tot ≤ 1048576) : ACalls Tryd.prog 53 [x.av] h (fun v h' => v = .bool (decide x.valid) ∧ h' = h) := by
  obtain ⟨hl1, hl2⟩ := x.lens hl
  have hn := (fit_of_tot hl1).1
  refine k53_of0 rfl orcF3_p fun I => ?_
  have hc := ContainsFunc_s x.ts 85 [] (fun a => !(decide (0 ≤ a) && decide (a ≤ 1000))) h hl2 fun a ha => VF1_c a h
  have hany : (x.ts.any fun a => !(decide (0 ≤ a) && decide (a ≤ 1000))) = true ↔ ¬ ∀ v ∈ x.ts, 0 ≤ v ∧ v ≤ 1000 := by
    simp
    constructor
    · rintro ⟨a, h1, h2⟩; exact ⟨a, h1, by omega⟩
    · rintro ⟨a, h1, h2⟩; exact ⟨a, h1, by omega⟩
  generalize (x.ts.any fun a => !(decide (0 ≤ a) && decide (a ≤ 1000))) = B at hc hany
  by_cases h1 : cxOk x.rs
  · by_cases h2 : x.ts.length = x.rs.length
    · have h2' : (x.ts.length : Int) = x.rs.length := by omega
      refine Run2.of I 1000 ?_
      simp -implicitDefEqProofs [hl1, h1, h2']
      refine hc.mono ?_
      rintro v h' ⟨rfl, rfl⟩
      cases B with
      | true =>
        have hb : ¬ x.valid := fun h => hany.1 rfl h.2.1.2
        refine gK.go ?_
        simp -implicitDefEqProofs [hb]
      | false =>
        have h3 : ∀ v ∈ x.ts, 0 ≤ v ∧ v ≤ 1000 := Classical.byContradiction fun hn => by simpa using hany.2 hn
        refine gK.go ?_
        simp -implicitDefEqProofs
        refine (arrows_s x.rs h' hl1 h1).mono ?_
        rintro v h'' ⟨rfl, rfl⟩
        refine gK.go ?_
        simp -implicitDefEqProofs
        have hal : (arw x.rs).length ≤ 1048576 := by
          have h48 := h1.2
          have : ∀ n, n ≤ x.rs.length → ((List.range n).flatMap fun i => arwK i (facesI x.rs (x.rs.getD i []))).length ≤ 4 * n := by
            intro n
            induction n with
            | zero => simp
            | succ n ih =>
              intro hn
              have := ih (by omega)
              have hfl := facesI_length x.rs x.rs[n]
              have hsm := (h1.1 n (by omega)).1.1.2
              have hget : x.rs.getD n [] = x.rs[n] := by simp [show n < x.rs.length by omega]
              rw [List.range_succ, List.flatMap_append, List.flatMap_singleton, hget, List.length_append]
              simp only [arwK, List.length_map, List.length_range] at this ⊢
              omega
          have := this x.rs.length (Nat.le_refl _)
          unfold arw
          omega
        refine (ContainsFuncA_s (arw x.rs) 88 [.ip [.snap 1 (x.rs.map il), .snap 1 (x.ts.map iv)]] (fun a => decide (x.ts.getD a.1.toNat 0 < x.ts.getD a.2.2.toNat 0)) h'' hal fun a ha => ?_).mono ?_
        · obtain ⟨i, hi, k, hk, rfl⟩ := arw_mem.1 ha
          have hin := facesI_in h1 hi _ (List.getElem_mem hk)
          obtain ⟨m, hm⟩ := Int.eq_ofNat_of_zero_le hin.1
          simp only [hm] at hin ⊢
          have hit : i < x.ts.length := by omega
          have hmt : m < x.ts.length := by omega
          have := VF2_c x i m k h'' hit hmt
          simpa [hit, hmt] using this
        · rintro v h ⟨rfl, rfl⟩
          have e : ((arw x.rs).any fun a => decide (x.ts.getD a.1.toNat 0 < x.ts.getD a.2.2.toNat 0)) = !decide x.valid := by
            rw [Bool.eq_iff_iff, List.any_eq_true, Bool.not_eq_true', decide_eq_false_iff_not]
            constructor
            · rintro ⟨a, ha, hq⟩ hv
              obtain ⟨i, hi, k, hk, rfl⟩ := arw_mem.1 ha
              have := (faceOk_iff x i hi).1 (hv.2.2 i hi) k hk
              simp only [decide_eq_true_eq, Int.toNat_natCast] at hq
              omega
            · intro hv
              refine Classical.byContradiction fun hno => hv ⟨h1, ⟨h2, h3⟩, fun i hi => (faceOk_iff x i hi).2 fun k hk => ?_⟩
              rcases Int.lt_or_le (x.ts.getD i 0) (x.ts.getD ((facesI x.rs x.rs[i])[k]).toNat 0) with hlt | hle
              · exact absurd ⟨_, arw_mem.2 ⟨i, hi, k, hk, rfl⟩, by simpa using hlt⟩ hno
              · exact hle
          rw [e]
          refine gK.go ?_
          simp -implicitDefEqProofs
    · have h2' : ¬ (x.ts.length : Int) = x.rs.length := by omega
      have hb : ¬ x.valid := fun h => h2 h.2.1.1
      refine Run2.of I 1000 ?_
      simp -implicitDefEqProofs [hl1, h1, h2', hb]
  · have hb : ¬ x.valid := fun h => h1 h.1
    refine Run2.of I 1000 ?_
    simp -implicitDefEqProofs [hl1, h1, hb]
noncomputable def o_validFil : List AV → Option (Prop × AV) := tab (fun (x : LS × List Int) => match x with | (rs, ts) => [.agg [.snap 1 (rs.map il), .snap 1 (ts.map iv)]]) (fun x => match x with | (rs, ts) => (⟨rs, ts⟩ : Fil).tot ≤ 1048576) (fun x => match x with | (rs, ts) => .bool (decide (⟨rs, ts⟩ : Fil).valid))
@[simp] theorem o_validFil_e (rs : LS) (ts : List Int) : o_validFil [.agg [.snap 1 (rs.map il), .snap 1 (ts.map iv)]] = some ((⟨rs, ts⟩ : Fil).tot ≤ 1048576, .bool (decide (⟨rs, ts⟩ : Fil).valid)) := tab_at (enc := fun (x : LS × List Int) => match x with | (rs, ts) => [.agg [.snap 1 (rs.map il), .snap 1 (ts.map iv)]]) (fun x y h => by
  obtain ⟨rs1, ts1⟩ := x; obtain ⟨rs2, ts2⟩ := y; simp at h; simp [h] <;> omega) _ _ (rs, ts)
theorem o_validFil_k : Knows Tryd.prog 53 o_validFil := tab_knows fun x hx h => by
  obtain ⟨rs, ts⟩ := x; exact validFil_s ⟨rs, ts⟩ h hx
end Go.AG
