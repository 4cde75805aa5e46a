/- Simplices: their order, their places, their faces. No statement is made here. -/
import Derived.Test.YtebkdegjiollbaaFxB
namespace Go.AG
open Go.Proofs Go.Proofs.Ytebkdegjiollbaa
set_option linter.unusedSimpArgs false
set_option linter.unusedVariables false
set_option maxRecDepth 4000
abbrev k139_o0 : List AJ := [.o ⟨(some 4), none, false, .mv (.c (.int .i64 0)), (some [0, 1])⟩]
abbrev k139_o1 : List AJ := [.o ⟨(some 9), none, false, .mv (.t 0), none⟩, .o ⟨(some 10), none, false, .len (.t 9), none⟩, .o ⟨(some 11), none, false, .mv (.c (.int .i64 0)), (some [0, 1, 9, 10, 11])⟩]
abbrev k139_o2 : List AJ := [.o ⟨(some 12), none, false, .bin .lss (.t 11) (.t 10), (some [0, 1, 9, 10, 11, 12])⟩]
abbrev k139_o3 : List AJ := [.o ⟨(some 13), none, false, .mv (.t 11), none⟩, .o ⟨(some 14), none, false, .idxA 1 (.t 9) (.t 11), none⟩, .o ⟨(some 15), none, false, .load 1 false (.t 14), none⟩, .o ⟨(some 5), none, false, .mv (.t 13), none⟩, .o ⟨(some 6), none, false, .mv (.t 15), (some [0, 1, 5, 6, 9, 10, 11])⟩]
abbrev k139_o4 : List AJ := [.o ⟨(some 16), none, false, .mv (.t 5), none⟩, .o ⟨(some 17), none, false, .mv (.t 1), none⟩, .o ⟨(some 18), none, false, .len (.t 17), none⟩, .o ⟨(some 19), none, false, .bin .geq (.t 16) (.t 18), (some [0, 1, 5, 6, 9, 10, 11, 19])⟩]
abbrev k139_o5 : List AJ := [.o ⟨(some 4), none, false, .mv (.c (.int .i64 1)), (some [4])⟩]
def k139_7 : ACode := .seq (.region k139_o5) .ret
def k139_8 : ACode := .cond (.t 19) k139_7 .skip
def k139_9 : ACode := .seq (.region k139_o4) k139_8
abbrev k139_o6 : List AJ := [.o ⟨(some 20), none, false, .mv (.t 1), none⟩, .o ⟨(some 21), none, false, .mv (.t 5), none⟩, .o ⟨(some 22), none, false, .idxA 1 (.t 20) (.t 21), none⟩, .o ⟨(some 23), none, false, .load 1 false (.t 22), none⟩, .o ⟨(some 7), none, false, .mv (.t 23), (some [0, 1, 6, 7, 9, 10, 11])⟩]
abbrev k139_o7 : List AJ := [.o ⟨(some 24), none, false, .mv (.t 6), none⟩, .o ⟨(some 25), none, false, .mv (.t 7), none⟩, .o ⟨(some 26), none, false, .call 129 [(.t 24), (.t 25)], none⟩, .o ⟨(some 8), none, false, .mv (.t 26), (some [0, 1, 8, 9, 10, 11])⟩]
abbrev k139_o8 : List AJ := [.o ⟨(some 27), none, false, .mv (.t 8), none⟩, .o ⟨(some 28), none, false, .bin .neq (.t 27) (.c (.int .i64 0)), (some [0, 1, 8, 9, 10, 11, 28])⟩]
abbrev k139_o9 : List AJ := [.o ⟨(some 29), none, false, .mv (.t 8), none⟩, .o ⟨(some 4), none, false, .mv (.t 29), (some [4])⟩]
def k139_14 : ACode := .seq (.region k139_o9) .ret
def k139_15 : ACode := .cond (.t 28) k139_14 .skip
def k139_16 : ACode := .seq (.region k139_o8) k139_15
def k139_17 : ACode := .seq (.region k139_o7) k139_16
def k139_18 : ACode := .seq (.region k139_o6) k139_17
def k139_19 : ACode := .seq k139_9 k139_18
def k139_20 : ACode := .seq (.region k139_o3) k139_19
abbrev k139_o10 : List AJ := [.o ⟨(some 30), none, true, .bin .add (.t 11) (.c (.int .i64 1)), none⟩, .o ⟨(some 11), none, false, .mv (.t 30), (some [0, 1, 9, 10, 11])⟩]
def k139_22 : ACode := .region k139_o10
def k139_23 : ACode := .seq (.block 1 k139_20) k139_22
def k139_24 : ACode := .seq (.cond (.t 12) .skip (.exit 0)) k139_23
def k139_25 : ACode := .seq (.region k139_o2) k139_24
def k139_26 : ACode := .loop k139_25
def k139_27 : ACode := .block 0 k139_26
def k139_28 : ACode := .seq (.region k139_o1) k139_27
abbrev k139_o11 : List AJ := [.o ⟨(some 31), none, false, .mv (.t 0), none⟩, .o ⟨(some 32), none, false, .len (.t 31), none⟩, .o ⟨(some 33), none, false, .mv (.t 1), none⟩, .o ⟨(some 34), none, false, .len (.t 33), none⟩, .o ⟨(some 35), none, false, .bin .lss (.t 32) (.t 34), (some [35])⟩]
abbrev k139_o12 : List AJ := [.o ⟨(some 4), none, false, .mv (.c (.int .i64 (-1))), (some [4])⟩]
def k139_31 : ACode := .seq (.region k139_o12) .ret
def k139_32 : ACode := .cond (.t 35) k139_31 .skip
def k139_33 : ACode := .seq (.region k139_o11) k139_32
abbrev k139_o13 : List AJ := [.o ⟨(some 4), none, false, .mv (.c (.int .i64 0)), (some [4])⟩]
def k139_35 : ACode := .seq (.region k139_o13) .ret
def k139_36 : ACode := .seq k139_33 k139_35
def k139_37 : ACode := .seq k139_28 k139_36
def k139_38 : ACode := .seq (.region k139_o0) k139_37
@[simp, simp ↓] theorem k139_7r : sR k139_7 k139_o5 .ret := yR rfl
@[simp, simp ↓] theorem k139_8r : rC k139_8 (.t 19) k139_7 .skip := zC rfl
@[simp, simp ↓] theorem k139_9r : sR k139_9 k139_o4 k139_8 := yR rfl
@[simp, simp ↓] theorem k139_14r : sR k139_14 k139_o9 .ret := yR rfl
@[simp, simp ↓] theorem k139_15r : rC k139_15 (.t 28) k139_14 .skip := zC rfl
@[simp, simp ↓] theorem k139_16r : sR k139_16 k139_o8 k139_15 := yR rfl
@[simp, simp ↓] theorem k139_17r : sR k139_17 k139_o7 k139_16 := yR rfl
@[simp, simp ↓] theorem k139_18r : sR k139_18 k139_o6 k139_17 := yR rfl
@[simp, simp ↓] theorem k139_19r : rS k139_19 k139_9 k139_18 := zS rfl
@[simp, simp ↓] theorem k139_20r : sR k139_20 k139_o3 k139_19 := yR rfl
@[simp, simp ↓] theorem k139_22r : rR k139_22 k139_o10 := zR rfl
@[simp, simp ↓] theorem k139_23r : sB k139_23 1 k139_20 k139_22 := yB rfl
@[simp, simp ↓] theorem k139_24r : sC k139_24 (.t 12) .skip (.exit 0) k139_23 := yC rfl
@[simp, simp ↓] theorem k139_25r : sR k139_25 k139_o2 k139_24 := yR rfl
@[simp, simp ↓] theorem k139_26r : rL k139_26 k139_25 := zL rfl
@[simp, simp ↓] theorem k139_27r : rB k139_27 0 k139_26 := zB rfl
@[simp, simp ↓] theorem k139_28r : sR k139_28 k139_o1 k139_27 := yR rfl
@[simp, simp ↓] theorem k139_31r : sR k139_31 k139_o12 .ret := yR rfl
@[simp, simp ↓] theorem k139_32r : rC k139_32 (.t 35) k139_31 .skip := zC rfl
@[simp, simp ↓] theorem k139_33r : sR k139_33 k139_o11 k139_32 := yR rfl
@[simp, simp ↓] theorem k139_35r : sR k139_35 k139_o13 .ret := yR rfl
@[simp, simp ↓] theorem k139_36r : rS k139_36 k139_33 k139_35 := zS rfl
@[simp, simp ↓] theorem k139_37r : rS k139_37 k139_28 k139_36 := zS rfl
@[simp, simp ↓] theorem k139_38r : sR k139_38 k139_o0 k139_37 := yR rfl
noncomputable abbrev k139_C : Orc → Cx := mkC Try.prog [] 139 36 [.tmp 4]
theorem k139_of0 : OfP0 Try.prog Try.f139 139 36 k139_C k139_38 := @ofP0 _ _ _ _ _ _ _ _ Try.func139 (by decide +kernel) rfl (by kernel_rfl) rfl (by kernel_rfl)
theorem cmpL_s (l m : List Int) (h : Heap) (hl : l.length ≤ 1048576) : ACalls Try.prog 139 [.snap 1 (l.map iv), .snap 1 (m.map iv)] h (fun v h' => v = .int .i64 (lexC l m) ∧ h' = h) := by
  refine k139_of0 rfl orc2_p fun I => ?_
  refine Run2.of I 1000 ?_
  simp -implicitDefEqProofs
  refine Run2.loopE (fun (i : Nat) => [(0, .snap 1 (l.map iv)), (1, .snap 1 (m.map iv)), (9, .snap 1 (l.map iv)), (10, .int .i64 l.length), (11, .int .i64 i)]) (fun i => h) (fun i => l.length - i) (fun i => i ≤ l.length ∧ i ≤ m.length ∧ lexC (l.drop i) (m.drop i) = lexC l m) 0 (by simp) rfl (by simp) fun i hi ih => ?_
  have hc := hi.2.2
  by_cases hlt : i < l.length
  · by_cases hlt2 : i < m.length
    · rw [List.drop_eq_getElem_cons hlt, List.drop_eq_getElem_cons hlt2] at hc
      simp only [lexC] at hc
      have go := fun (hz : cmpZ l[i] m[i] = 0) => ih (i + 1) ⟨by omega, by omega, by rw [← hc, if_pos hz]⟩ (by omega)
      clear ih
      refine Run2.of I 1000 ?_
      simp -implicitDefEqProofs [hlt, hlt2]
      refine ⟨fun h => by omega, fun h1 => by rw [← hc, if_neg h1], fun h1 => ⟨by omega, ?_⟩⟩
      simpa using go h1
    · obtain rfl : i = m.length := by omega
      rw [List.drop_eq_getElem_cons hlt, List.drop_length] at hc
      simp only [lexC] at hc
      refine Run2.of I 1000 ?_
      simp -implicitDefEqProofs [hlt]
      exact hc
  · obtain rfl : i = l.length := by omega
    rw [List.drop_length] at hc
    by_cases hlt2 : l.length < m.length
    · rw [List.drop_eq_getElem_cons hlt2] at hc
      simp only [lexC] at hc
      refine Run2.of I 1000 ?_
      simp -implicitDefEqProofs [hlt2]
      exact hc
    · rw [List.drop_of_length_le (by omega)] at hc
      simp only [lexC] at hc
      refine Run2.of I 1000 ?_
      simp -implicitDefEqProofs [hlt2]
      exact hc
noncomputable def o_cmpL : List AV → Option (Prop × AV) := tab (fun (x : List Int × List Int) => match x with | (l, m) => [.snap 1 (l.map iv), .snap 1 (m.map iv)]) (fun x => match x with | (l, m) => l.length ≤ 1048576) (fun x => match x with | (l, m) => .int .i64 (lexC l m))
@[simp] theorem o_cmpL_e (l : List Int) (m : List Int) : o_cmpL [.snap 1 (l.map iv), .snap 1 (m.map iv)] = some (l.length ≤ 1048576, .int .i64 (lexC l m)) := tab_at (enc := fun (x : List Int × List Int) => match x with | (l, m) => [.snap 1 (l.map iv), .snap 1 (m.map iv)]) (fun x y h => by
  obtain ⟨l1, m1⟩ := x; obtain ⟨l2, m2⟩ := y; simp at h; simp [h] <;> omega) _ _ (l, m)
theorem o_cmpL_k : Knows Try.prog 139 o_cmpL := tab_knows fun x hx h => by
  obtain ⟨l, m⟩ := x; exact cmpL_s l m h hx
noncomputable def orc3 : List (Nat × (List AV → Option (Prop × AV))) := (139, o_cmpL) :: orc2
theorem orc3_p : Pure Try.prog (lk orc3) := (lk_pure o_cmpL_k orc2_p)
@[simp] theorem orc3_l (b : Bool) (g : FuncId) (l : List AV) : lk orc3 b g l = if g = 139 then o_cmpL l else lk orc2 b g l := nr rfl
abbrev k104_o0 : List AJ := [.o ⟨(some 4), none, false, .mv (.c (.int .i64 0)), (some [0, 1])⟩]
abbrev k104_o1 : List AJ := [.o ⟨(some 5), none, false, .mv (.t 0), none⟩, .o ⟨(some 6), none, false, .len (.t 5), none⟩, .o ⟨(some 7), none, false, .mv (.t 1), none⟩, .o ⟨(some 8), none, false, .len (.t 7), none⟩, .o ⟨(some 9), none, false, .call 138 [(.t 6), (.t 8)], none⟩, .o ⟨(some 10), none, false, .mv (.t 0), none⟩, .o ⟨(some 11), none, false, .mv (.t 1), none⟩, .o ⟨(some 12), none, false, .call 139 [(.t 10), (.t 11)], none⟩, .o ⟨(some 13), none, false, .bsl false 1 [(.t 9), (.t 12)], none⟩, .o ⟨(some 14), none, false, .call 128 [(.t 13)], none⟩, .o ⟨(some 4), none, false, .mv (.t 14), (some [4])⟩]
def k104_2 : ACode := .seq (.region k104_o1) .ret
def k104_3 : ACode := .seq (.region k104_o0) k104_2
@[simp, simp ↓] theorem k104_2r : sR k104_2 k104_o1 .ret := yR rfl
@[simp, simp ↓] theorem k104_3r : sR k104_3 k104_o0 k104_2 := yR rfl
noncomputable abbrev k104_C : Orc → Cx := mkC Try.prog [] 104 15 [.tmp 4]
theorem k104_of0 : OfP0 Try.prog Try.f104 104 15 k104_C k104_3 := @ofP0 _ _ _ _ _ _ _ _ Try.func104 (by decide +kernel) rfl (by kernel_rfl) rfl (by kernel_rfl)
theorem cmpS_s (l m : List Int) (h : Heap) (hl : l.length ≤ 1048576) : ACalls Try.prog 104 [.snap 1 (l.map iv), .snap 1 (m.map iv)] h (fun v h' => v = .int .i64 (cmpS l m) ∧ h' = h) := by
  refine k104_of0 rfl orc3_p fun I => ?_
  refine Run2.of I 1000 ?_
  simp -implicitDefEqProofs [hl]
  simp only [cmpS, orI]
  grind
noncomputable def o_cmpS : List AV → Option (Prop × AV) := tab (fun (x : List Int × List Int) => match x with | (l, m) => [.snap 1 (l.map iv), .snap 1 (m.map iv)]) (fun x => match x with | (l, m) => l.length ≤ 1048576) (fun x => match x with | (l, m) => .int .i64 (cmpS l m))
@[simp] theorem o_cmpS_e (l : List Int) (m : List Int) : o_cmpS [.snap 1 (l.map iv), .snap 1 (m.map iv)] = some (l.length ≤ 1048576, .int .i64 (cmpS l m)) := tab_at (enc := fun (x : List Int × List Int) => match x with | (l, m) => [.snap 1 (l.map iv), .snap 1 (m.map iv)]) (fun x y h => by
  obtain ⟨l1, m1⟩ := x; obtain ⟨l2, m2⟩ := y; simp at h; simp [h] <;> omega) _ _ (l, m)
theorem o_cmpS_k : Knows Try.prog 104 o_cmpS := tab_knows fun x hx h => by
  obtain ⟨l, m⟩ := x; exact cmpS_s l m h hx
abbrev k140_o0 : List AJ := [.o ⟨(some 4), none, false, .mv (.c (.int .i64 0)), (some [0, 1])⟩]
abbrev k140_o1 : List AJ := [.o ⟨(some 6), none, false, .mv (.t 0), none⟩, .o ⟨(some 7), none, false, .len (.t 6), none⟩, .o ⟨(some 8), none, false, .mv (.c (.int .i64 0)), (some [0, 1, 7, 8])⟩]
abbrev k140_o2 : List AJ := [.o ⟨(some 9), none, false, .bin .lss (.t 8) (.t 7), (some [0, 1, 7, 8, 9])⟩]
abbrev k140_o3 : List AJ := [.o ⟨(some 10), none, false, .mv (.t 8), none⟩, .o ⟨(some 5), none, false, .mv (.t 10), (some [0, 1, 5, 7, 8])⟩]
abbrev k140_o4 : List AJ := [.o ⟨(some 11), none, false, .mv (.t 1), none⟩, .o ⟨(some 12), none, false, .mv (.t 0), none⟩, .o ⟨(some 13), none, false, .mv (.t 5), none⟩, .o ⟨(some 14), none, false, .idxA 1 (.t 12) (.t 13), none⟩, .o ⟨(some 15), none, false, .load 1 false (.t 14), none⟩, .o ⟨(some 16), none, false, .callv (.t 11) [(.t 15)], (some [0, 1, 5, 7, 8, 16])⟩]
abbrev k140_o5 : List AJ := [.o ⟨(some 17), none, false, .mv (.t 5), none⟩, .o ⟨(some 4), none, false, .mv (.t 17), (some [4])⟩]
def k140_7 : ACode := .seq (.region k140_o5) .ret
def k140_8 : ACode := .cond (.t 16) k140_7 .skip
def k140_9 : ACode := .seq (.region k140_o4) k140_8
def k140_10 : ACode := .seq (.region k140_o3) k140_9
abbrev k140_o6 : List AJ := [.o ⟨(some 18), none, true, .bin .add (.t 8) (.c (.int .i64 1)), none⟩, .o ⟨(some 8), none, false, .mv (.t 18), (some [0, 1, 7, 8])⟩]
def k140_12 : ACode := .region k140_o6
def k140_13 : ACode := .seq (.block 1 k140_10) k140_12
def k140_14 : ACode := .seq (.cond (.t 9) .skip (.exit 0)) k140_13
def k140_15 : ACode := .seq (.region k140_o2) k140_14
def k140_16 : ACode := .loop k140_15
def k140_17 : ACode := .block 0 k140_16
def k140_18 : ACode := .seq (.region k140_o1) k140_17
abbrev k140_o7 : List AJ := [.o ⟨(some 4), none, false, .mv (.c (.int .i64 (-1))), (some [4])⟩]
def k140_20 : ACode := .seq (.region k140_o7) .ret
def k140_21 : ACode := .seq k140_18 k140_20
def k140_22 : ACode := .seq (.region k140_o0) k140_21
@[simp, simp ↓] theorem k140_7r : sR k140_7 k140_o5 .ret := yR rfl
@[simp, simp ↓] theorem k140_8r : rC k140_8 (.t 16) k140_7 .skip := zC rfl
@[simp, simp ↓] theorem k140_9r : sR k140_9 k140_o4 k140_8 := yR rfl
@[simp, simp ↓] theorem k140_10r : sR k140_10 k140_o3 k140_9 := yR rfl
@[simp, simp ↓] theorem k140_12r : rR k140_12 k140_o6 := zR rfl
@[simp, simp ↓] theorem k140_13r : sB k140_13 1 k140_10 k140_12 := yB rfl
@[simp, simp ↓] theorem k140_14r : sC k140_14 (.t 9) .skip (.exit 0) k140_13 := yC rfl
@[simp, simp ↓] theorem k140_15r : sR k140_15 k140_o2 k140_14 := yR rfl
@[simp, simp ↓] theorem k140_16r : rL k140_16 k140_15 := zL rfl
@[simp, simp ↓] theorem k140_17r : rB k140_17 0 k140_16 := zB rfl
@[simp, simp ↓] theorem k140_18r : sR k140_18 k140_o1 k140_17 := yR rfl
@[simp, simp ↓] theorem k140_20r : sR k140_20 k140_o7 .ret := yR rfl
@[simp, simp ↓] theorem k140_21r : rS k140_21 k140_18 k140_20 := zS rfl
@[simp, simp ↓] theorem k140_22r : sR k140_22 k140_o0 k140_21 := yR rfl
noncomputable abbrev k140_C : Orc → Cx := mkC Try.prog [] 140 19 [.tmp 4]
theorem k140_of0 : OfP0 Try.prog Try.f140 140 19 k140_C k140_22 := @ofP0 _ _ _ _ _ _ _ _ Try.func140 (by decide +kernel) rfl (by kernel_rfl) rfl (by kernel_rfl)
/-- The first list for which q holds. -/
def idxs (q : List Int → Bool) (l : List (List Int)) : Int := match l.findIdx? q with
  | some i => i
  | none => -1
theorem idxs_at {q : List Int → Bool} {l : List (List Int)} {i : Nat} (h : i < l.length) (hb : ∀ j (hj : j < l.length), j < i → q l[j] = false) (ht : q l[i] = true) : idxs q l = i := by
  have : l.findIdx? q = some i := List.findIdx?_eq_some_iff_getElem.2 ⟨h, ht, fun j hj => by simp [hb j (by omega) hj]⟩
  unfold idxs; rw [this]
theorem idxs_none {q : List Int → Bool} {l : List (List Int)} (hb : ∀ j (hj : j < l.length), q l[j] = false) : idxs q l = -1 := by
  have : l.findIdx? q = none := List.findIdx?_eq_none_iff.2 fun a ha => by
    obtain ⟨j, hj, rfl⟩ := List.mem_iff_getElem.1 ha
    simp [hb j hj]
  unfold idxs; rw [this]
theorem idxs_ge (q : List Int → Bool) (l : List (List Int)) : (0 ≤ idxs q l) ↔ ∃ a ∈ l, q a = true := by
  unfold idxs
  cases h : l.findIdx? q with
  | none =>
    rw [List.findIdx?_eq_none_iff] at h
    simp only [show ¬ (0 : Int) ≤ -1 by omega, false_iff]
    rintro ⟨a, ha, hq⟩
    have := h a ha
    rw [hq] at this; cases this
  | some i =>
    obtain ⟨hi, hq, _⟩ := List.findIdx?_eq_some_iff_getElem.1 h
    simp only [Int.natCast_nonneg, true_iff]
    exact ⟨_, List.getElem_mem hi, hq⟩
theorem IndexFuncS_s (l : List (List Int)) (g : FuncId) (caps : List AV) (q : List Int → Bool) (h : Heap) (hl : l.length ≤ 1048576) (hq : ∀ a ∈ l, ACalls Try.prog g (.snap 1 (a.map iv) :: caps) h (fun v h' => v = .bool (q a) ∧ h' = h)) :
    ACalls Try.prog 140 [.snap 1 (l.map il), .fn g caps] h (fun v h' => v = .int .i64 (idxs q l) ∧ h' = h) := by
  refine k140_of0 rfl noPure fun I => ?_
  refine Run2.of I 1000 ?_
  simp -implicitDefEqProofs
  refine Run2.loopE (fun i => [(0, .snap 1 (l.map il)), (1, .fn g caps), (7, .int .i64 l.length), (8, .int .i64 (i : Nat))]) (fun i => h) (fun i => l.length - i) (fun i => i ≤ l.length ∧ ∀ j (hj : j < l.length), j < i → q l[j] = false) 0 (by simp) rfl ⟨Nat.zero_le _, fun _ _ h => absurd h (Nat.not_lt_zero _)⟩ fun i hi ih => ?_
  by_cases hlt : i < l.length
  · have go := fun (h1 : q l[i] = false) => ih (i + 1) ⟨by omega, fun j hj hji => by
      rcases Nat.lt_or_ge j i with h | h
      · exact hi.2 j hj h
      · obtain rfl : j = i := by omega
        exact h1⟩ (by omega)
    have hat := idxs_at (q := q) hlt hi.2
    clear ih
    refine Run2.of I 1000 ?_
    simp -implicitDefEqProofs [hlt]
    refine (hq _ (List.getElem_mem hlt)).mono ?_
    rintro v h' ⟨rfl, rfl⟩
    refine gK.go ?_
    simp -implicitDefEqProofs
    refine ⟨fun h => (hat h).symm, fun h => ⟨by omega, ?_⟩⟩
    simpa using go h
  · obtain rfl : i = l.length := by omega
    have := idxs_none (q := q) (l := l) fun j hj => hi.2 j hj hj
    refine Run2.of I 1000 ?_
    simp -implicitDefEqProofs
    exact this.symm
abbrev k105_o0 : List AJ := [.o ⟨(some 4), none, false, .mv (.c (.bool false)), (some [0, 1])⟩]
abbrev k105_o1 : List AJ := [.o ⟨(some 5), none, false, .mv (.t 0), none⟩, .o ⟨(some 6), none, false, .mv (.t 1), none⟩, .o ⟨(some 7), none, false, .call 140 [(.t 5), (.t 6)], none⟩, .o ⟨(some 8), none, false, .bin .geq (.t 7) (.c (.int .i64 0)), none⟩, .o ⟨(some 4), none, false, .mv (.t 8), (some [4])⟩]
def k105_2 : ACode := .seq (.region k105_o1) .ret
def k105_3 : ACode := .seq (.region k105_o0) k105_2
@[simp, simp ↓] theorem k105_2r : sR k105_2 k105_o1 .ret := yR rfl
@[simp, simp ↓] theorem k105_3r : sR k105_3 k105_o0 k105_2 := yR rfl
noncomputable abbrev k105_C : Orc → Cx := mkC Try.prog [] 105 9 [.tmp 4]
theorem k105_of0 : OfP0 Try.prog Try.f105 105 9 k105_C k105_3 := @ofP0 _ _ _ _ _ _ _ _ Try.func105 (by decide +kernel) rfl (by kernel_rfl) rfl (by kernel_rfl)
theorem ContainsFuncS_s (l : List (List Int)) (g : FuncId) (caps : List AV) (q : List Int → Bool) (h : Heap) (hl : l.length ≤ 1048576) (hq : ∀ a ∈ l, ACalls Try.prog g (.snap 1 (a.map iv) :: caps) h (fun v h' => v = .bool (q a) ∧ h' = h)) :
    ACalls Try.prog 105 [.snap 1 (l.map il), .fn g caps] h (fun v h' => v = .bool (l.any q) ∧ h' = h) := by
  refine k105_of0 rfl noPure fun I => ?_
  refine Run2.of I 1000 ?_
  simp -implicitDefEqProofs
  refine (IndexFuncS_s l g caps q h hl hq).mono ?_
  rintro v h' ⟨rfl, rfl⟩
  refine gK.go ?_
  simp -implicitDefEqProofs [idxs_ge]
  rw [Bool.eq_iff_iff]
  simp
theorem arR_u64 {w : Bool} {n : Int} (h0 : 0 ≤ n) (h1 : n ≤ 9223372036854775807) : arR w .u64 n = .val (.int .u64 n) := by
  have e : IntKind.u64.wrap n = n := IntWalk.u64_in (by omega) (by omega)
  cases w <;> simp only [arR] <;> rw [e]
abbrev k142_o0 : List AJ := [.o ⟨(some 6), none, false, .mv (.c (.int .i64 0)), none⟩, .o ⟨(some 7), none, false, .mv (.c (.bool false)), (some [0, 1, 2])⟩]
abbrev k142_o1 : List AJ := [.o ⟨(some 12), none, false, .mv (.t 0), none⟩, .o ⟨(some 13), none, false, .len (.t 12), none⟩, .o ⟨(some 8), none, false, .mv (.t 13), (some [0, 1, 2, 8])⟩]
abbrev k142_o2 : List AJ := [.o ⟨(some 14), none, false, .mv (.t 8), none⟩, .o ⟨(some 9), none, false, .mv (.c (.int .i64 0)), none⟩, .o ⟨(some 10), none, false, .mv (.t 14), (some [0, 1, 2, 8, 9, 10])⟩]
abbrev k142_o3 : List AJ := [.o ⟨(some 15), none, false, .mv (.t 9), none⟩, .o ⟨(some 16), none, false, .mv (.t 10), none⟩, .o ⟨(some 17), none, false, .bin .lss (.t 15) (.t 16), (some [0, 1, 2, 8, 9, 10, 17])⟩]
def k142_4 : ACode := .cond (.t 17) .skip (.exit 0)
def k142_5 : ACode := .seq (.region k142_o3) k142_4
abbrev k142_o4 : List AJ := [.o ⟨(some 18), none, false, .mv (.t 9), none⟩, .o ⟨(some 19), none, false, .mv (.t 10), none⟩, .o ⟨(some 20), none, true, .bin .add (.t 18) (.t 19), none⟩, .o ⟨(some 21), none, true, .conv .u64 (.t 20), none⟩, .o ⟨(some 22), none, false, .bin .shr (.t 21) (.c (.int .u64 1)), none⟩, .o ⟨(some 23), none, true, .conv .i64 (.t 22), none⟩, .o ⟨(some 11), none, false, .mv (.t 23), (some [0, 1, 2, 8, 9, 10, 11])⟩]
abbrev k142_o5 : List AJ := [.o ⟨(some 24), none, false, .mv (.t 2), none⟩, .o ⟨(some 25), none, false, .mv (.t 0), none⟩, .o ⟨(some 26), none, false, .mv (.t 11), none⟩, .o ⟨(some 27), none, false, .idxA 1 (.t 25) (.t 26), none⟩, .o ⟨(some 28), none, false, .load 1 false (.t 27), none⟩, .o ⟨(some 29), none, false, .mv (.t 1), none⟩, .o ⟨(some 30), none, false, .callv (.t 24) [(.t 28), (.t 29)], none⟩, .o ⟨(some 31), none, false, .bin .lss (.t 30) (.c (.int .i64 0)), (some [0, 1, 2, 8, 9, 10, 11, 31])⟩]
abbrev k142_o6 : List AJ := [.o ⟨(some 32), none, false, .mv (.t 11), none⟩, .o ⟨(some 33), none, true, .bin .add (.t 32) (.c (.int .i64 1)), none⟩, .o ⟨(some 9), none, false, .mv (.t 33), (some [0, 1, 2, 8, 9, 10])⟩]
def k142_8 : ACode := .region k142_o6
abbrev k142_o7 : List AJ := [.o ⟨(some 34), none, false, .mv (.t 11), none⟩, .o ⟨(some 10), none, false, .mv (.t 34), (some [0, 1, 2, 8, 9, 10])⟩]
def k142_9 : ACode := .region k142_o7
def k142_10 : ACode := .cond (.t 31) k142_8 k142_9
def k142_11 : ACode := .seq (.region k142_o5) k142_10
def k142_12 : ACode := .seq (.region k142_o4) k142_11
def k142_13 : ACode := .block 1 k142_12
def k142_14 : ACode := .seq k142_5 k142_13
def k142_15 : ACode := .loop k142_14
abbrev k142_o8 : List AJ := [.o ⟨(some 35), none, false, .mv (.t 9), none⟩, .o ⟨(some 36), none, false, .mv (.t 9), none⟩, .o ⟨(some 37), none, false, .mv (.t 8), none⟩, .o ⟨(some 38), none, false, .bin .lss (.t 36) (.t 37), none⟩, .o ⟨(some 39), none, false, .mv (.t 38), none⟩, .o ⟨(some 40), (some (39, true)), false, .mv (.t 2), none⟩, .o ⟨(some 41), (some (39, true)), false, .mv (.t 0), none⟩, .o ⟨(some 42), (some (39, true)), false, .mv (.t 9), none⟩, .o ⟨(some 43), (some (39, true)), false, .idxA 1 (.t 41) (.t 42), none⟩, .o ⟨(some 44), (some (39, true)), false, .load 1 false (.t 43), (some [1, 35, 39, 40, 44])⟩, .o ⟨(some 45), (some (39, true)), false, .mv (.t 1), none⟩, .o ⟨(some 46), (some (39, true)), false, .callv (.t 40) [(.t 44), (.t 45)], none⟩, .o ⟨(some 47), (some (39, true)), false, .bin .eql (.t 46) (.c (.int .i64 0)), none⟩, .o ⟨(some 48), none, false, .pick (.t 39) (.t 47) (.c (.bool false)), none⟩, .o ⟨(some 6), none, false, .mv (.t 35), none⟩, .o ⟨(some 7), none, false, .mv (.t 48), (some [6, 7])⟩]
def k142_18 : ACode := .seq (.region k142_o8) .ret
def k142_19 : ACode := .seq (.block 0 k142_15) k142_18
def k142_20 : ACode := .seq (.region k142_o2) k142_19
def k142_21 : ACode := .seq (.region k142_o1) k142_20
def k142_22 : ACode := .seq (.region k142_o0) k142_21
@[simp, simp ↓] theorem k142_4r : rC k142_4 (.t 17) .skip (.exit 0) := zC rfl
@[simp, simp ↓] theorem k142_5r : sR k142_5 k142_o3 k142_4 := yR rfl
@[simp, simp ↓] theorem k142_8r : rR k142_8 k142_o6 := zR rfl
@[simp, simp ↓] theorem k142_9r : rR k142_9 k142_o7 := zR rfl
@[simp, simp ↓] theorem k142_10r : rC k142_10 (.t 31) k142_8 k142_9 := zC rfl
@[simp, simp ↓] theorem k142_11r : sR k142_11 k142_o5 k142_10 := yR rfl
@[simp, simp ↓] theorem k142_12r : sR k142_12 k142_o4 k142_11 := yR rfl
@[simp, simp ↓] theorem k142_13r : rB k142_13 1 k142_12 := zB rfl
@[simp, simp ↓] theorem k142_14r : rS k142_14 k142_5 k142_13 := zS rfl
@[simp, simp ↓] theorem k142_15r : rL k142_15 k142_14 := zL rfl
@[simp, simp ↓] theorem k142_18r : sR k142_18 k142_o8 .ret := yR rfl
@[simp, simp ↓] theorem k142_19r : sB k142_19 0 k142_15 k142_18 := yB rfl
@[simp, simp ↓] theorem k142_20r : sR k142_20 k142_o2 k142_19 := yR rfl
@[simp, simp ↓] theorem k142_21r : sR k142_21 k142_o1 k142_20 := yR rfl
@[simp, simp ↓] theorem k142_22r : sR k142_22 k142_o0 k142_21 := yR rfl
noncomputable abbrev k142_C : Orc → Cx := mkC Try.prog [] 142 49 [.tmp 6, .tmp 7]
theorem k142_of0 : OfP0 Try.prog Try.f142 142 49 k142_C k142_22 := @ofP0 _ _ _ _ _ _ _ _ Try.func142 (by decide +kernel) rfl (by kernel_rfl) rfl (by kernel_rfl)
theorem bsearch_s (rs : List (List Int)) (s : List Int) (h : Heap) (hl : ssTot rs ≤ 1048576) (hs : sortS rs) : ACalls Try.prog 142 [.snap 1 (rs.map il), .snap 1 (s.map iv), .fn 104 []] h (fun v h' => ∃ k : Int, v = .tup [.int .i64 k, .bool (decide (s ∈ rs))] ∧ (s ∈ rs → k = ixS rs s) ∧ h' = h) := by
  have hf := fit_of_tot hl
  have hn := hf.1
  refine k142_of0 rfl noPure fun I => ?_
  refine Run2.of I 1000 ?_
  simp -implicitDefEqProofs
  refine Run2.loopE (α := Nat × Nat) (fun p => [(0, .snap 1 (rs.map il)), (1, .snap 1 (s.map iv)), (2, .fn 104 []), (8, .int .i64 rs.length), (9, .int .i64 (p.1 : Nat)), (10, .int .i64 (p.2 : Nat))]) (fun p => h) (fun p => p.2 - p.1) (fun p => p.1 ≤ p.2 ∧ p.2 ≤ rs.length ∧ (∀ j (hj : j < rs.length), j < p.1 → cmpS rs[j] s < 0) ∧ ∀ j (hj : j < rs.length), p.2 ≤ j → 0 ≤ cmpS rs[j] s) (0, rs.length) (by simp) rfl ⟨Nat.zero_le _, Nat.le_refl _, fun _ _ h => by simp at h, fun _ _ h => by simp at h; omega⟩ ?_
  rintro ⟨i, j⟩ ⟨h1, h2, h3, h4⟩ ih
  simp only at h1 h2 h3 h4
  by_cases hlt : i < j
  · have hm1 : i ≤ (i + j) / 2 := by omega
    have hm2 : (i + j) / 2 < j := by omega
    have hm3 : (i + j) / 2 < rs.length := by omega
    have hw := arR_u64 (w := true) (n := (i : Int) + j) (by omega) (by omega)
    have hm : ((i : Int) + j).fdiv (2 ^ min 1 IntKind.u64.bits) = (((i + j) / 2 : Nat) : Int) := by
      rw [show (2 : Int) ^ min 1 IntKind.u64.bits = 2 from rfl, Int.fdiv_eq_ediv_of_nonneg _ (by omega)]; omega
    have go1 := fun (hc : cmpS rs[(i + j) / 2] s < 0) => ih ((i + j) / 2 + 1, j) ⟨by simp; omega, h2, fun k hk hki => by
      simp only at hki
      rcases Nat.lt_or_ge k ((i + j) / 2) with h | h
      · exact cmpS_trans (hs.lt h hm3) hc
      · obtain rfl : k = (i + j) / 2 := by omega
        exact hc, h4⟩ (by simp; omega)
    have go2 := fun (hc : 0 ≤ cmpS rs[(i + j) / 2] s) => ih (i, (i + j) / 2) ⟨by simp; omega, by simp; omega, h3, fun k hk hki => by
      simp only at hki
      rcases Nat.lt_or_ge ((i + j) / 2) k with h | h
      · have := hs.lt h hk
        have t := cmpS_total rs[k] s
        rcases Int.lt_or_le (cmpS rs[k] s) 0 with h5 | h5
        · have := cmpS_trans this h5; omega
        · exact h5
      · obtain rfl : k = (i + j) / 2 := by omega
        exact hc⟩ (by simp; omega)
    have hr := hf.2 _ (List.getElem_mem hm3)
    clear ih
    generalize hM : (i + j) / 2 = m at *
    refine Run2.of I 1000 ?_
    simp -implicitDefEqProofs [hlt, hw, hm]
    refine ⟨by omega, by omega, ?_⟩
    simp -implicitDefEqProofs [hm3]
    refine (cmpS_s rs[m] s h hr).mono ?_
    rintro v h' ⟨rfl, rfl⟩
    refine gK.go ?_
    simp -implicitDefEqProofs
    exact ⟨fun h => ⟨by omega, by simpa using go1 h⟩, fun h => go2 h⟩
  · obtain rfl : i = j := by omega
    have hne : ∀ k (hk : k < rs.length), rs[k] = s → k = i := fun k hk e => by
      have hz := (cmpS_zero rs[k] s).2 e
      rcases Nat.lt_trichotomy k i with h | h | h
      · have := h3 k hk h; omega
      · exact h
      · have h5 := hs.lt h hk
        have h6 := h4 i (by omega) (Nat.le_refl _)
        have t := cmpS_total rs[i] s
        rw [e] at h5
        omega
    by_cases hin : i < rs.length
    · have hr := hf.2 _ (List.getElem_mem hin)
      have hiff : cmpS rs[i] s = 0 ↔ s ∈ rs := by
        rw [cmpS_zero]
        constructor
        · intro e; exact e ▸ List.getElem_mem hin
        · intro hm
          obtain ⟨k, hk, e⟩ := List.mem_iff_getElem.1 hm
          obtain rfl := hne k hk e
          exact e
      have hix : s ∈ rs → (i : Int) = ixS rs s := fun hm => by
        have e := (cmpS_zero rs[i] s).1 (hiff.2 hm)
        have := hs.ix hin
        rw [e] at this
        exact this.symm
      refine Run2.of I 1000 ?_
      simp -implicitDefEqProofs [hlt, hin]
      refine (cmpS_s rs[i] s h hr).mono ?_
      rintro v h' ⟨rfl, rfl⟩
      refine gK.go ?_
      simp -implicitDefEqProofs [hiff]
      exact hix
    · have hno : s ∉ rs := fun hm => by
        obtain ⟨k, hk, e⟩ := List.mem_iff_getElem.1 hm
        have := hne k hk e
        omega
      refine Run2.of I 1000 ?_
      simp -implicitDefEqProofs [hlt, hin, hno]
abbrev k108_o0 : List AJ := [.o ⟨(some 2), none, false, .box false 1 (.t 0), none⟩, .o ⟨(some 4), none, false, .mv (.c (.int .i64 0)), (some [1, 2])⟩]
abbrev k108_o1 : List AJ := [.o ⟨(some 8), none, false, .fieldA 0 (.t 2), none⟩, .o ⟨(some 9), none, false, .load 1 false (.t 8), none⟩, .o ⟨(some 10), none, false, .mv (.t 1), none⟩, .o ⟨(some 11), none, false, .call 142 [(.t 9), (.t 10), (.c (.fn 104 []))], none⟩, .o ⟨(some 7), none, false, .mv (.t 11), none⟩, .o ⟨(some 12), none, false, .extract (.t 7) 0, none⟩, .o ⟨(some 13), none, false, .extract (.t 7) 1, none⟩, .o ⟨(some 5), none, false, .mv (.t 12), none⟩, .o ⟨(some 6), none, false, .mv (.t 13), (some [5, 6])⟩]
abbrev k108_o2 : List AJ := [.o ⟨(some 14), none, false, .mv (.t 6), none⟩, .o ⟨(some 15), none, false, .un .not (.t 14), (some [5, 15])⟩]
abbrev k108_o3 : List AJ := [.o ⟨(some 4), none, false, .mv (.c (.int .i64 (-1))), (some [4])⟩]
def k108_4 : ACode := .seq (.region k108_o3) .ret
def k108_5 : ACode := .cond (.t 15) k108_4 .skip
def k108_6 : ACode := .seq (.region k108_o2) k108_5
abbrev k108_o4 : List AJ := [.o ⟨(some 16), none, false, .mv (.t 5), none⟩, .o ⟨(some 4), none, false, .mv (.t 16), (some [4])⟩]
def k108_8 : ACode := .seq (.region k108_o4) .ret
def k108_9 : ACode := .seq k108_6 k108_8
def k108_10 : ACode := .seq (.region k108_o1) k108_9
def k108_11 : ACode := .seq (.region k108_o0) k108_10
@[simp, simp ↓] theorem k108_4r : sR k108_4 k108_o3 .ret := yR rfl
@[simp, simp ↓] theorem k108_5r : rC k108_5 (.t 15) k108_4 .skip := zC rfl
@[simp, simp ↓] theorem k108_6r : sR k108_6 k108_o2 k108_5 := yR rfl
@[simp, simp ↓] theorem k108_8r : sR k108_8 k108_o4 .ret := yR rfl
@[simp, simp ↓] theorem k108_9r : rS k108_9 k108_6 k108_8 := zS rfl
@[simp, simp ↓] theorem k108_10r : sR k108_10 k108_o1 k108_9 := yR rfl
@[simp, simp ↓] theorem k108_11r : sR k108_11 k108_o0 k108_10 := yR rfl
noncomputable abbrev k108_C : Orc → Cx := mkC Try.prog [] 108 17 [.tmp 4]
theorem k108_of0 : OfP0 Try.prog Try.f108 108 17 k108_C k108_11 := @ofP0 _ _ _ _ _ _ _ _ Try.func108 (by decide +kernel) rfl (by kernel_rfl) rfl (by kernel_rfl)
theorem indexOf_s (rs : List (List Int)) (s : List Int) (h : Heap) (hl : ssTot rs ≤ 1048576) (hs : sortS rs) : ACalls Try.prog 108 [.agg [.snap 1 (rs.map il)], .snap 1 (s.map iv)] h (fun v h' => v = .int .i64 (ixS rs s) ∧ h' = h) := by
  refine k108_of0 rfl noPure fun I => ?_
  refine Run2.of I 1000 ?_
  simp -implicitDefEqProofs
  refine (bsearch_s rs s h hl hs).mono ?_
  rintro v h' ⟨k, rfl, hk, rfl⟩
  refine gK.go ?_
  simp -implicitDefEqProofs
  exact ⟨fun hn => (ixS_none hn).symm, hk⟩
noncomputable def o_indexOf : List AV → Option (Prop × AV) := tab (fun (x : LS × List Int) => match x with | (rs, s) => [.agg [.snap 1 (rs.map il)], .snap 1 (s.map iv)]) (fun x => match x with | (rs, s) => (ssTot rs ≤ 1048576 ∧ sortS rs)) (fun x => match x with | (rs, s) => .int .i64 (ixS rs s))
@[simp] theorem o_indexOf_e (rs : LS) (s : List Int) : o_indexOf [.agg [.snap 1 (rs.map il)], .snap 1 (s.map iv)] = some ((ssTot rs ≤ 1048576 ∧ sortS rs), .int .i64 (ixS rs s)) := tab_at (enc := fun (x : LS × List Int) => match x with | (rs, s) => [.agg [.snap 1 (rs.map il)], .snap 1 (s.map iv)]) (fun x y h => by
  obtain ⟨rs1, s1⟩ := x; obtain ⟨rs2, s2⟩ := y; simp at h; simp [h] <;> omega) _ _ (rs, s)
theorem o_indexOf_k : Knows Try.prog 108 o_indexOf := tab_knows fun x hx h => by
  obtain ⟨rs, s⟩ := x; exact indexOf_s rs s h hx.1 hx.2
theorem Concat_f (a b : List AV) (h : Heap) (ha : a.length + b.length ≤ 1048576) : ACalls Try.prog 141 [.snap 1 [.snap 1 a, .snap 1 b]] h (fun v h' => v = .snap 1 (a ++ b) ∧ h' = h) := by
  have := ConcatI_g [a, b] h (by simp) (by simpa using ha)
  rw [flatten2] at this
  refine ACalls.post (ACalls.mono (by simpa using this) ?_)
  rintro v h' ⟨hp, g, rfl⟩
  exact Post.lend (.wk g.lent (.base ⟨rfl, rfl⟩))
noncomputable def o_concat : List AV → Option (Prop × AV) := tab (fun (x : List AV × List AV) => match x with | (a, b) => [.snap 1 [.snap 1 a, .snap 1 b]]) (fun x => match x with | (a, b) => a.length + b.length ≤ 1048576) (fun x => match x with | (a, b) => .snap 1 (a ++ b))
@[simp] theorem o_concat_e (a : List AV) (b : List AV) : o_concat [.snap 1 [.snap 1 a, .snap 1 b]] = some (a.length + b.length ≤ 1048576, .snap 1 (a ++ b)) := tab_at (enc := fun (x : List AV × List AV) => match x with | (a, b) => [.snap 1 [.snap 1 a, .snap 1 b]]) (fun x y h => by
  obtain ⟨a1, b1⟩ := x; obtain ⟨a2, b2⟩ := y; simp at h; simp [h] <;> omega) _ _ (a, b)
theorem o_concat_k : Knows Try.prog 141 o_concat := tab_knows fun x hx h => by
  obtain ⟨a, b⟩ := x; exact Concat_f a b h hx
noncomputable def orcC : List (Nat × (List AV → Option (Prop × AV))) := (141, o_concat) :: []
theorem orcC_p : Pure Try.prog (lk orcC) := (lk_pure o_concat_k lk_pure0)
@[simp] theorem orcC_l (b : Bool) (g : FuncId) (l : List AV) : lk orcC b g l = if g = 141 then o_concat l else none := nr rfl
theorem dropK_il (s : List Int) (k : Nat) : AV.snap 1 (List.take k (s.map iv) ++ List.drop (k + 1) (s.map iv)) = il (dropK s k) := by
  simp only [il, dropK, List.map_append, List.map_take, List.map_drop]
abbrev k106_o0 : List AJ := [.o ⟨(some 2), none, false, .mv (.c .nilsl), (some [0])⟩]
abbrev k106_o1 : List AJ := [.o ⟨(some 3), none, false, .mv (.c .nilsl), (some [0, 3])⟩]
abbrev k106_o2 : List AJ := [.o ⟨(some 5), none, false, .mv (.t 0), none⟩, .o ⟨(some 6), none, false, .len (.t 5), none⟩, .o ⟨(some 7), none, false, .mv (.c (.int .i64 0)), (some [0, 3, 6, 7])⟩]
abbrev k106_o3 : List AJ := [.o ⟨(some 8), none, false, .bin .lss (.t 7) (.t 6), (some [0, 3, 6, 7, 8])⟩]
abbrev k106_o4 : List AJ := [.o ⟨(some 9), none, false, .mv (.t 7), none⟩, .o ⟨(some 4), none, false, .mv (.t 9), (some [0, 3, 4, 6, 7])⟩]
abbrev k106_o5 : List AJ := [.o ⟨(some 10), none, false, .mv (.t 0), none⟩, .o ⟨(some 11), none, false, .len (.t 10), none⟩, .o ⟨(some 12), none, false, .bin .gtr (.t 11) (.c (.int .i64 1)), (some [0, 3, 4, 6, 7, 12])⟩]
abbrev k106_o6 : List AI := [⟨(some 13), none, false, .mv (.t 3), none⟩, ⟨(some 14), none, false, .mv (.t 0), none⟩, ⟨(some 15), none, false, .mv (.t 4), none⟩, ⟨(some 16), none, false, .slice 1 (.t 14) none (some (.t 15)) none, none⟩, ⟨(some 17), none, false, .mv (.t 0), none⟩, ⟨(some 18), none, false, .mv (.t 4), none⟩, ⟨(some 19), none, true, .bin .add (.t 18) (.c (.int .i64 1)), none⟩, ⟨(some 20), none, false, .slice 1 (.t 17) (some (.t 19)) none none, none⟩, ⟨(some 21), none, false, .bsl false 1 [(.t 16), (.t 20)], none⟩, ⟨(some 22), none, false, .call 141 [(.t 21)], none⟩, ⟨(some 23), none, false, .bsl false 1 [(.t 22)], (some [0, 6, 7, 13, 23])⟩]
abbrev k106_o7 : List AJ := [.o ⟨(some 24), none, false, .append 1 24 (.t 13) (.t 23), none⟩, .o ⟨(some 3), none, false, .mv (.t 24), (some [0, 3, 6, 7])⟩]
def k106_7 : ACode := .draw k106_o6 k106_o7 rfl
def k106_8 : ACode := .cond (.t 12) k106_7 .skip
def k106_9 : ACode := .seq (.region k106_o5) k106_8
def k106_10 : ACode := .seq (.region k106_o4) k106_9
abbrev k106_o8 : List AJ := [.o ⟨(some 25), none, true, .bin .add (.t 7) (.c (.int .i64 1)), none⟩, .o ⟨(some 7), none, false, .mv (.t 25), (some [0, 3, 6, 7])⟩]
def k106_12 : ACode := .region k106_o8
def k106_13 : ACode := .seq (.block 1 k106_10) k106_12
def k106_14 : ACode := .seq (.cond (.t 8) .skip (.exit 0)) k106_13
def k106_15 : ACode := .seq (.region k106_o3) k106_14
def k106_16 : ACode := .loop k106_15
def k106_17 : ACode := .block 0 k106_16
def k106_18 : ACode := .seq (.region k106_o2) k106_17
abbrev k106_o9 : List AJ := [.o ⟨(some 26), none, false, .mv (.t 3), none⟩, .o ⟨(some 2), none, false, .mv (.t 26), (some [2])⟩]
def k106_20 : ACode := .seq (.region k106_o9) .ret
def k106_21 : ACode := .seq k106_18 k106_20
def k106_22 : ACode := .seq (.region k106_o1) k106_21
def k106_23 : ACode := .seq (.region k106_o0) k106_22
@[simp, simp ↓] theorem k106_7r : rD k106_7 k106_o6 k106_o7 := zD rfl
@[simp, simp ↓] theorem k106_8r : rC k106_8 (.t 12) k106_7 .skip := zC rfl
@[simp, simp ↓] theorem k106_9r : sR k106_9 k106_o5 k106_8 := yR rfl
@[simp, simp ↓] theorem k106_10r : sR k106_10 k106_o4 k106_9 := yR rfl
@[simp, simp ↓] theorem k106_12r : rR k106_12 k106_o8 := zR rfl
@[simp, simp ↓] theorem k106_13r : sB k106_13 1 k106_10 k106_12 := yB rfl
@[simp, simp ↓] theorem k106_14r : sC k106_14 (.t 8) .skip (.exit 0) k106_13 := yC rfl
@[simp, simp ↓] theorem k106_15r : sR k106_15 k106_o3 k106_14 := yR rfl
@[simp, simp ↓] theorem k106_16r : rL k106_16 k106_15 := zL rfl
@[simp, simp ↓] theorem k106_17r : rB k106_17 0 k106_16 := zB rfl
@[simp, simp ↓] theorem k106_18r : sR k106_18 k106_o2 k106_17 := yR rfl
@[simp, simp ↓] theorem k106_20r : sR k106_20 k106_o9 .ret := yR rfl
@[simp, simp ↓] theorem k106_21r : rS k106_21 k106_18 k106_20 := zS rfl
@[simp, simp ↓] theorem k106_22r : sR k106_22 k106_o1 k106_21 := yR rfl
@[simp, simp ↓] theorem k106_23r : sR k106_23 k106_o0 k106_22 := yR rfl
noncomputable abbrev k106_C : Orc → Cx := mkC Try.prog [] 106 27 [.tmp 2]
theorem k106_of : OfP Try.prog Try.f106 106 27 k106_C k106_23 := @ofP _ _ _ _ _ _ _ _ Try.func106 (by decide +kernel) rfl (by kernel_rfl) rfl (by kernel_rfl)
theorem facesOf_s (s : List Int) (h : Heap) (hl : s.length ≤ 1048576) : ACalls Try.prog 106 [.snap 1 (s.map iv)] h (fun v h' => v = .snap 1 ((faces s).map il) ∧ h' = h) := by
  refine k106_of rfl orcC_p fun I => ?_
  refine Run2.of I 1000 ?_
  simp -implicitDefEqProofs
  refine Run2.loopE (α := Nat × AV × Heap) (fun p => [(0, .snap 1 (s.map iv)), (3, p.2.1), (6, .int .i64 s.length), (7, .int .i64 (p.1 : Nat))]) (fun p => p.2.2 ++ h) (fun p => s.length - p.1) (fun p => p.1 ≤ s.length ∧ Grow 1 p.2.1 ((if 1 < s.length then (List.range p.1).map (dropK s) else []).map il) p.2.2) (0, .nilsl, []) (by simp) rfl ⟨Nat.zero_le _, by simpa using Grow.nil⟩ ?_
  rintro ⟨i, w, hp⟩ ⟨hi, hg⟩ ih
  simp only at hi hg
  have hcell := hg.cell
  by_cases hlt : i < s.length
  · by_cases h1 : 1 < s.length
    · rw [if_pos h1] at hg
      have go := fun w' hp' (g : Grow 1 w' ((List.range i).map (dropK s) |>.map il |>.append [il (dropK s i)]) hp') => ih (i + 1, w', hp') ⟨hlt, by
        simp only
        rw [if_pos h1, List.range_succ, List.map_append, List.map_append]
        exact g⟩ (by simp; omega)
      clear ih
      refine Run2.of I 1000 ?_
      simp -implicitDefEqProofs [hlt, h1, hcell]
      have htk : List.take ((s.length : Int) - ((i : Int) + 1)).toNat (List.drop (i + 1) (List.map iv s)) = List.drop (i + 1) (List.map iv s) := List.take_of_length_le (by simp; omega)
      rw [htk, dropK_il]
      refine ⟨fun _ => ⟨hi, by omega, by omega, by omega, ?_⟩, fun h => by omega⟩
      refine hg.app (by simp; omega) (by simp) fun w' hp' hg' => ?_
      have hcell' := hg'.cell
      have := go w' hp' hg'
      simp -implicitDefEqProofs [hcell']
      refine ⟨by omega, ?_⟩
      simpa using this
    · rw [if_neg h1] at hg
      have go := ih (i + 1, w, hp) ⟨hlt, by simpa [h1] using hg⟩ (by simp; omega)
      clear ih
      refine Run2.of I 1000 ?_
      simp -implicitDefEqProofs [hlt, h1, hcell]
      refine ⟨fun h => by omega, fun _ => ⟨by omega, ?_⟩⟩
      simpa using go
  · obtain rfl : i = s.length := by omega
    refine Run2.of I 1000 ?_
    simp -implicitDefEqProofs [hcell]
    refine hg.froze (fun x => x) (fun _ _ _ => rfl) (fun _ _ h => h) (.base ⟨?_, rfl⟩)
    rfl
end Go.AG
