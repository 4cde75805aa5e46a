/- The text of phases: the program and the reference. No statement is made here. -/
import Derived.Test.YtnbllllkaohfoaaDoorStB
import Derived.Test.YtnbllllkaohfoaaDoorPhVal
namespace Go.AG.P
open Go.Proofs Go.Proofs.YtnbllllkaohfoaaDoor
set_option linter.unusedSimpArgs false
set_option linter.unusedVariables false
set_option maxRecDepth 4000
def tT (t : T) : List UInt8 := lstT [t.f, t.t, t.s]
def phH (x : Ph) : List UInt8 := Lib.itoa x.n ++ (37 :: Lib.itoa x.m)
noncomputable def phT (x : Ph) : List UInt8 := if x.valid then Lib.join (phH x :: x.ts.map tT) [32] else []
theorem valid_el {x : Ph} (h : x.valid) {t : T} (ht : t ∈ x.ts) : valI t.f ∧ valI t.t ∧ valI t.s := by
  obtain ⟨j, hj, rfl⟩ := List.mem_iff_getElem.1 ht
  obtain ⟨h1, h2, h3, h4, h5, h6⟩ := h
  have := (h5 j hj hj).1
  unfold Ph.el at this
  unfold valI
  omega
theorem tT_len {t : T} (h : valI t.f ∧ valI t.t ∧ valI t.s) : (tT t).length ≤ 70 := by
  have := lstT_len (l := [t.f, t.t, t.s]) (fun n hn => by
    simp at hn
    rcases hn with rfl | rfl | rfl
    · exact valI_in h.1
    · exact valI_in h.2.1
    · exact valI_in h.2.2)
  simp at this
  unfold tT
  omega
theorem phH_len {x : Ph} (h : x.valid) : (phH x).length ≤ 70 := by
  obtain ⟨h1, h2, h3, h4, _⟩ := h
  have e1 := itoa_len (n := x.n) (by omega) (by omega)
  have e2 := itoa_len (n := x.m) (by omega) (by omega)
  unfold phH
  simp
  omega
theorem ph_takeL {x : Ph} (h : x.valid) (i : Nat) (hi : i ≤ x.ts.length) : (Lib.join (phH x :: (x.ts.take i).map tT) [32]).length ≤ 2000 := by
  have h1 := join_lenL (phH x :: (x.ts.take i).map tT) [32] 70 fun y hy => by
    rcases List.mem_cons.1 hy with rfl | hy
    · exact phH_len h
    · obtain ⟨t, ht, rfl⟩ := List.mem_map.1 hy
      exact tT_len (valid_el h (List.mem_of_mem_take ht))
  have h24 := h.2.2.2.2.2
  rw [List.length_cons, List.length_map, List.length_take, show min i x.ts.length = i by omega] at h1
  simp only [List.length_singleton] at h1
  omega
noncomputable def orcT1 : List (Nat × (List AV → Option (Prop × AV))) := (47, o_valid) :: (40, o_Decimal) :: (33, o_ListText) :: []
theorem orcT1_p : Pure Tryd.prog (lk orcT1) := (lk_pure o_valid_k (lk_pure o_Decimal_k (lk_pure o_ListText_k lk_pure0)))
@[simp] theorem orcT1_l (b : Bool) (g : FuncId) (l : List AV) : lk orcT1 b g l = if g = 47 then o_valid l else if g = 40 then o_Decimal l else if g = 33 then o_ListText l else none := nr rfl
abbrev k20_o0 : List AJ := [.o ⟨(some 1), none, false, .box false 3 (.t 0), none⟩, .o ⟨(some 2), none, false, .mv (.c (.str [])), (some [1])⟩]
abbrev k20_o1 : List AJ := [.o ⟨(some 6), none, false, .load 3 true (.t 1), none⟩, .o ⟨(some 7), none, false, .call 47 [(.t 6)], none⟩, .o ⟨(some 8), none, false, .un .not (.t 7), (some [1, 8])⟩]
abbrev k20_o2 : List AJ := [.o ⟨(some 2), none, false, .mv (.c (.str [])), (some [2])⟩]
def k20_3 : ACode := .seq (.region k20_o2) .ret
def k20_4 : ACode := .cond (.t 8) k20_3 .skip
def k20_5 : ACode := .seq (.region k20_o1) k20_4
abbrev k20_o3 : List AI := [⟨(some 9), none, false, .fieldA 0 (.t 1), none⟩, ⟨(some 10), none, false, .load 1 false (.t 9), none⟩, ⟨(some 11), none, false, .call 40 [(.t 10)], none⟩, ⟨(some 12), none, true, .bin .add (.t 11) (.c (.str [37])), none⟩, ⟨(some 13), none, false, .fieldA 1 (.t 1), none⟩, ⟨(some 14), none, false, .load 1 false (.t 13), none⟩, ⟨(some 15), none, false, .call 40 [(.t 14)], none⟩, ⟨(some 16), none, true, .bin .add (.t 12) (.t 15), (some [1, 16])⟩]
abbrev k20_o4 : List AJ := [.o ⟨(some 17), none, false, .bsl true 1 [(.t 16)], none⟩, .o ⟨(some 3), none, false, .mv (.t 17), (some [1, 3])⟩]
abbrev k20_o5 : List AJ := [.o ⟨(some 18), none, false, .fieldA 2 (.t 1), none⟩, .o ⟨(some 19), none, false, .load 1 false (.t 18), none⟩, .o ⟨(some 20), none, false, .len (.t 19), none⟩, .o ⟨(some 21), none, false, .mv (.c (.int .i64 0)), (some [3, 19, 20, 21])⟩]
abbrev k20_o6 : List AJ := [.o ⟨(some 22), none, false, .bin .lss (.t 21) (.t 20), (some [3, 19, 20, 21, 22])⟩]
abbrev k20_o7 : List AJ := [.o ⟨(some 23), none, false, .idxA 3 (.t 19) (.t 21), none⟩, .o ⟨(some 24), none, false, .load 3 true (.t 23), none⟩, .v 5 3 (.agg [(.int .i64 0), (.int .i64 0), (.int .i64 0)]) [] (.t 24) (some [3, 5, 19, 20, 21])]
abbrev k20_o8 : List AJ := [.o ⟨(some 25), none, false, .mv (.t 3), none⟩, .o ⟨(some 26), none, false, .fieldA 0 (.t 5), none⟩, .o ⟨(some 27), none, false, .load 1 false (.t 26), none⟩, .o ⟨(some 28), none, false, .fieldA 1 (.t 5), none⟩, .o ⟨(some 29), none, false, .load 1 false (.t 28), none⟩, .o ⟨(some 30), none, false, .fieldA 2 (.t 5), none⟩, .o ⟨(some 31), none, false, .load 1 false (.t 30), none⟩, .o ⟨(some 32), none, false, .bsl false 1 [(.t 27), (.t 29), (.t 31)], none⟩, .o ⟨(some 33), none, false, .call 33 [(.t 32)], none⟩, .o ⟨(some 34), none, false, .bsl false 1 [(.t 33)], none⟩, .o ⟨(some 35), none, false, .append 1 16 (.t 25) (.t 34), none⟩, .o ⟨(some 3), none, false, .mv (.t 35), (some [3, 19, 20, 21])⟩]
def k20_11 : ACode := .region k20_o8
def k20_12 : ACode := .seq (.region k20_o7) k20_11
abbrev k20_o9 : List AJ := [.o ⟨(some 36), none, true, .bin .add (.t 21) (.c (.int .i64 1)), none⟩, .o ⟨(some 21), none, false, .mv (.t 36), (some [3, 19, 20, 21])⟩]
def k20_14 : ACode := .region k20_o9
def k20_15 : ACode := .seq (.block 1 k20_12) k20_14
def k20_16 : ACode := .seq (.cond (.t 22) .skip (.exit 0)) k20_15
def k20_17 : ACode := .seq (.region k20_o6) k20_16
def k20_18 : ACode := .loop k20_17
def k20_19 : ACode := .block 0 k20_18
def k20_20 : ACode := .seq (.region k20_o5) k20_19
abbrev k20_o10 : List AJ := [.o ⟨(some 37), none, false, .mv (.t 3), none⟩, .o ⟨(some 38), none, false, .call 34 [(.t 37), (.c (.str [32]))], none⟩, .o ⟨(some 2), none, false, .mv (.t 38), (some [2])⟩]
def k20_22 : ACode := .seq (.region k20_o10) .ret
def k20_23 : ACode := .seq k20_20 k20_22
def k20_24 : ACode := .seq (.draw k20_o3 k20_o4 rfl) k20_23
def k20_25 : ACode := .seq k20_5 k20_24
def k20_26 : ACode := .seq (.region k20_o0) k20_25
@[simp, simp ↓] theorem k20_3r : sR k20_3 k20_o2 .ret := yR rfl
@[simp, simp ↓] theorem k20_4r : rC k20_4 (.t 8) k20_3 .skip := zC rfl
@[simp, simp ↓] theorem k20_5r : sR k20_5 k20_o1 k20_4 := yR rfl
@[simp, simp ↓] theorem k20_11r : rR k20_11 k20_o8 := zR rfl
@[simp, simp ↓] theorem k20_12r : sR k20_12 k20_o7 k20_11 := yR rfl
@[simp, simp ↓] theorem k20_14r : rR k20_14 k20_o9 := zR rfl
@[simp, simp ↓] theorem k20_15r : sB k20_15 1 k20_12 k20_14 := yB rfl
@[simp, simp ↓] theorem k20_16r : sC k20_16 (.t 22) .skip (.exit 0) k20_15 := yC rfl
@[simp, simp ↓] theorem k20_17r : sR k20_17 k20_o6 k20_16 := yR rfl
@[simp, simp ↓] theorem k20_18r : rL k20_18 k20_17 := zL rfl
@[simp, simp ↓] theorem k20_19r : rB k20_19 0 k20_18 := zB rfl
@[simp, simp ↓] theorem k20_20r : sR k20_20 k20_o5 k20_19 := yR rfl
@[simp, simp ↓] theorem k20_22r : sR k20_22 k20_o10 .ret := yR rfl
@[simp, simp ↓] theorem k20_23r : rS k20_23 k20_20 k20_22 := zS rfl
@[simp, simp ↓] theorem k20_24r : sD k20_24 k20_o3 k20_o4 k20_23 := yD rfl
@[simp, simp ↓] theorem k20_25r : rS k20_25 k20_5 k20_24 := zS rfl
@[simp, simp ↓] theorem k20_26r : sR k20_26 k20_o0 k20_25 := yR rfl
noncomputable abbrev k20_C : Orc → Cx := mkC Tryd.prog [5, 17] 20 39 [.tmp 2]
theorem k20_of : OfP Tryd.prog Tryd.f20 20 39 k20_C k20_26 := @ofP _ _ _ _ _ _ _ _ Tryd.func20 (by decide +kernel) rfl (by kernel_rfl) rfl (by kernel_rfl)
theorem implPT_c (x : Ph) (h : Heap) (hl : x.ts.length ≤ 1048576) (ok : x.ok) : ACalls Tryd.prog 20 [x.av] h (fun v h' => v = .str (phT x) ∧ h' = h) := by
  refine k20_of rfl orcT1_p fun I => ?_
  by_cases hv : x.valid
  · have hT : phT x = Lib.join (phH x :: x.ts.map tT) [32] := by unfold phT; rw [if_pos hv]
    have h24 := hv.2.2.2.2.2
    have hn1 := ok.1.1
    have hn2 := ok.1.2
    have hm1 := ok.2.1.1
    have hm2 := ok.2.1.2
    have e1 := itoa_len hn1 hn2
    have e2 := itoa_len hm1 hm2
    rw [hT]
    refine Run2.of I 1000 ?_
    simp -implicitDefEqProofs [hl, ok, hv, hn1, hn2, hm1, hm2]
    refine ⟨by omega, by omega, fun id hid => ?_⟩
    refine Run2.wkS (e' := [(3, .sl id 1 0 1 none), (19, .snap 3 (x.ts.map T.av)), (20, .int .i64 x.ts.length), (21, .int .i64 0)]) (fun t => ?_) ?_
    · simp only [eget]
      repeat' split
      all_goals first | exact Wk.refl _ | exact Wk.capNone id 1 0 1 (some 1)
    refine Run2.loopE (α := Nat × AV × Heap) (fun p => [(3, p.2.1), (19, .snap 3 (x.ts.map T.av)), (20, .int .i64 x.ts.length), (21, .int .i64 (p.1 : Nat))]) (fun p => p.2.2 ++ h) (fun p => x.ts.length - p.1) (fun p => p.1 ≤ x.ts.length ∧ Grow 1 p.2.1 ((phH x :: (x.ts.take p.1).map tT).map sv) p.2.2) (0, .sl id 1 0 1 none, [(id, ⟨1, [.str (phH x)]⟩)]) (by simp) (by simp [phH]) ⟨Nat.zero_le _, .sl id _ 1 (by simp)⟩ ?_
    rintro ⟨i, w, hp⟩ ⟨hi, hg⟩ ih
    simp only at hi hg
    have hcell := hg.cell
    by_cases hlt : i < x.ts.length
    · have go := fun w' hp' (g : Grow 1 w' ((phH x :: (x.ts.take i).map tT).map sv ++ [.str (tT x.ts[i])]) hp') => ih (i + 1, w', hp') ⟨hlt, by
        show Grow 1 w' ((phH x :: (x.ts.take (i + 1)).map tT).map sv) hp'
        rw [List.take_succ_eq_append_getElem hlt]
        simpa only [List.map_append, List.map_cons, List.map_nil, List.cons_append, sv_eq] using g⟩ (by omega)
      have hel := valid_el hv (List.getElem_mem hlt)
      have hv3 : ∀ n ∈ [x.ts[i].f, x.ts[i].t, x.ts[i].s], valI n := fun n hn => by
        simp at hn
        rcases hn with rfl | rfl | rfl
        · exact hel.1
        · exact hel.2.1
        · exact hel.2.2
      clear ih
      generalize hti : x.ts[i] = t at *
      have hav : T.av t = .agg [.int .i64 t.f, .int .i64 t.t, .int .i64 t.s] := rfl
      have hlst : lstT [t.f, t.t, t.s] = tT t := rfl
      refine Run2.of I 1000 ?_
      simp -implicitDefEqProofs [hlt, hti, hcell, hlst]
      refine ⟨hel, ?_⟩
      refine hg.app (by simp; omega) (by simp) fun w2 hp2 hg2 => ?_
      have hcell2 := hg2.cell
      have := go w2 hp2 hg2
      simp -implicitDefEqProofs [hcell2]
      exact ⟨by omega, by simpa using this⟩
    · obtain rfl : i = x.ts.length := by omega
      rw [List.take_length] at hg
      have hlen := ph_takeL hv x.ts.length (Nat.le_refl _)
      rw [List.take_length] at hlen
      clear ih
      refine Run2.of I 1000 ?_
      simp -implicitDefEqProofs [hlt, hcell]
      refine (join_g hg [32] h (by simp; omega) (by omega)).mono ?_
      rintro v2 h2 ⟨e1, e2⟩
      rw [e1, e2]
      refine gK.go ?_
      simp -implicitDefEqProofs
      exact Post.dropAll rfl (.base ⟨rfl, rfl⟩)
  · have hT : phT x = [] := by unfold phT; rw [if_neg hv]
    rw [hT]
    refine Run2.of I 1000 ?_
    simp -implicitDefEqProofs [hl, ok, hv]
    exact .base ⟨rfl, rfl⟩
noncomputable def orcT2 : List (Nat × (List AV → Option (Prop × AV))) := (69, o_l01Dec) :: (57, o_l01List) :: []
theorem orcT2_p : Pure Tryd.prog (lk orcT2) := (lk_pure o_l01Dec_k (lk_pure o_l01List_k lk_pure0))
@[simp] theorem orcT2_l (b : Bool) (g : FuncId) (l : List AV) : lk orcT2 b g l = if g = 69 then o_l01Dec l else if g = 57 then o_l01List l else none := nr rfl
abbrev k45_o0 : List AJ := [.o ⟨(some 2), none, false, .mv (.c (.str [])), (some [0])⟩]
abbrev k45_o1 : List AI := [⟨(some 6), none, false, .mv (.t 0), none⟩, ⟨(some 7), none, false, .nilchk (.t 6), none⟩, ⟨(some 8), none, false, .fieldA 0 (.t 7), none⟩, ⟨(some 9), none, false, .load 1 false (.t 8), none⟩, ⟨(some 10), none, false, .call 69 [(.t 9)], none⟩, ⟨(some 11), none, true, .bin .add (.t 10) (.c (.str [37])), none⟩, ⟨(some 12), none, false, .mv (.t 0), none⟩, ⟨(some 13), none, false, .nilchk (.t 12), none⟩, ⟨(some 14), none, false, .fieldA 1 (.t 13), none⟩, ⟨(some 15), none, false, .load 1 false (.t 14), none⟩, ⟨(some 16), none, false, .call 69 [(.t 15)], none⟩, ⟨(some 17), none, true, .bin .add (.t 11) (.t 16), none⟩, ⟨(some 3), none, false, .mv (.t 17), (some [0, 3])⟩]
abbrev k45_o2 : List AJ := [.o ⟨(some 4), none, false, .mv (.c (.int .i64 0)), (some [0, 3, 4])⟩]
abbrev k45_o3 : List AJ := [.o ⟨(some 18), none, false, .mv (.t 4), none⟩, .o ⟨(some 19), none, false, .mv (.t 0), none⟩, .o ⟨(some 20), none, false, .nilchk (.t 19), none⟩, .o ⟨(some 21), none, false, .fieldA 2 (.t 20), none⟩, .o ⟨(some 22), none, false, .load 1 false (.t 21), none⟩, .o ⟨(some 23), none, false, .len (.t 22), none⟩, .o ⟨(some 24), none, false, .bin .lss (.t 18) (.t 23), (some [0, 3, 4, 24])⟩]
def k45_4 : ACode := .cond (.t 24) .skip (.exit 0)
def k45_5 : ACode := .seq (.region k45_o3) k45_4
abbrev k45_o4 : List AJ := [.o ⟨(some 27), none, false, .mv (.t 0), none⟩, .o ⟨(some 28), none, false, .nilchk (.t 27), none⟩, .o ⟨(some 29), none, false, .fieldA 2 (.t 28), none⟩, .o ⟨(some 30), none, false, .load 1 false (.t 29), none⟩, .o ⟨(some 31), none, false, .mv (.t 4), none⟩, .o ⟨(some 32), none, false, .idxA 3 (.t 30) (.t 31), none⟩, .o ⟨(some 33), none, false, .load 3 true (.t 32), none⟩, .v 5 3 (.agg [(.int .i64 0), (.int .i64 0), (.int .i64 0)]) [] (.t 33) (some [0, 3, 4, 5])]
abbrev k45_o5 : List AJ := [.o ⟨(some 34), none, false, .mv (.t 3), none⟩, .o ⟨(some 35), none, false, .fieldA 0 (.t 5), none⟩, .o ⟨(some 36), none, false, .load 1 false (.t 35), none⟩, .o ⟨(some 37), none, false, .fieldA 1 (.t 5), none⟩, .o ⟨(some 38), none, false, .load 1 false (.t 37), none⟩, .o ⟨(some 39), none, false, .fieldA 2 (.t 5), none⟩, .o ⟨(some 40), none, false, .load 1 false (.t 39), none⟩, .o ⟨(some 41), none, false, .bsl false 1 [(.t 36), (.t 38), (.t 40)], none⟩, .o ⟨(some 42), none, false, .call 57 [(.t 41)], none⟩, .o ⟨(some 43), none, true, .bin .add (.c (.str [32])) (.t 42), none⟩, .o ⟨(some 44), none, true, .bin .add (.t 34) (.t 43), none⟩, .o ⟨(some 3), none, false, .mv (.t 44), (some [0, 3, 4])⟩]
def k45_7 : ACode := .region k45_o5
def k45_8 : ACode := .seq (.region k45_o4) k45_7
abbrev k45_o6 : List AJ := [.o ⟨(some 25), none, false, .mv (.t 4), none⟩, .o ⟨(some 26), none, true, .bin .add (.t 25) (.c (.int .i64 1)), none⟩, .o ⟨(some 4), none, false, .mv (.t 26), (some [0, 3, 4])⟩]
def k45_10 : ACode := .region k45_o6
def k45_11 : ACode := .seq (.block 1 k45_8) k45_10
def k45_12 : ACode := .seq k45_5 k45_11
def k45_13 : ACode := .loop k45_12
def k45_14 : ACode := .block 0 k45_13
def k45_15 : ACode := .seq (.region k45_o2) k45_14
abbrev k45_o7 : List AJ := [.o ⟨(some 45), none, false, .mv (.t 3), none⟩, .o ⟨(some 2), none, false, .mv (.t 45), (some [2])⟩]
def k45_17 : ACode := .seq (.region k45_o7) .ret
def k45_18 : ACode := .seq k45_15 k45_17
def k45_19 : ACode := .seq (.draw k45_o1 [] rfl) k45_18
def k45_20 : ACode := .seq (.region k45_o0) k45_19
@[simp, simp ↓] theorem k45_4r : rC k45_4 (.t 24) .skip (.exit 0) := zC rfl
@[simp, simp ↓] theorem k45_5r : sR k45_5 k45_o3 k45_4 := yR rfl
@[simp, simp ↓] theorem k45_7r : rR k45_7 k45_o5 := zR rfl
@[simp, simp ↓] theorem k45_8r : sR k45_8 k45_o4 k45_7 := yR rfl
@[simp, simp ↓] theorem k45_10r : rR k45_10 k45_o6 := zR rfl
@[simp, simp ↓] theorem k45_11r : sB k45_11 1 k45_8 k45_10 := yB rfl
@[simp, simp ↓] theorem k45_12r : rS k45_12 k45_5 k45_11 := zS rfl
@[simp, simp ↓] theorem k45_13r : rL k45_13 k45_12 := zL rfl
@[simp, simp ↓] theorem k45_14r : rB k45_14 0 k45_13 := zB rfl
@[simp, simp ↓] theorem k45_15r : sR k45_15 k45_o2 k45_14 := yR rfl
@[simp, simp ↓] theorem k45_17r : sR k45_17 k45_o7 .ret := yR rfl
@[simp, simp ↓] theorem k45_18r : rS k45_18 k45_15 k45_17 := zS rfl
@[simp, simp ↓] theorem k45_19r : sD k45_19 k45_o1 [] k45_18 := yD rfl
@[simp, simp ↓] theorem k45_20r : sR k45_20 k45_o0 k45_19 := yR rfl
noncomputable abbrev k45_C : Orc → Cx := mkC Tryd.prog [5] 45 46 [.tmp 2]
theorem k45_of0 : OfP0 Tryd.prog Tryd.f45 45 46 k45_C k45_20 := @ofP0 _ _ _ _ _ _ _ _ Tryd.func45 (by decide +kernel) rfl (by kernel_rfl) rfl (by kernel_rfl)
theorem l23Text_c (x : Ph) (h : Heap) (ok : x.ok) (hv : x.valid) : ACalls Tryd.prog 45 [.ip [.int .i64 x.n, .int .i64 x.m, .snap 3 (x.ts.map T.av)]] h (fun v h' => v = .str (Lib.join (phH x :: x.ts.map tT) [32]) ∧ h' = h) := by
  have h24 := hv.2.2.2.2.2
  have hn1 := ok.1.1
  have hn2 := ok.1.2
  have hm1 := ok.2.1.1
  have hm2 := ok.2.1.2
  have e1 := itoa_len hn1 hn2
  have e2 := itoa_len hm1 hm2
  refine k45_of0 rfl orcT2_p fun I => ?_
  refine Run2.of I 1000 ?_
  simp -implicitDefEqProofs [hn1, hn2, hm1, hm2]
  repeat (refine ⟨by omega, ?_⟩)
  refine Run2.loopE (fun (i : Nat) => [(0, .ip [.int .i64 x.n, .int .i64 x.m, .snap 3 (x.ts.map T.av)]), (3, .str (Lib.join (phH x :: (x.ts.take i).map tT) [32])), (4, .int .i64 i)]) (fun _ => h) (fun i => x.ts.length - i) (fun i => i ≤ x.ts.length) 0 (by simp [phH, join_one']) rfl (Nat.zero_le _) fun i hi ih => ?_
  by_cases hlt : i < x.ts.length
  · have go := ih (i + 1) hlt (by omega)
    have hsn : Lib.join (phH x :: (x.ts.take (i + 1)).map tT) [32] = Lib.join (phH x :: (x.ts.take i).map tT) [32] ++ ([32] ++ tT x.ts[i]) := by
      rw [List.take_succ_eq_append_getElem hlt, List.map_append, ← List.cons_append]
      exact join_snoc _ _ _ (by simp)
    rw [hsn] at go
    have hel := valid_el hv (List.getElem_mem hlt)
    have htl := tT_len hel
    have hlen := ph_takeL hv i hi
    have hin : in64 x.ts[i].f ∧ in64 x.ts[i].t ∧ in64 x.ts[i].s := ⟨valI_in hel.1, valI_in hel.2.1, valI_in hel.2.2⟩
    clear ih hsn
    generalize Lib.join (phH x :: (x.ts.take i).map tT) [32] = S at *
    generalize hti : x.ts[i] = t at *
    have hlst : lstT [t.f, t.t, t.s] = tT t := rfl
    refine Run2.of I 1000 ?_
    simp -implicitDefEqProofs [hlt, hti, hlst]
    exact ⟨hin, by omega, by omega, by omega, by simpa using go⟩
  · obtain rfl : i = x.ts.length := by omega
    rw [List.take_length]
    refine Run2.of I 1000 ?_
    simp -implicitDefEqProofs [hlt]
noncomputable def o_l23Text : List AV → Option (Prop × AV) := tab (fun (x : Int × Int × List T) => match x with | (n, m, ts) => [.ip [.int .i64 n, .int .i64 m, .snap 3 (ts.map T.av)]]) (fun x => match x with | (n, m, ts) => (Ph.ok ⟨n, m, ts⟩ ∧ Ph.valid ⟨n, m, ts⟩)) (fun x => match x with | (n, m, ts) => .str (Lib.join (phH ⟨n, m, ts⟩ :: ts.map tT) [32]))
@[simp] theorem o_l23Text_e (n : Int) (m : Int) (ts : List T) : o_l23Text [.ip [.int .i64 n, .int .i64 m, .snap 3 (ts.map T.av)]] = some ((Ph.ok ⟨n, m, ts⟩ ∧ Ph.valid ⟨n, m, ts⟩), .str (Lib.join (phH ⟨n, m, ts⟩ :: ts.map tT) [32])) := tab_at (enc := fun (x : Int × Int × List T) => match x with | (n, m, ts) => [.ip [.int .i64 n, .int .i64 m, .snap 3 (ts.map T.av)]]) (fun x y h => by
  obtain ⟨n1, m1, ts1⟩ := x; obtain ⟨n2, m2, ts2⟩ := y; simp at h; simp [h] <;> omega) _ _ (n, m, ts)
theorem o_l23Text_k : Knows Tryd.prog 45 o_l23Text := tab_knows fun x hx h => by
  obtain ⟨n, m, ts⟩ := x; exact l23Text_c ⟨n, m, ts⟩ h hx.1 hx.2
noncomputable def orcT3 : List (Nat × (List AV → Option (Prop × AV))) := (44, o_l23Ok) :: (45, o_l23Text) :: []
theorem orcT3_p : Pure Tryd.prog (lk orcT3) := (lk_pure o_l23Ok_k (lk_pure o_l23Text_k lk_pure0))
@[simp] theorem orcT3_l (b : Bool) (g : FuncId) (l : List AV) : lk orcT3 b g l = if g = 44 then o_l23Ok l else if g = 45 then o_l23Text l else none := nr rfl
abbrev k18_o0 : List AJ := [.o ⟨(some 1), none, false, .box false 3 (.t 0), none⟩, .o ⟨(some 2), none, false, .mv (.c (.str [])), (some [1])⟩]
abbrev k18_o1 : List AJ := [.o ⟨(some 3), none, false, .call 44 [(.t 1)], none⟩, .o ⟨(some 4), none, false, .un .not (.t 3), (some [1, 4])⟩]
abbrev k18_o2 : List AJ := [.o ⟨(some 2), none, false, .mv (.c (.str [])), (some [2])⟩]
def k18_3 : ACode := .seq (.region k18_o2) .ret
def k18_4 : ACode := .cond (.t 4) k18_3 .skip
def k18_5 : ACode := .seq (.region k18_o1) k18_4
abbrev k18_o3 : List AJ := [.o ⟨(some 5), none, false, .call 45 [(.t 1)], none⟩, .o ⟨(some 2), none, false, .mv (.t 5), (some [2])⟩]
def k18_7 : ACode := .seq (.region k18_o3) .ret
def k18_8 : ACode := .seq k18_5 k18_7
def k18_9 : ACode := .seq (.region k18_o0) k18_8
@[simp, simp ↓] theorem k18_3r : sR k18_3 k18_o2 .ret := yR rfl
@[simp, simp ↓] theorem k18_4r : rC k18_4 (.t 4) k18_3 .skip := zC rfl
@[simp, simp ↓] theorem k18_5r : sR k18_5 k18_o1 k18_4 := yR rfl
@[simp, simp ↓] theorem k18_7r : sR k18_7 k18_o3 .ret := yR rfl
@[simp, simp ↓] theorem k18_8r : rS k18_8 k18_5 k18_7 := zS rfl
@[simp, simp ↓] theorem k18_9r : sR k18_9 k18_o0 k18_8 := yR rfl
noncomputable abbrev k18_C : Orc → Cx := mkC Tryd.prog [] 18 6 [.tmp 2]
theorem k18_of0 : OfP0 Tryd.prog Tryd.f18 18 6 k18_C k18_9 := @ofP0 _ _ _ _ _ _ _ _ Tryd.func18 (by decide +kernel) rfl (by kernel_rfl) rfl (by kernel_rfl)
theorem specPT_c (x : Ph) (h : Heap) (hl : x.ts.length ≤ 1048576) (ok : x.ok) : ACalls Tryd.prog 18 [x.av] h (fun v h' => v = .str (phT x) ∧ h' = h) := by
  refine k18_of0 rfl orcT3_p fun I => ?_
  unfold phT
  by_cases hv : x.valid
  · rw [if_pos hv]
    refine Run2.of I 1000 ?_
    simp -implicitDefEqProofs [hl, ok, hv]
  · rw [if_neg hv]
    refine Run2.of I 1000 ?_
    simp -implicitDefEqProofs [hl, ok, hv]
end Go.AG.P
