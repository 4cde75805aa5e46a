/- The text of phases: the program and the reference. No statement is made here. -/
import Derived.Test.YtiahlbbljmngnaaDoorStB
import Derived.Test.YtiahlbbljmngnaaDoorPhVal
namespace Go.AG.P
open Go.Proofs Go.Proofs.YtiahlbbljmngnaaDoor
set_option linter.unusedSimpArgs false
set_option linter.unusedVariables false
set_option maxRecDepth 4000
def tT (t : T) : List UInt8 := lstT [t.f, t.t, t.s]
def phH (x : Ph) : List UInt8 := Lib.itoa x.n ++ (37 :: Lib.itoa x.m)
noncomputable def phT (x : Ph) : List UInt8 := if x.valid then Lib.join (phH x :: x.ts.map tT) [32] else []
theorem valid_el {x : Ph} (h : x.valid) {t : T} (ht : t ∈ x.ts) : valI t.f ∧ valI t.t ∧ valI t.s := by
  obtain ⟨j, hj, rfl⟩ := List.mem_iff_getElem.1 ht
  obtain ⟨h1, h2, h3, h4, h5, h6⟩ := h
  have := (h5 j hj hj).1
  unfold Ph.el at this
  unfold valI
  omega
theorem tT_len {t : T} (h : valI t.f ∧ valI t.t ∧ valI t.s) : (tT t).length ≤ 70 := by
  have := lstT_len (l := [t.f, t.t, t.s]) (fun n hn => by
    simp at hn
    rcases hn with rfl | rfl | rfl
    · exact valI_in h.1
    · exact valI_in h.2.1
    · exact valI_in h.2.2)
  simp at this
  unfold tT
  omega
theorem phH_len {x : Ph} (h : x.valid) : (phH x).length ≤ 70 := by
  obtain ⟨h1, h2, h3, h4, _⟩ := h
  have e1 := itoa_len (n := x.n) (by omega) (by omega)
  have e2 := itoa_len (n := x.m) (by omega) (by omega)
  unfold phH
  simp
  omega
theorem ph_takeL {x : Ph} (h : x.valid) (i : Nat) (hi : i ≤ x.ts.length) : (Lib.join (phH x :: (x.ts.take i).map tT) [32]).length ≤ 2000 := by
  have h1 := join_lenL (phH x :: (x.ts.take i).map tT) [32] 70 fun y hy => by
    rcases List.mem_cons.1 hy with rfl | hy
    · exact phH_len h
    · obtain ⟨t, ht, rfl⟩ := List.mem_map.1 hy
      exact tT_len (valid_el h (List.mem_of_mem_take ht))
  have h24 := h.2.2.2.2.2
  rw [List.length_cons, List.length_map, List.length_take, show min i x.ts.length = i by omega] at h1
  simp only [List.length_singleton] at h1
  omega
noncomputable def orcT1 : List (Nat × (List AV → Option (Prop × AV))) := (28, o_valid) :: (41, o_Decimal) :: (49, o_ListText) :: []
theorem orcT1_p : Pure Tryd.prog (lk orcT1) := (lk_pure o_valid_k (lk_pure o_Decimal_k (lk_pure o_ListText_k lk_pure0)))
@[simp] theorem orcT1_l (b : Bool) (g : FuncId) (l : List AV) : lk orcT1 b g l = if g = 28 then o_valid l else if g = 41 then o_Decimal l else if g = 49 then o_ListText l else none := nr rfl
abbrev k29_o0 : List AJ := [.o ⟨(some 1), none, false, .box false 3 (.t 0), none⟩, .o ⟨(some 2), none, false, .mv (.c (.str [])), (some [1])⟩]
abbrev k29_o1 : List AJ := [.o ⟨(some 6), none, false, .load 3 true (.t 1), none⟩, .o ⟨(some 7), none, false, .call 28 [(.t 6)], none⟩, .o ⟨(some 8), none, false, .un .not (.t 7), (some [1, 8])⟩]
abbrev k29_o2 : List AJ := [.o ⟨(some 2), none, false, .mv (.c (.str [])), (some [2])⟩]
def k29_3 : ACode := .seq (.region k29_o2) .ret
def k29_4 : ACode := .cond (.t 8) k29_3 .skip
def k29_5 : ACode := .seq (.region k29_o1) k29_4
abbrev k29_o3 : List AI := [⟨(some 9), none, false, .fieldA 0 (.t 1), none⟩, ⟨(some 10), none, false, .load 1 false (.t 9), none⟩, ⟨(some 11), none, false, .call 41 [(.t 10)], none⟩, ⟨(some 12), none, true, .bin .add (.t 11) (.c (.str [37])), none⟩, ⟨(some 13), none, false, .fieldA 1 (.t 1), none⟩, ⟨(some 14), none, false, .load 1 false (.t 13), none⟩, ⟨(some 15), none, false, .call 41 [(.t 14)], none⟩, ⟨(some 16), none, true, .bin .add (.t 12) (.t 15), (some [1, 16])⟩]
abbrev k29_o4 : List AJ := [.o ⟨(some 17), none, false, .bsl true 1 [(.t 16)], none⟩, .o ⟨(some 3), none, false, .mv (.t 17), (some [1, 3])⟩]
abbrev k29_o5 : List AJ := [.o ⟨(some 18), none, false, .fieldA 2 (.t 1), none⟩, .o ⟨(some 19), none, false, .load 1 false (.t 18), none⟩, .o ⟨(some 20), none, false, .len (.t 19), none⟩, .o ⟨(some 21), none, false, .mv (.c (.int .i64 0)), (some [3, 19, 20, 21])⟩]
abbrev k29_o6 : List AJ := [.o ⟨(some 22), none, false, .bin .lss (.t 21) (.t 20), (some [3, 19, 20, 21, 22])⟩]
abbrev k29_o7 : List AJ := [.o ⟨(some 23), none, false, .idxA 3 (.t 19) (.t 21), none⟩, .o ⟨(some 24), none, false, .load 3 true (.t 23), none⟩, .v 5 3 (.agg [(.int .i64 0), (.int .i64 0), (.int .i64 0)]) [] (.t 24) (some [3, 5, 19, 20, 21])]
abbrev k29_o8 : List AJ := [.o ⟨(some 25), none, false, .mv (.t 3), none⟩, .o ⟨(some 26), none, false, .fieldA 0 (.t 5), none⟩, .o ⟨(some 27), none, false, .load 1 false (.t 26), none⟩, .o ⟨(some 28), none, false, .fieldA 1 (.t 5), none⟩, .o ⟨(some 29), none, false, .load 1 false (.t 28), none⟩, .o ⟨(some 30), none, false, .fieldA 2 (.t 5), none⟩, .o ⟨(some 31), none, false, .load 1 false (.t 30), none⟩, .o ⟨(some 32), none, false, .bsl false 1 [(.t 27), (.t 29), (.t 31)], none⟩, .o ⟨(some 33), none, false, .call 49 [(.t 32)], none⟩, .o ⟨(some 34), none, false, .bsl false 1 [(.t 33)], none⟩, .o ⟨(some 35), none, false, .append 1 16 (.t 25) (.t 34), none⟩, .o ⟨(some 3), none, false, .mv (.t 35), (some [3, 19, 20, 21])⟩]
def k29_11 : ACode := .region k29_o8
def k29_12 : ACode := .seq (.region k29_o7) k29_11
abbrev k29_o9 : List AJ := [.o ⟨(some 36), none, true, .bin .add (.t 21) (.c (.int .i64 1)), none⟩, .o ⟨(some 21), none, false, .mv (.t 36), (some [3, 19, 20, 21])⟩]
def k29_14 : ACode := .region k29_o9
def k29_15 : ACode := .seq (.block 1 k29_12) k29_14
def k29_16 : ACode := .seq (.cond (.t 22) .skip (.exit 0)) k29_15
def k29_17 : ACode := .seq (.region k29_o6) k29_16
def k29_18 : ACode := .loop k29_17
def k29_19 : ACode := .block 0 k29_18
def k29_20 : ACode := .seq (.region k29_o5) k29_19
abbrev k29_o10 : List AJ := [.o ⟨(some 37), none, false, .mv (.t 3), none⟩, .o ⟨(some 38), none, false, .call 47 [(.t 37), (.c (.str [32]))], none⟩, .o ⟨(some 2), none, false, .mv (.t 38), (some [2])⟩]
def k29_22 : ACode := .seq (.region k29_o10) .ret
def k29_23 : ACode := .seq k29_20 k29_22
def k29_24 : ACode := .seq (.draw k29_o3 k29_o4 rfl) k29_23
def k29_25 : ACode := .seq k29_5 k29_24
def k29_26 : ACode := .seq (.region k29_o0) k29_25
@[simp, simp ↓] theorem k29_3r : sR k29_3 k29_o2 .ret := yR rfl
@[simp, simp ↓] theorem k29_4r : rC k29_4 (.t 8) k29_3 .skip := zC rfl
@[simp, simp ↓] theorem k29_5r : sR k29_5 k29_o1 k29_4 := yR rfl
@[simp, simp ↓] theorem k29_11r : rR k29_11 k29_o8 := zR rfl
@[simp, simp ↓] theorem k29_12r : sR k29_12 k29_o7 k29_11 := yR rfl
@[simp, simp ↓] theorem k29_14r : rR k29_14 k29_o9 := zR rfl
@[simp, simp ↓] theorem k29_15r : sB k29_15 1 k29_12 k29_14 := yB rfl
@[simp, simp ↓] theorem k29_16r : sC k29_16 (.t 22) .skip (.exit 0) k29_15 := yC rfl
@[simp, simp ↓] theorem k29_17r : sR k29_17 k29_o6 k29_16 := yR rfl
@[simp, simp ↓] theorem k29_18r : rL k29_18 k29_17 := zL rfl
@[simp, simp ↓] theorem k29_19r : rB k29_19 0 k29_18 := zB rfl
@[simp, simp ↓] theorem k29_20r : sR k29_20 k29_o5 k29_19 := yR rfl
@[simp, simp ↓] theorem k29_22r : sR k29_22 k29_o10 .ret := yR rfl
@[simp, simp ↓] theorem k29_23r : rS k29_23 k29_20 k29_22 := zS rfl
@[simp, simp ↓] theorem k29_24r : sD k29_24 k29_o3 k29_o4 k29_23 := yD rfl
@[simp, simp ↓] theorem k29_25r : rS k29_25 k29_5 k29_24 := zS rfl
@[simp, simp ↓] theorem k29_26r : sR k29_26 k29_o0 k29_25 := yR rfl
noncomputable abbrev k29_C : Orc → Cx := mkC Tryd.prog [5, 17] 29 39 [.tmp 2]
theorem k29_of : OfP Tryd.prog Tryd.f29 29 39 k29_C k29_26 := @ofP _ _ _ _ _ _ _ _ Tryd.func29 (by decide +kernel) rfl (by kernel_rfl) rfl (by kernel_rfl)
theorem implPT_c (x : Ph) (h : Heap) (hl : x.ts.length ≤ 1048576) (ok : x.ok) : ACalls Tryd.prog 29 [x.av] h (fun v h' => v = .str (phT x) ∧ h' = h) := by
  refine k29_of rfl orcT1_p fun I => ?_
  by_cases hv : x.valid
  · have hT : phT x = Lib.join (phH x :: x.ts.map tT) [32] := by unfold phT; rw [if_pos hv]
    have h24 := hv.2.2.2.2.2
    have hn1 := ok.1.1
    have hn2 := ok.1.2
    have hm1 := ok.2.1.1
    have hm2 := ok.2.1.2
    have e1 := itoa_len hn1 hn2
    have e2 := itoa_len hm1 hm2
    rw [hT]
    refine Run2.of I 1000 ?_
    simp -implicitDefEqProofs [hl, ok, hv, hn1, hn2, hm1, hm2]
    refine ⟨by omega, by omega, fun id hid => ?_⟩
    refine Run2.wkS (e' := [(3, .sl id 1 0 1 none), (19, .snap 3 (x.ts.map T.av)), (20, .int .i64 x.ts.length), (21, .int .i64 0)]) (fun t => ?_) ?_
    · simp only [eget]
      repeat' split
      all_goals first | exact Wk.refl _ | exact Wk.capNone id 1 0 1 (some 1)
    refine Run2.loopE (α := Nat × AV × Heap) (fun p => [(3, p.2.1), (19, .snap 3 (x.ts.map T.av)), (20, .int .i64 x.ts.length), (21, .int .i64 (p.1 : Nat))]) (fun p => p.2.2 ++ h) (fun p => x.ts.length - p.1) (fun p => p.1 ≤ x.ts.length ∧ Grow 1 p.2.1 ((phH x :: (x.ts.take p.1).map tT).map sv) p.2.2) (0, .sl id 1 0 1 none, [(id, ⟨1, [.str (phH x)]⟩)]) (by simp) (by simp [phH]) ⟨Nat.zero_le _, .sl id _ 1 (by simp)⟩ ?_
    rintro ⟨i, w, hp⟩ ⟨hi, hg⟩ ih
    simp only at hi hg
    have hcell := hg.cell
    by_cases hlt : i < x.ts.length
    · have go := fun w' hp' (g : Grow 1 w' ((phH x :: (x.ts.take i).map tT).map sv ++ [.str (tT x.ts[i])]) hp') => ih (i + 1, w', hp') ⟨hlt, by
        show Grow 1 w' ((phH x :: (x.ts.take (i + 1)).map tT).map sv) hp'
        rw [List.take_succ_eq_append_getElem hlt]
        simpa only [List.map_append, List.map_cons, List.map_nil, List.cons_append, sv_eq] using g⟩ (by omega)
      have hel := valid_el hv (List.getElem_mem hlt)
      have hv3 : ∀ n ∈ [x.ts[i].f, x.ts[i].t, x.ts[i].s], valI n := fun n hn => by
        simp at hn
        rcases hn with rfl | rfl | rfl
        · exact hel.1
        · exact hel.2.1
        · exact hel.2.2
      clear ih
      generalize hti : x.ts[i] = t at *
      have hav : T.av t = .agg [.int .i64 t.f, .int .i64 t.t, .int .i64 t.s] := rfl
      have hlst : lstT [t.f, t.t, t.s] = tT t := rfl
      refine Run2.of I 1000 ?_
      simp -implicitDefEqProofs [hlt, hti, hcell, hlst]
      refine ⟨hel, ?_⟩
      refine hg.app (by simp; omega) (by simp) fun w2 hp2 hg2 => ?_
      have hcell2 := hg2.cell
      have := go w2 hp2 hg2
      simp -implicitDefEqProofs [hcell2]
      exact ⟨by omega, by simpa using this⟩
    · obtain rfl : i = x.ts.length := by omega
      rw [List.take_length] at hg
      have hlen := ph_takeL hv x.ts.length (Nat.le_refl _)
      rw [List.take_length] at hlen
      clear ih
      refine Run2.of I 1000 ?_
      simp -implicitDefEqProofs [hlt, hcell]
      refine (join_g hg [32] h (by simp; omega) (by omega)).mono ?_
      rintro v2 h2 ⟨e1, e2⟩
      rw [e1, e2]
      refine gK.go ?_
      simp -implicitDefEqProofs
      exact Post.dropAll rfl (.base ⟨rfl, rfl⟩)
  · have hT : phT x = [] := by unfold phT; rw [if_neg hv]
    rw [hT]
    refine Run2.of I 1000 ?_
    simp -implicitDefEqProofs [hl, ok, hv]
    exact .base ⟨rfl, rfl⟩
end Go.AG.P
