/- Phases read from a text: the program and the reference. No statement is made here. -/
import Derived.Test.YtgofekmoimjcmaaGreatDoorStB
import Derived.Test.YtgofekmoimjcmaaGreatDoorPhVal
import Derived.Test.YtgofekmoimjcmaaGreatDoorRdL
namespace Go.AG.P
open Go.Proofs Go.Proofs.YtgofekmoimjcmaaGreatDoor
set_option linter.unusedSimpArgs false
set_option linter.unusedVariables false
set_option maxRecDepth 4000
def tT (t : T) : List UInt8 := lstT [t.f, t.t, t.s]
def phH (x : Ph) : List UInt8 := Lib.itoa x.n ++ (37 :: Lib.itoa x.m)
noncomputable def phT (x : Ph) : List UInt8 := if x.valid then Lib.join (phH x :: x.ts.map tT) [32] else []
theorem valid_el {x : Ph} (h : x.valid) {t : T} (ht : t ∈ x.ts) : valI t.f ∧ valI t.t ∧ valI t.s := by
  obtain ⟨j, hj, rfl⟩ := List.mem_iff_getElem.1 ht
  obtain ⟨h1, h2, h3, h4, h5, h6⟩ := h
  have := (h5 j hj hj).1
  unfold Ph.el at this
  unfold valI
  omega
theorem tT_len {t : T} (h : valI t.f ∧ valI t.t ∧ valI t.s) : (tT t).length ≤ 70 := by
  have := lstT_len (l := [t.f, t.t, t.s]) (fun n hn => by
    simp at hn
    rcases hn with rfl | rfl | rfl
    · exact valI_in h.1
    · exact valI_in h.2.1
    · exact valI_in h.2.2)
  simp at this
  unfold tT
  omega
theorem phH_len {x : Ph} (h : x.valid) : (phH x).length ≤ 70 := by
  obtain ⟨h1, h2, h3, h4, _⟩ := h
  have e1 := itoa_len (n := x.n) (by omega) (by omega)
  have e2 := itoa_len (n := x.m) (by omega) (by omega)
  unfold phH
  simp
  omega
theorem ph_takeL {x : Ph} (h : x.valid) (i : Nat) (hi : i ≤ x.ts.length) : (Lib.join (phH x :: (x.ts.take i).map tT) [32]).length ≤ 2000 := by
  have h1 := join_lenL (phH x :: (x.ts.take i).map tT) [32] 70 fun y hy => by
    rcases List.mem_cons.1 hy with rfl | hy
    · exact phH_len h
    · obtain ⟨t, ht, rfl⟩ := List.mem_map.1 hy
      exact tT_len (valid_el h (List.mem_of_mem_take ht))
  have h24 := h.2.2.2.2.2
  rw [List.length_cons, List.length_map, List.length_take, show min i x.ts.length = i by omega] at h1
  simp only [List.length_singleton] at h1
  omega
noncomputable def orcT1 : List (Nat × (List AV → Option (Prop × AV))) := (21, o_valid) :: (30, o_Decimal) :: (31, o_ListText) :: []
theorem orcT1_p : Pure Tryz.prog (lk orcT1) := (lk_pure o_valid_k (lk_pure o_Decimal_k (lk_pure o_ListText_k lk_pure0)))
@[simp] theorem orcT1_l (b : Bool) (g : FuncId) (l : List AV) : lk orcT1 b g l = if g = 21 then o_valid l else if g = 30 then o_Decimal l else if g = 31 then o_ListText l else none := nr rfl
abbrev k11_o0 : List AJ := [.o ⟨(some 1), none, false, .box false 3 (.t 0), none⟩, .o ⟨(some 2), none, false, .mv (.c (.str [])), (some [1])⟩]
abbrev k11_o1 : List AJ := [.o ⟨(some 6), none, false, .load 3 true (.t 1), none⟩, .o ⟨(some 7), none, false, .call 21 [(.t 6)], none⟩, .o ⟨(some 8), none, false, .un .not (.t 7), (some [1, 8])⟩]
abbrev k11_o2 : List AJ := [.o ⟨(some 2), none, false, .mv (.c (.str [])), (some [2])⟩]
def k11_3 : ACode := .seq (.region k11_o2) .ret
def k11_4 : ACode := .cond (.t 8) k11_3 .skip
def k11_5 : ACode := .seq (.region k11_o1) k11_4
abbrev k11_o3 : List AI := [⟨(some 9), none, false, .fieldA 0 (.t 1), none⟩, ⟨(some 10), none, false, .load 1 false (.t 9), none⟩, ⟨(some 11), none, false, .call 30 [(.t 10)], none⟩, ⟨(some 12), none, true, .bin .add (.t 11) (.c (.str [37])), none⟩, ⟨(some 13), none, false, .fieldA 1 (.t 1), none⟩, ⟨(some 14), none, false, .load 1 false (.t 13), none⟩, ⟨(some 15), none, false, .call 30 [(.t 14)], none⟩, ⟨(some 16), none, true, .bin .add (.t 12) (.t 15), (some [1, 16])⟩]
abbrev k11_o4 : List AJ := [.o ⟨(some 17), none, false, .bsl true 1 [(.t 16)], none⟩, .o ⟨(some 3), none, false, .mv (.t 17), (some [1, 3])⟩]
abbrev k11_o5 : List AJ := [.o ⟨(some 18), none, false, .fieldA 2 (.t 1), none⟩, .o ⟨(some 19), none, false, .load 1 false (.t 18), none⟩, .o ⟨(some 20), none, false, .len (.t 19), none⟩, .o ⟨(some 21), none, false, .mv (.c (.int .i64 0)), (some [3, 19, 20, 21])⟩]
abbrev k11_o6 : List AJ := [.o ⟨(some 22), none, false, .bin .lss (.t 21) (.t 20), (some [3, 19, 20, 21, 22])⟩]
abbrev k11_o7 : List AJ := [.o ⟨(some 23), none, false, .idxA 3 (.t 19) (.t 21), none⟩, .o ⟨(some 24), none, false, .load 3 true (.t 23), none⟩, .v 5 3 (.agg [(.int .i64 0), (.int .i64 0), (.int .i64 0)]) [] (.t 24) (some [3, 5, 19, 20, 21])]
abbrev k11_o8 : List AJ := [.o ⟨(some 25), none, false, .mv (.t 3), none⟩, .o ⟨(some 26), none, false, .fieldA 0 (.t 5), none⟩, .o ⟨(some 27), none, false, .load 1 false (.t 26), none⟩, .o ⟨(some 28), none, false, .fieldA 1 (.t 5), none⟩, .o ⟨(some 29), none, false, .load 1 false (.t 28), none⟩, .o ⟨(some 30), none, false, .fieldA 2 (.t 5), none⟩, .o ⟨(some 31), none, false, .load 1 false (.t 30), none⟩, .o ⟨(some 32), none, false, .bsl false 1 [(.t 27), (.t 29), (.t 31)], none⟩, .o ⟨(some 33), none, false, .call 31 [(.t 32)], none⟩, .o ⟨(some 34), none, false, .bsl false 1 [(.t 33)], none⟩, .o ⟨(some 35), none, false, .append 1 16 (.t 25) (.t 34), none⟩, .o ⟨(some 3), none, false, .mv (.t 35), (some [3, 19, 20, 21])⟩]
def k11_11 : ACode := .region k11_o8
def k11_12 : ACode := .seq (.region k11_o7) k11_11
abbrev k11_o9 : List AJ := [.o ⟨(some 36), none, true, .bin .add (.t 21) (.c (.int .i64 1)), none⟩, .o ⟨(some 21), none, false, .mv (.t 36), (some [3, 19, 20, 21])⟩]
def k11_14 : ACode := .region k11_o9
def k11_15 : ACode := .seq (.block 1 k11_12) k11_14
def k11_16 : ACode := .seq (.cond (.t 22) .skip (.exit 0)) k11_15
def k11_17 : ACode := .seq (.region k11_o6) k11_16
def k11_18 : ACode := .loop k11_17
def k11_19 : ACode := .block 0 k11_18
def k11_20 : ACode := .seq (.region k11_o5) k11_19
abbrev k11_o10 : List AJ := [.o ⟨(some 37), none, false, .mv (.t 3), none⟩, .o ⟨(some 38), none, false, .call 32 [(.t 37), (.c (.str [32]))], none⟩, .o ⟨(some 2), none, false, .mv (.t 38), (some [2])⟩]
def k11_22 : ACode := .seq (.region k11_o10) .ret
def k11_23 : ACode := .seq k11_20 k11_22
def k11_24 : ACode := .seq (.draw k11_o3 k11_o4 rfl) k11_23
def k11_25 : ACode := .seq k11_5 k11_24
def k11_26 : ACode := .seq (.region k11_o0) k11_25
@[simp, simp ↓] theorem k11_3r : sR k11_3 k11_o2 .ret := yR rfl
@[simp, simp ↓] theorem k11_4r : rC k11_4 (.t 8) k11_3 .skip := zC rfl
@[simp, simp ↓] theorem k11_5r : sR k11_5 k11_o1 k11_4 := yR rfl
@[simp, simp ↓] theorem k11_11r : rR k11_11 k11_o8 := zR rfl
@[simp, simp ↓] theorem k11_12r : sR k11_12 k11_o7 k11_11 := yR rfl
@[simp, simp ↓] theorem k11_14r : rR k11_14 k11_o9 := zR rfl
@[simp, simp ↓] theorem k11_15r : sB k11_15 1 k11_12 k11_14 := yB rfl
@[simp, simp ↓] theorem k11_16r : sC k11_16 (.t 22) .skip (.exit 0) k11_15 := yC rfl
@[simp, simp ↓] theorem k11_17r : sR k11_17 k11_o6 k11_16 := yR rfl
@[simp, simp ↓] theorem k11_18r : rL k11_18 k11_17 := zL rfl
@[simp, simp ↓] theorem k11_19r : rB k11_19 0 k11_18 := zB rfl
@[simp, simp ↓] theorem k11_20r : sR k11_20 k11_o5 k11_19 := yR rfl
@[simp, simp ↓] theorem k11_22r : sR k11_22 k11_o10 .ret := yR rfl
@[simp, simp ↓] theorem k11_23r : rS k11_23 k11_20 k11_22 := zS rfl
@[simp, simp ↓] theorem k11_24r : sD k11_24 k11_o3 k11_o4 k11_23 := yD rfl
@[simp, simp ↓] theorem k11_25r : rS k11_25 k11_5 k11_24 := zS rfl
@[simp, simp ↓] theorem k11_26r : sR k11_26 k11_o0 k11_25 := yR rfl
noncomputable abbrev k11_C : Orc → Cx := mkC Tryz.prog [5, 17] 11 39 [.tmp 2]
theorem k11_of : OfP Tryz.prog Tryz.f11 11 39 k11_C k11_26 := @ofP _ _ _ _ _ _ _ _ Tryz.func11 (by decide +kernel) rfl (by kernel_rfl) rfl (by kernel_rfl)
theorem implPT_c (x : Ph) (h : Heap) (hl : x.ts.length ≤ 1048576) (ok : x.ok) : ACalls Tryz.prog 11 [x.av] h (fun v h' => v = .str (phT x) ∧ h' = h) := by
  refine k11_of rfl orcT1_p fun I => ?_
  by_cases hv : x.valid
  · have hT : phT x = Lib.join (phH x :: x.ts.map tT) [32] := by unfold phT; rw [if_pos hv]
    have h24 := hv.2.2.2.2.2
    have hn1 := ok.1.1
    have hn2 := ok.1.2
    have hm1 := ok.2.1.1
    have hm2 := ok.2.1.2
    have e1 := itoa_len hn1 hn2
    have e2 := itoa_len hm1 hm2
    rw [hT]
    refine Run2.of I 1000 ?_
    simp -implicitDefEqProofs [hl, ok, hv, hn1, hn2, hm1, hm2]
    refine ⟨by omega, by omega, fun id hid => ?_⟩
    refine Run2.wkS (e' := [(3, .sl id 1 0 1 none), (19, .snap 3 (x.ts.map T.av)), (20, .int .i64 x.ts.length), (21, .int .i64 0)]) (fun t => ?_) ?_
    · simp only [eget]
      repeat' split
      all_goals first | exact Wk.refl _ | exact Wk.capNone id 1 0 1 (some 1)
    refine Run2.loopE (α := Nat × AV × Heap) (fun p => [(3, p.2.1), (19, .snap 3 (x.ts.map T.av)), (20, .int .i64 x.ts.length), (21, .int .i64 (p.1 : Nat))]) (fun p => p.2.2 ++ h) (fun p => x.ts.length - p.1) (fun p => p.1 ≤ x.ts.length ∧ Grow 1 p.2.1 ((phH x :: (x.ts.take p.1).map tT).map sv) p.2.2) (0, .sl id 1 0 1 none, [(id, ⟨1, [.str (phH x)]⟩)]) (by simp) (by simp [phH]) ⟨Nat.zero_le _, .sl id _ 1 (by simp)⟩ ?_
    rintro ⟨i, w, hp⟩ ⟨hi, hg⟩ ih
    simp only at hi hg
    have hcell := hg.cell
    by_cases hlt : i < x.ts.length
    · have go := fun w' hp' (g : Grow 1 w' ((phH x :: (x.ts.take i).map tT).map sv ++ [.str (tT x.ts[i])]) hp') => ih (i + 1, w', hp') ⟨hlt, by
        show Grow 1 w' ((phH x :: (x.ts.take (i + 1)).map tT).map sv) hp'
        rw [List.take_succ_eq_append_getElem hlt]
        simpa only [List.map_append, List.map_cons, List.map_nil, List.cons_append, sv_eq] using g⟩ (by omega)
      have hel := valid_el hv (List.getElem_mem hlt)
      have hv3 : ∀ n ∈ [x.ts[i].f, x.ts[i].t, x.ts[i].s], valI n := fun n hn => by
        simp at hn
        rcases hn with rfl | rfl | rfl
        · exact hel.1
        · exact hel.2.1
        · exact hel.2.2
      clear ih
      generalize hti : x.ts[i] = t at *
      have hav : T.av t = .agg [.int .i64 t.f, .int .i64 t.t, .int .i64 t.s] := rfl
      have hlst : lstT [t.f, t.t, t.s] = tT t := rfl
      refine Run2.of I 1000 ?_
      simp -implicitDefEqProofs [hlt, hti, hcell, hlst]
      refine ⟨hel, ?_⟩
      refine hg.app (by simp; omega) (by simp) fun w2 hp2 hg2 => ?_
      have hcell2 := hg2.cell
      have := go w2 hp2 hg2
      simp -implicitDefEqProofs [hcell2]
      exact ⟨by omega, by simpa using this⟩
    · obtain rfl : i = x.ts.length := by omega
      rw [List.take_length] at hg
      have hlen := ph_takeL hv x.ts.length (Nat.le_refl _)
      rw [List.take_length] at hlen
      clear ih
      refine Run2.of I 1000 ?_
      simp -implicitDefEqProofs [hlt, hcell]
      refine (join_g hg [32] h (by simp; omega) (by omega)).mono ?_
      rintro v2 h2 ⟨e1, e2⟩
      rw [e1, e2]
      refine gK.go ?_
      simp -implicitDefEqProofs
      exact Post.dropAll rfl (.base ⟨rfl, rfl⟩)
  · have hT : phT x = [] := by unfold phT; rw [if_neg hv]
    rw [hT]
    refine Run2.of I 1000 ?_
    simp -implicitDefEqProofs [hl, ok, hv]
    exact .base ⟨rfl, rfl⟩
end Go.AG.P
namespace Go.AG.P
open Go.Proofs Go.Proofs.YtgofekmoimjcmaaGreatDoor
set_option linter.unusedSimpArgs false
set_option linter.unusedVariables false
set_option maxRecDepth 4000
/-! ## The plain law -/
def t3 : List Int → T
  | [a, b, c] => ⟨a, b, c⟩
  | _ => ⟨0, 0, 0⟩
theorem len3 {α : Type} {l : List α} (h : l.length = 3) : ∃ a b c, l = [a, b, c] := by
  match l, h with
  | [a, b, c], _ => exact ⟨a, b, c, rfl⟩
/-- The phases of a text's words, however bad. -/
noncomputable def lenP (w0 : Txt) (ws : List Txt) : Ph := ⟨(rd (Lib.cut w0 [37]).1).1, (rd (Lib.cut w0 [37]).2.1).1, ws.map fun w => t3 (rlL w)⟩
def rpG (s w0 : Txt) (ws : List Txt) : Prop := (∀ w ∈ ws, (rlL w).length = 3) ∧ (lenP w0 ws).valid ∧ phT (lenP w0 ws) = s
noncomputable instance (s w0 : Txt) (ws : List Txt) : Decidable (rpG s w0 ws) := Classical.propDecidable _
noncomputable def rpO (s : Txt) : Bool := decide (rpG s ((spl 32 s).headD []) (spl 32 s).tail)
noncomputable def rpX (s : Txt) : Ph := if rpG s ((spl 32 s).headD []) (spl 32 s).tail then lenP ((spl 32 s).headD []) (spl 32 s).tail else ⟨0, 0, []⟩
theorem rp_at {s w0 : Txt} {ws : List Txt} (h : spl 32 s = w0 :: ws) : rpO s = decide (rpG s w0 ws) ∧ rpX s = if rpG s w0 ws then lenP w0 ws else ⟨0, 0, []⟩ := by
  unfold rpO rpX
  rw [h]
  exact ⟨rfl, rfl⟩
theorem rl_three {w : Txt} (h : (rlL w).length = 3) : tT (t3 (rlL w)) = w := by
  have hg : rlG w := Classical.byContradiction fun g => by rw [(rl_bad g).1] at h; simp at h
  have h0 : w ≠ [45] := fun e => by rw [e, rl_dash.1] at h; simp at h
  have hL : rlL w = rlM w := by unfold rlL; rw [if_pos hg, if_neg h0]
  rcases hg with e | ⟨_, hg⟩
  · exact absurd e h0
  · have ht := rlM_txt fun w' hw => (hg w' hw).1
    rw [← hL] at ht
    obtain ⟨a, b, c, e⟩ := len3 h
    rw [e] at ht ⊢
    exact ht
theorem rl_tT {t : T} (h : valI t.f ∧ valI t.t ∧ valI t.s) : rlL (tT t) = [t.f, t.t, t.s] := by
  have hs : spl 44 (tT t) = [t.f, t.t, t.s].map Lib.itoa := spl_lst (by simp)
  have h0 : tT t ≠ [45] := fun e => by
    rw [e] at hs
    have := congrArg List.length hs
    simp [spl] at this
  have hall : ∀ w ∈ spl 44 (tT t), (rd w).2 = true ∧ valI (rd w).1 := fun w hw => by
    rw [hs] at hw
    simp only [List.map_cons, List.map_nil, List.mem_cons, List.not_mem_nil, or_false] at hw
    rcases hw with rfl | rfl | rfl
    · rw [rd_val' h.1]; exact ⟨rfl, h.1⟩
    · rw [rd_val' h.2.1]; exact ⟨rfl, h.2.1⟩
    · rw [rd_val' h.2.2]; exact ⟨rfl, h.2.2⟩
  rw [(rl_good h0 (by rw [hs]; simp) hall).1]
  unfold rlM
  rw [hs]
  simp [rd_val' h.1, rd_val' h.2.1, rd_val' h.2.2]
theorem it37 (n : Int) : (37 : UInt8) ∉ Lib.itoa n := itoa_no (by decide) (by decide)
theorem it32p (n : Int) : (32 : UInt8) ∉ Lib.itoa n := itoa_no (by decide) (by decide)
theorem tT_32 (t : T) : (32 : UInt8) ∉ tT t := fun hm => by
  have : tT t = Lib.itoa t.f ++ ([44] ++ (Lib.itoa t.t ++ ([44] ++ Lib.itoa t.s))) := by
    unfold tT lstT
    rw [if_neg (by simp)]
    simp only [List.map_cons, List.map_nil]
    rw [j2, j2, j1]
  rw [this] at hm
  simp only [List.mem_append, List.mem_singleton] at hm
  rcases hm with hm | hm | hm | hm | hm
  · exact it32p _ hm
  · exact absurd hm (by decide)
  · exact it32p _ hm
  · exact absurd hm (by decide)
  · exact it32p _ hm
theorem phH_32 (x : Ph) : (32 : UInt8) ∉ phH x := fun hm => by
  unfold phH at hm
  rcases List.mem_append.1 hm with hm | hm
  · exact it32p _ hm
  · rcases List.mem_cons.1 hm with hm | hm
    · exact absurd hm (by decide)
    · exact it32p _ hm
theorem rd_true' {s : Txt} (h : (rd s).2 = true) : s = Lib.itoa (rd s).1 := (rd_spec (n := (rd s).1) (by rw [← h])).1
theorem rp_good {s w0 x y : Txt} {ws : List Txt} (h : spl 32 s = w0 :: ws) (hx : spl 37 w0 = [x, y]) (h1 : (rd x).2 = true) (h2 : (rd y).2 = true) (h3 : ∀ w ∈ ws, (rlL w).length = 3)
    (hv : Ph.valid ⟨(rd x).1, (rd y).1, ws.map fun w => t3 (rlL w)⟩) : rpX s = ⟨(rd x).1, (rd y).1, ws.map fun w => t3 (rlL w)⟩ ∧ rpO s = true := by
  obtain ⟨e1, n1, n2⟩ := spl_two hx
  have hL : lenP w0 ws = ⟨(rd x).1, (rd y).1, ws.map fun w => t3 (rlL w)⟩ := by
    unfold lenP
    rw [show Lib.cut w0 [37] = (x, y, true) by rw [e1]; exact cut_hit 37 n1]
  have hg : rpG s w0 ws := by
    refine ⟨h3, by rw [hL]; exact hv, ?_⟩
    rw [hL]
    unfold phT
    rw [if_pos hv]
    have e2 : phH ⟨(rd x).1, (rd y).1, ws.map fun w => t3 (rlL w)⟩ = w0 := by
      unfold phH
      simp only
      rw [← rd_true' h1, ← rd_true' h2, e1]
    have e3 : (ws.map fun w => t3 (rlL w)).map tT = ws := by
      rw [List.map_map]
      conv => rhs; rw [← List.map_id ws]
      exact List.map_congr_left fun w hw => rl_three (h3 w hw)
    rw [e2, e3, ← h, spl_join]
  obtain ⟨a1, a2⟩ := rp_at h
  rw [a1, a2, if_pos hg, decide_eq_true hg]
  exact ⟨hL, rfl⟩
theorem rp_back {s w0 : Txt} {ws : List Txt} (h : spl 32 s = w0 :: ws) (hg : rpG s w0 ws) : ∃ x y, spl 37 w0 = [x, y] ∧ (rd x).2 = true ∧ (rd y).2 = true ∧ Ph.valid ⟨(rd x).1, (rd y).1, ws.map fun w => t3 (rlL w)⟩ := by
  obtain ⟨h3, hv, ht⟩ := hg
  have hs : spl 32 s = phH (lenP w0 ws) :: (lenP w0 ws).ts.map tT := by
    rw [← ht]
    unfold phT
    rw [if_pos hv]
    refine join_spl 32 _ (by simp) fun x hx => ?_
    rcases List.mem_cons.1 hx with rfl | hx
    · exact phH_32 _
    · obtain ⟨t, _, rfl⟩ := List.mem_map.1 hx
      exact tT_32 t
  rw [h] at hs
  have hw0 := List.head_eq_of_cons_eq hs
  have hn : in18 (lenP w0 ws).n ∧ in18 (lenP w0 ws).m := by
    obtain ⟨v1, v2, v3, v4, _⟩ := hv
    unfold in18; omega
  have r1 : rd (Lib.itoa (lenP w0 ws).n) = ((lenP w0 ws).n, true) := rd_some rfl hn.1
  have r2 : rd (Lib.itoa (lenP w0 ws).m) = ((lenP w0 ws).m, true) := rd_some rfl hn.2
  refine ⟨Lib.itoa (lenP w0 ws).n, Lib.itoa (lenP w0 ws).m, ?_, by rw [r1], by rw [r2], ?_⟩
  · conv => lhs; rw [hw0]
    exact two_spl (it37 _) (it37 _)
  · rw [r1, r2]
    exact hv
theorem rp_bad {s w0 : Txt} {ws : List Txt} (h : spl 32 s = w0 :: ws) (hg : ¬ rpG s w0 ws) : rpX s = ⟨0, 0, []⟩ ∧ rpO s = false := by
  obtain ⟨a1, a2⟩ := rp_at h
  rw [a1, a2, if_neg hg, decide_eq_false hg]
  exact ⟨rfl, rfl⟩
theorem t3_in (w : Txt) (h : (rlL w).length = 3) : (t3 (rlL w)).ok := by
  have hs : ∀ n ∈ rlL w, in64 n := fun n hn => by
    unfold rlL at hn
    split at hn
    · split at hn
      · simp at hn
      · unfold rlM at hn
        obtain ⟨x, _, rfl⟩ := List.mem_map.1 hn
        have := rd_in x
        unfold in18 at this
        unfold in64; omega
    · simp at hn
  obtain ⟨a, b, c, e⟩ := len3 h
  rw [e] at hs ⊢
  exact ⟨hs a (by simp), hs b (by simp), hs c (by simp)⟩
theorem ph_ok (x y : Txt) (ws : List Txt) (h : ∀ w ∈ ws, (rlL w).length = 3) : Ph.ok ⟨(rd x).1, (rd y).1, ws.map fun w => t3 (rlL w)⟩ := by
  have ix := rd_in x
  have iy := rd_in y
  unfold in18 at ix iy
  refine ⟨by unfold in64; simp only; omega, by unfold in64; simp only; omega, fun t ht => ?_⟩
  obtain ⟨w, hw, rfl⟩ := List.mem_map.1 ht
  exact t3_in w (h w hw)
theorem Wk.ip3 {a b c d : AV} (h : Wk c d) : Wk (.ip [a, b, c]) (.ip [a, b, d]) := fun w D v ⟨bl, o, e, h1, h2, h3⟩ => ⟨bl, o, e, h1, h2, by
  rw [Cells_iff] at h3 ⊢
  intro i x hx
  match i, hx with
  | 0, hx => exact h3 0 x hx
  | 1, hx => exact h3 1 x hx
  | 2, hx =>
    obtain rfl : d = x := by simpa using hx
    obtain ⟨u, q1, q2, q3⟩ := h3 2 c rfl
    exact ⟨u, q1, q2, h w D u q3⟩
  | i + 3, hx => simp at hx⟩
/-! ## The reference -/
theorem len2 {α : Type} {l : List α} (h : l.length = 2) : ∃ a b, l = [a, b] := by
  match l, h with
  | [a, b], _ => exact ⟨a, b, rfl⟩
theorem spl_cons (c : UInt8) (s : Txt) : ∃ w0 ws, spl c s = w0 :: ws := by
  cases h : spl c s with
  | nil => exact absurd h (spl_ne c s)
  | cons a t => exact ⟨a, t, rfl⟩
theorem wkZ (b : Bool) : Wk (.tup [.agg [.int .i64 0, .int .i64 0, .nilsl], .bool b]) (.tup [Ph.av ⟨0, 0, []⟩, .bool b]) := Wk.tup (.cons (Wk.agg (.cons (.refl _) (.cons (.refl _) (.cons (Wk.nil 3) .nil)))) (.cons (.refl _) .nil))
noncomputable def orcRp1 : List (Nat × (List AV → Option (Prop × AV))) := []
theorem orcRp1_p : Pure Tryz.prog (lk orcRp1) := lk_pure0
@[simp] theorem orcRp1_l (b : Bool) (g : FuncId) (l : List AV) : lk orcRp1 b g l = none := nr rfl
/-! ## The program -/
theorem validP_g {u : AV} {n m : Int} {l : List T} {hp : Heap} (G : Grow 3 u (l.map T.av) hp) (h : Heap) (hl : l.length ≤ 4194304) (ok : Ph.ok ⟨n, m, l⟩) : ACalls Tryz.prog 21 [.agg [.int .i64 n, .int .i64 m, u]] (hp ++ h) (fun v h' => v = .bool (decide (Ph.valid ⟨n, m, l⟩)) ∧ h' = hp ++ h) := by
  refine ACalls.reads hp (fun p hp' => List.mem_append_left _ hp') ?_ rfl
  rw [lend_cons, lend_nil', lend1_agg3]
  exact ACalls.wk (.cons (Wk.agg (.cons (.refl _) (.cons (.refl _) (.cons G.lentWkS .nil)))) .nil) (valid_cL ⟨n, m, l⟩ [] hl ok)
theorem textP_g {u : AV} {n m : Int} {l : List T} {hp : Heap} (G : Grow 3 u (l.map T.av) hp) (h : Heap) (hl : l.length ≤ 1048576) (ok : Ph.ok ⟨n, m, l⟩) : ACalls Tryz.prog 11 [.agg [.int .i64 n, .int .i64 m, u]] (hp ++ h) (fun v h' => v = .str (phT ⟨n, m, l⟩) ∧ h' = hp ++ h) := by
  refine ACalls.reads hp (fun p hp' => List.mem_append_left _ hp') ?_ rfl
  rw [lend_cons, lend_nil', lend1_agg3]
  exact ACalls.wk (.cons (Wk.agg (.cons (.refl _) (.cons (.refl _) (.cons G.lentWkS .nil)))) .nil) (implPT_c ⟨n, m, l⟩ [] hl ok)
theorem ownZ : OwnPh (.agg [.int .i64 0, .int .i64 0, .nilsl]) ⟨0, 0, []⟩ [] := ⟨_, rfl, .nil⟩
noncomputable def orcRp2 : List (Nat × (List AV → Option (Prop × AV))) := (26, o_split) :: (27, o_cut) :: (28, o_ReadDecimal) :: (29, o_ReadListI) :: []
theorem orcRp2_p : Pure Tryz.prog (lk orcRp2) := (lk_pure o_split_k (lk_pure o_cut_k (lk_pure o_ReadDecimal_k (lk_pure o_ReadListI_k lk_pure0))))
@[simp] theorem orcRp2_l (b : Bool) (g : FuncId) (l : List AV) : lk orcRp2 b g l = if g = 26 then o_split l else if g = 27 then o_cut l else if g = 28 then o_ReadDecimal l else if g = 29 then o_ReadListI l else none := nr rfl
abbrev k10_o0 : List AJ := [.o ⟨(some 2), none, false, .alloc true 3 (.agg [(.int .i64 0), (.int .i64 0), .nilsl]), none⟩, .o ⟨(some 3), none, false, .mv (.c (.bool false)), (some [0, 2])⟩]
abbrev k10_o1 : List AJ := [.o ⟨(some 13), none, false, .mv (.t 0), none⟩, .o ⟨(some 14), none, false, .call 26 [(.t 13), (.c (.str [32]))], none⟩, .o ⟨(some 4), none, false, .mv (.t 14), (some [0, 2, 4])⟩]
abbrev k10_o2 : List AJ := [.o ⟨(some 16), none, false, .mv (.t 4), none⟩, .o ⟨(some 17), none, false, .idxA 1 (.t 16) (.c (.int .i64 0)), none⟩, .o ⟨(some 18), none, false, .load 1 false (.t 17), none⟩, .o ⟨(some 19), none, false, .call 27 [(.t 18), (.c (.str [37]))], none⟩, .o ⟨(some 15), none, false, .mv (.t 19), none⟩, .o ⟨(some 20), none, false, .extract (.t 15) 0, none⟩, .o ⟨(some 21), none, false, .extract (.t 15) 1, none⟩, .o ⟨(some 22), none, false, .extract (.t 15) 2, none⟩, .o ⟨(some 5), none, false, .mv (.t 20), none⟩, .o ⟨(some 6), none, false, .mv (.t 21), none⟩, .o ⟨(some 7), none, false, .mv (.t 22), (some [0, 2, 4, 5, 6])⟩]
abbrev k10_o3 : List AJ := [.o ⟨(some 8), none, false, .alloc true 3 (.agg [(.int .i64 0), (.int .i64 0), .nilsl]), (some [0, 2, 4, 5, 6, 8])⟩]
abbrev k10_o4 : List AJ := [.o ⟨(some 24), none, false, .mv (.t 5), none⟩, .o ⟨(some 25), none, false, .call 28 [(.t 24)], none⟩, .o ⟨(some 23), none, false, .mv (.t 25), none⟩, .o ⟨(some 26), none, false, .extract (.t 23) 0, none⟩, .o ⟨(some 27), none, false, .extract (.t 23) 1, none⟩, .o ⟨(some 28), none, false, .fieldA 0 (.t 8), none⟩, .o ⟨none, none, false, .store 1 (.t 28) (.t 26), (some [0, 2, 4, 6, 8])⟩]
abbrev k10_o5 : List AJ := [.o ⟨(some 30), none, false, .mv (.t 6), none⟩, .o ⟨(some 31), none, false, .call 28 [(.t 30)], none⟩, .o ⟨(some 29), none, false, .mv (.t 31), none⟩, .o ⟨(some 32), none, false, .extract (.t 29) 0, none⟩, .o ⟨(some 33), none, false, .extract (.t 29) 1, none⟩, .o ⟨(some 34), none, false, .fieldA 1 (.t 8), none⟩, .o ⟨none, none, false, .store 1 (.t 34) (.t 32), (some [0, 2, 4, 8])⟩]
abbrev k10_o6 : List AJ := [.o ⟨(some 35), none, false, .mv (.t 4), none⟩, .o ⟨(some 36), none, false, .slice 1 (.t 35) (some (.c (.int .i64 1))) none none, none⟩, .o ⟨(some 37), none, false, .len (.t 36), none⟩, .o ⟨(some 38), none, false, .mv (.c (.int .i64 0)), (some [0, 2, 8, 36, 37, 38])⟩]
abbrev k10_o7 : List AJ := [.o ⟨(some 39), none, false, .bin .lss (.t 38) (.t 37), (some [0, 2, 8, 36, 37, 38, 39])⟩]
abbrev k10_o8 : List AJ := [.o ⟨(some 40), none, false, .idxA 1 (.t 36) (.t 38), none⟩, .o ⟨(some 41), none, false, .load 1 false (.t 40), none⟩, .o ⟨(some 10), none, false, .mv (.t 41), (some [0, 2, 8, 10, 36, 37, 38])⟩]
abbrev k10_o9 : List AJ := [.o ⟨(some 43), none, false, .mv (.t 10), none⟩, .o ⟨(some 44), none, false, .call 29 [(.t 43)], none⟩, .o ⟨(some 42), none, false, .mv (.t 44), none⟩, .o ⟨(some 45), none, false, .extract (.t 42) 0, none⟩, .o ⟨(some 46), none, false, .extract (.t 42) 1, none⟩, .o ⟨(some 11), none, false, .mv (.t 45), none⟩, .o ⟨(some 12), none, false, .mv (.t 46), (some [0, 2, 8, 11, 36, 37, 38])⟩]
abbrev k10_o10 : List AJ := [.o ⟨(some 47), none, false, .mv (.t 11), none⟩, .o ⟨(some 48), none, false, .len (.t 47), none⟩, .o ⟨(some 49), none, false, .bin .neq (.t 48) (.c (.int .i64 3)), (some [0, 2, 8, 11, 36, 37, 38, 49])⟩]
abbrev k10_o11 : List AJ := [.o ⟨(some 50), none, false, .build [(.int .i64 0), (.int .i64 0), .nilsl] [], none⟩, .o ⟨none, none, false, .store 3 (.t 2) (.t 50), none⟩, .o ⟨(some 3), none, false, .mv (.c (.bool false)), (some [2, 3])⟩]
def k10_13 : ACode := .seq (.region k10_o11) .ret
def k10_14 : ACode := .cond (.t 49) k10_13 .skip
def k10_15 : ACode := .seq (.region k10_o10) k10_14
abbrev k10_o12 : List AI := [⟨(some 51), none, false, .fieldA 2 (.t 8), none⟩, ⟨(some 52), none, false, .load 1 false (.t 51), none⟩, ⟨(some 53), none, false, .mv (.t 11), none⟩, ⟨(some 54), none, false, .idxA 1 (.t 53) (.c (.int .i64 0)), none⟩, ⟨(some 55), none, false, .load 1 false (.t 54), none⟩, ⟨(some 56), none, false, .mv (.t 11), none⟩, ⟨(some 57), none, false, .idxA 1 (.t 56) (.c (.int .i64 1)), none⟩, ⟨(some 58), none, false, .load 1 false (.t 57), none⟩, ⟨(some 59), none, false, .mv (.t 11), none⟩, ⟨(some 60), none, false, .idxA 1 (.t 59) (.c (.int .i64 2)), none⟩, ⟨(some 61), none, false, .load 1 false (.t 60), none⟩, ⟨(some 62), none, false, .build [(.int .i64 0), (.int .i64 0), (.int .i64 0)] [(0, 1, (.t 55)), (1, 1, (.t 58)), (2, 1, (.t 61))], none⟩, ⟨(some 63), none, false, .bsl false 3 [(.t 62)], (some [0, 2, 8, 36, 37, 38, 52, 63])⟩]
abbrev k10_o13 : List AJ := [.o ⟨(some 64), none, false, .append 3 24 (.t 52) (.t 63), none⟩, .o ⟨(some 65), none, false, .fieldA 2 (.t 8), none⟩, .o ⟨none, none, false, .store 1 (.t 65) (.t 64), (some [0, 2, 8, 36, 37, 38])⟩]
def k10_16 : ACode := .draw k10_o12 k10_o13 rfl
def k10_17 : ACode := .seq k10_15 k10_16
def k10_18 : ACode := .seq (.region k10_o9) k10_17
def k10_19 : ACode := .seq (.region k10_o8) k10_18
abbrev k10_o14 : List AJ := [.o ⟨(some 66), none, true, .bin .add (.t 38) (.c (.int .i64 1)), none⟩, .o ⟨(some 38), none, false, .mv (.t 66), (some [0, 2, 8, 36, 37, 38])⟩]
def k10_21 : ACode := .region k10_o14
def k10_22 : ACode := .seq (.block 1 k10_19) k10_21
def k10_23 : ACode := .seq (.cond (.t 39) .skip (.exit 0)) k10_22
def k10_24 : ACode := .seq (.region k10_o7) k10_23
def k10_25 : ACode := .loop k10_24
def k10_26 : ACode := .block 0 k10_25
def k10_27 : ACode := .seq (.region k10_o6) k10_26
abbrev k10_o15 : List AJ := [.o ⟨(some 67), none, false, .load 3 true (.t 8), none⟩, .o ⟨(some 68), none, false, .call 21 [(.t 67)], none⟩, .o ⟨(some 69), none, false, .un .not (.t 68), none⟩, .o ⟨(some 70), none, false, .mv (.t 69), none⟩, .o ⟨(some 71), (some (70, false)), false, .load 3 true (.t 8), none⟩, .o ⟨(some 72), (some (70, false)), false, .call 11 [(.t 71)], none⟩, .o ⟨(some 73), (some (70, false)), false, .mv (.t 0), none⟩, .o ⟨(some 74), (some (70, false)), false, .bin .neq (.t 72) (.t 73), none⟩, .o ⟨(some 75), none, false, .pick (.t 70) (.c (.bool true)) (.t 74), (some [2, 8, 75])⟩]
abbrev k10_o16 : List AJ := [.o ⟨(some 76), none, false, .build [(.int .i64 0), (.int .i64 0), .nilsl] [], none⟩, .o ⟨none, none, false, .store 3 (.t 2) (.t 76), none⟩, .o ⟨(some 3), none, false, .mv (.c (.bool false)), (some [2, 3])⟩]
def k10_30 : ACode := .seq (.region k10_o16) .ret
def k10_31 : ACode := .cond (.t 75) k10_30 .skip
def k10_32 : ACode := .seq (.region k10_o15) k10_31
abbrev k10_o17 : List AJ := [.o ⟨(some 77), none, false, .load 3 true (.t 8), none⟩, .o ⟨none, none, false, .store 3 (.t 2) (.t 77), none⟩, .o ⟨(some 3), none, false, .mv (.c (.bool true)), (some [2, 3])⟩]
def k10_34 : ACode := .seq (.region k10_o17) .ret
def k10_35 : ACode := .seq k10_32 k10_34
def k10_36 : ACode := .seq k10_27 k10_35
def k10_37 : ACode := .seq (.region k10_o5) k10_36
def k10_38 : ACode := .seq (.region k10_o4) k10_37
def k10_39 : ACode := .seq (.region k10_o3) k10_38
def k10_40 : ACode := .seq (.region k10_o2) k10_39
def k10_41 : ACode := .seq (.region k10_o1) k10_40
def k10_42 : ACode := .seq (.region k10_o0) k10_41
@[simp, simp ↓] theorem k10_13r : sR k10_13 k10_o11 .ret := yR rfl
@[simp, simp ↓] theorem k10_14r : rC k10_14 (.t 49) k10_13 .skip := zC rfl
@[simp, simp ↓] theorem k10_15r : sR k10_15 k10_o10 k10_14 := yR rfl
@[simp, simp ↓] theorem k10_16r : rD k10_16 k10_o12 k10_o13 := zD rfl
@[simp, simp ↓] theorem k10_17r : rS k10_17 k10_15 k10_16 := zS rfl
@[simp, simp ↓] theorem k10_18r : sR k10_18 k10_o9 k10_17 := yR rfl
@[simp, simp ↓] theorem k10_19r : sR k10_19 k10_o8 k10_18 := yR rfl
@[simp, simp ↓] theorem k10_21r : rR k10_21 k10_o14 := zR rfl
@[simp, simp ↓] theorem k10_22r : sB k10_22 1 k10_19 k10_21 := yB rfl
@[simp, simp ↓] theorem k10_23r : sC k10_23 (.t 39) .skip (.exit 0) k10_22 := yC rfl
@[simp, simp ↓] theorem k10_24r : sR k10_24 k10_o7 k10_23 := yR rfl
@[simp, simp ↓] theorem k10_25r : rL k10_25 k10_24 := zL rfl
@[simp, simp ↓] theorem k10_26r : rB k10_26 0 k10_25 := zB rfl
@[simp, simp ↓] theorem k10_27r : sR k10_27 k10_o6 k10_26 := yR rfl
@[simp, simp ↓] theorem k10_30r : sR k10_30 k10_o16 .ret := yR rfl
@[simp, simp ↓] theorem k10_31r : rC k10_31 (.t 75) k10_30 .skip := zC rfl
@[simp, simp ↓] theorem k10_32r : sR k10_32 k10_o15 k10_31 := yR rfl
@[simp, simp ↓] theorem k10_34r : sR k10_34 k10_o17 .ret := yR rfl
@[simp, simp ↓] theorem k10_35r : rS k10_35 k10_32 k10_34 := zS rfl
@[simp, simp ↓] theorem k10_36r : rS k10_36 k10_27 k10_35 := zS rfl
@[simp, simp ↓] theorem k10_37r : sR k10_37 k10_o5 k10_36 := yR rfl
@[simp, simp ↓] theorem k10_38r : sR k10_38 k10_o4 k10_37 := yR rfl
@[simp, simp ↓] theorem k10_39r : sR k10_39 k10_o3 k10_38 := yR rfl
@[simp, simp ↓] theorem k10_40r : sR k10_40 k10_o2 k10_39 := yR rfl
@[simp, simp ↓] theorem k10_41r : sR k10_41 k10_o1 k10_40 := yR rfl
@[simp, simp ↓] theorem k10_42r : sR k10_42 k10_o0 k10_41 := yR rfl
noncomputable abbrev k10_C : Orc → Cx := mkC Tryz.prog [2, 8] 10 78 [.cell 2 3 true, .tmp 3]
theorem k10_of : OfP Tryz.prog Tryz.f10 10 78 k10_C k10_42 := @ofP _ _ _ _ _ _ _ _ Tryz.func10 (by decide +kernel) rfl (by kernel_rfl) rfl (by kernel_rfl)
/-- The phases that are read are in memory of their own. -/
theorem implRP_o (s : Txt) (hs : s.length ≤ 1048576) : ACalls Tryz.prog 10 [.str s] [] (fun v h' => ∃ w, v = .tup [w, .bool (rpO s)] ∧ OwnPh w (rpX s) h') := by
  refine k10_of rfl orcRp2_p fun I => ?_
  obtain ⟨w0, ws, hW⟩ := spl_cons 32 s
  have hmany := spl_many 32 s
  have hwl : ∀ w ∈ ws, List.length w ≤ 1048576 := fun w hw => Nat.le_trans (spl_le 32 s w (by rw [hW]; exact List.mem_cons_of_mem _ hw)) hs
  have hw0 : List.length w0 ≤ 1048576 := Nat.le_trans (spl_le 32 s w0 (by rw [hW]; exact List.mem_cons_self ..)) hs
  rw [hW, List.length_cons] at hmany
  have hbad : ¬ rpG s w0 ws → rpX s = ⟨0, 0, []⟩ ∧ rpO s = false := fun hn => rp_bad hW hn
  have hgood : rpG s w0 ws → rpX s = lenP w0 ws ∧ rpO s = true := fun hg => by
    obtain ⟨a1, a2⟩ := rp_at hW
    rw [a1, a2, if_pos hg, decide_eq_true hg]; exact ⟨rfl, rfl⟩
  have hLP : lenP w0 ws = ⟨(rd (Lib.cut w0 [37]).1).1, (rd (Lib.cut w0 [37]).2.1).1, ws.map fun w => t3 (rlL w)⟩ := rfl
  have hs2 : s.length < 4294967281 := by omega
  have hw2 : w0.length < 4294967281 := by omega
  have c1 := cut1_len w0 [37]
  have c2 := cut2_len w0 [37]
  have hokP := ph_ok (Lib.cut w0 [37]).1 (Lib.cut w0 [37]).2.1 ws
  generalize hcc : Lib.cut w0 [37] = cc at *
  have hx : cc.1.length ≤ 1048576 := by omega
  have hy : cc.2.1.length ≤ 1048576 := by omega
  have hrpG : rpG s w0 ws ↔ (∀ w ∈ ws, (rlL w).length = 3) ∧ Ph.valid ⟨(rd cc.1).1, (rd cc.2.1).1, ws.map fun w => t3 (rlL w)⟩ ∧ phT ⟨(rd cc.1).1, (rd cc.2.1).1, ws.map fun w => t3 (rlL w)⟩ = s := by
    unfold rpG; rw [hLP]
  rw [hLP] at hgood
  clear hLP c1 c2
  generalize hdx : rd cc.1 = dx at *
  generalize hdy : rd cc.2.1 = dy at *
  refine Run2.of I 1000 ?_
  simp -implicitDefEqProofs [hs2, hW, hw2, hcc, hx, hy]
  intro a b hb
  refine gK.go ?_
  simp -implicitDefEqProofs [hb, hx, hy, hdx, hdy]
  try (refine ⟨by omega, ?_⟩)
  refine Run2.loopE (α := Nat × AV × Heap) (fun p => [(0, .str s), (2, .ptr a 3 0 0), (8, .ptr b 3 0 0), (36, .snap 1 (ws.map sv)), (37, .int .i64 ws.length), (38, .int .i64 (p.1 : Nat))])
    (fun p => p.2.2 ++ [(b, ⟨3, [.agg [.int .i64 dx.1, .int .i64 dy.1, p.2.1]]⟩), (a, ⟨3, [.agg [.int .i64 0, .int .i64 0, .nilsl]]⟩)]) (fun p => ws.length - p.1)
    (fun p => p.1 ≤ ws.length ∧ (∀ w ∈ ws.take p.1, (rlL w).length = 3) ∧ Grow 3 p.2.1 (((ws.take p.1).map fun w => t3 (rlL w)).map T.av) p.2.2 ∧ b ∉ dom p.2.2 ∧ a ∉ dom p.2.2) (0, .nilsl, []) (by simp [List.take_of_length_le]) rfl ⟨Nat.zero_le _, by simp, .nil, by simp [dom], by simp [dom]⟩ ?_
  rintro ⟨i, u, hp⟩ ⟨hi, h3, hg, hpb, hpa⟩ ih
  simp only at hi h3 hg hpb hpa ih
  have hcell := hg.cell
  by_cases hlt : i < ws.length
  · have hwi := hwl _ (List.getElem_mem hlt)
    have hrb : ¬ (rlL ws[i]).length = 3 → rpX s = ⟨0, 0, []⟩ ∧ rpO s = false := fun hn => hbad fun hh => hn (hh.1 _ (List.getElem_mem hlt))
    have go := fun (hw : (rlL ws[i]).length = 3) u' hp' (g : Grow 3 u' (((ws.take i).map fun w => t3 (rlL w)).map T.av ++ [T.av (t3 (rlL ws[i]))]) hp') hb' ha' => ih (i + 1, u', hp') ⟨hlt, fun w hm => by
      rw [List.take_succ_eq_append_getElem hlt] at hm
      rcases List.mem_append.1 hm with hm | hm
      · exact h3 w hm
      · rw [List.mem_singleton.1 hm]; exact hw, by
      show Grow 3 u' (((ws.take (i + 1)).map fun w => t3 (rlL w)).map T.av) hp'
      rw [List.take_succ_eq_append_getElem hlt]
      simpa only [List.map_append, List.map_cons, List.map_nil] using g, hb', ha'⟩ (by simp only; omega)
    clear ih hgood hbad hokP hrpG
    generalize hti : ws[i] = z at *
    by_cases hz : (rlL z).length = 3
    · obtain ⟨p, q, r, hl⟩ := len3 hz
      rw [hl] at go
      refine Run2.of I 1000 ?_
      simp -implicitDefEqProofs [hlt, hti, hwi, hl, hcell, hget_app hpb, hget_app hpa, hb]
      refine hg.app_mid (pre := []) (fun _ _ h => by simp [dom] at h) (by simp; omega) (by simp) fun w2 hp2 hg2 hf => ?_
      have hfb : b ∉ dom hp2 := fun h => hf b h (by simp [dom])
      have hfa : a ∉ dom hp2 := fun h => hf a h (by simp [dom])
      have := go (by simp) w2 hp2 (by simpa [t3] using hg2) hfb hfa
      simp -implicitDefEqProofs [hg2.cell, cells_of hg2.cell, stor_of hg2.cell, hget_app hfb, hset_app hfb]
      exact ⟨by omega, by simpa using this⟩
    · obtain ⟨e1, e2⟩ := hrb hz
      have hzi : ¬ ((rlL z).length : Int) = 3 := by omega
      rw [e1, e2]
      refine Run2.of I 1000 ?_
      simp -implicitDefEqProofs [hlt, hti, hwi, hzi, hcell, hget_app hpb, hget_app hpa, hset_app hpa, hb]
      exact Post.dropAll rfl (.drop b (.drop a (.base (by simp [hdel, hb]; exact ownZ))))
  · obtain rfl : i = ws.length := by omega
    rw [List.take_length] at h3 hg
    have hok3 := hokP h3
    have hLl : (ws.map fun w => t3 (rlL w)).length ≤ 4194304 := by rw [List.length_map]; omega
    have hrp : rpG s w0 ws ↔ Ph.valid ⟨dx.1, dy.1, ws.map fun w => t3 (rlL w)⟩ ∧ phT ⟨dx.1, dy.1, ws.map fun w => t3 (rlL w)⟩ = s := by
      rw [hrpG]; exact ⟨fun hh => hh.2, fun hh => ⟨h3, hh⟩⟩
    clear ih hrpG hokP
    generalize (ws.map fun w => t3 (rlL w)) = L at *
    have hv := validP_g hg [(b, ⟨3, [.agg [.int .i64 dx.1, .int .i64 dy.1, u]]⟩), (a, ⟨3, [.agg [.int .i64 0, .int .i64 0, .nilsl]]⟩)] hLl hok3
    by_cases hval : Ph.valid ⟨dx.1, dy.1, L⟩
    · have h24 := hval.2.2.2.2.2
      have ht := textP_g hg [(b, ⟨3, [.agg [.int .i64 dx.1, .int .i64 dy.1, u]]⟩), (a, ⟨3, [.agg [.int .i64 0, .int .i64 0, .nilsl]]⟩)] (by simp only at h24; omega) hok3
      rw [decide_eq_true hval] at hv
      by_cases htx : phT ⟨dx.1, dy.1, L⟩ = s
      · obtain ⟨e1, e2⟩ := hgood (hrp.2 ⟨hval, htx⟩)
        rw [e1, e2]
        rw [htx] at ht
        refine Run2.of I 1000 ?_
        simp -implicitDefEqProofs [hlt, hcell, hget_app hpb, hget_app hpa, hb]
        first | refine dcallK (hv) ?_ | (refine (hv).mono ?_; rintro v h' ⟨rfl, rfl⟩; refine gK.go ?_)
        simp -implicitDefEqProofs [hcell, hget_app hpb, hget_app hpa, hb]
        first | refine dcallK (ht) ?_ | (refine (ht).mono ?_; rintro v h' ⟨rfl, rfl⟩; refine gK.go ?_)
        simp -implicitDefEqProofs [hcell, hget_app hpb, hget_app hpa, hset_app hpa, hb]
        refine .drop a (.drop b (.base ?_))
        rw [hdel_app hpa, hdel_app hpb]
        simp [hdel, hb]
        exact ⟨_, rfl, Grow.own hg⟩
      · obtain ⟨e1, e2⟩ := hbad (fun hh => htx (hrp.1 hh).2)
        rw [e1, e2]
        refine Run2.of I 1000 ?_
        simp -implicitDefEqProofs [hlt, hcell, hget_app hpb, hget_app hpa, hb]
        first | refine dcallK (hv) ?_ | (refine (hv).mono ?_; rintro v h' ⟨rfl, rfl⟩; refine gK.go ?_)
        simp -implicitDefEqProofs [hcell, hget_app hpb, hget_app hpa, hb]
        first | refine dcallK (ht) ?_ | (refine (ht).mono ?_; rintro v h' ⟨rfl, rfl⟩; refine gK.go ?_)
        simp -implicitDefEqProofs [hcell, hget_app hpb, hget_app hpa, hset_app hpa, hb, htx]
        exact Post.dropAll rfl (.drop b (.drop a (.base (by simp [hdel, hb]; exact ownZ))))
    · obtain ⟨e1, e2⟩ := hbad (fun hh => hval (hrp.1 hh).1)
      rw [e1, e2]
      rw [decide_eq_false hval] at hv
      refine Run2.of I 1000 ?_
      simp -implicitDefEqProofs [hlt, hcell, hget_app hpb, hget_app hpa, hb]
      first | refine dcallK (hv) ?_ | (refine (hv).mono ?_; rintro v h' ⟨rfl, rfl⟩; refine gK.go ?_)
      simp -implicitDefEqProofs [hcell, hget_app hpb, hget_app hpa, hset_app hpa, hb]
      exact Post.dropAll rfl (.drop b (.drop a (.base (by simp [hdel, hb]; exact ownZ))))
end Go.AG.P
