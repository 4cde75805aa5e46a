/- Lists of numbers read from a text: the program and the reference. No statement is made here. -/
import Derived.Test.YtgofekmoimjcmaaGreatDoorRdF
import Derived.Test.YtgofekmoimjcmaaGreatDoorStB
namespace Go.AG
open Go.Proofs Go.Proofs.YtgofekmoimjcmaaGreatDoor
set_option linter.unusedSimpArgs false
set_option linter.unusedVariables false
set_option maxRecDepth 4000
def wfS (s : List UInt8) : Prop := s.length ≤ 9223372036854775807
theorem Str_of_shape {x : AV} (h : shV .str x) : ∃ s : List UInt8, x = .str s ∧ wfS s := by
  obtain ⟨h1, s, e, r⟩ := h
  have hm : maxLen ≤ 9223372036854775807 := by decide
  cases x <;> simp [isAgg, Ty.isS, cellsOf] at h1 e
  exact ⟨s, by rw [e], Nat.le_trans r hm⟩
noncomputable def orcRa1 : List (Nat × (List AV → Option (Prop × AV))) := (55, o_trim) :: (30, o_Decimal) :: []
theorem orcRa1_p : Pure Tryz.prog (lk orcRa1) := (lk_pure o_trim_k (lk_pure o_Decimal_k lk_pure0))
@[simp] theorem orcRa1_l (b : Bool) (g : FuncId) (l : List AV) : lk orcRa1 b g l = if g = 55 then o_trim l else if g = 30 then o_Decimal l else none := nr rfl
abbrev k28_o0 : List AJ := [.o ⟨(some 2), none, false, .mv (.c (.int .i64 0)), none⟩, .o ⟨(some 3), none, false, .mv (.c (.bool false)), (some [0])⟩]
abbrev k28_o1 : List AJ := [.o ⟨(some 7), none, false, .mv (.t 0), none⟩, .o ⟨(some 8), none, false, .call 55 [(.t 7), (.c (.str [45]))], none⟩, .o ⟨(some 4), none, false, .mv (.t 8), (some [0, 4])⟩]
abbrev k28_o2 : List AJ := [.o ⟨(some 9), none, false, .mv (.t 4), none⟩, .o ⟨(some 10), none, false, .slen (.t 9), none⟩, .o ⟨(some 11), none, false, .bin .lss (.t 10) (.c (.int .i64 1)), none⟩, .o ⟨(some 12), none, false, .mv (.t 11), none⟩, .o ⟨(some 13), (some (12, false)), false, .mv (.t 4), none⟩, .o ⟨(some 14), (some (12, false)), false, .slen (.t 13), none⟩, .o ⟨(some 15), (some (12, false)), false, .bin .gtr (.t 14) (.c (.int .i64 18)), none⟩, .o ⟨(some 16), none, false, .pick (.t 12) (.c (.bool true)) (.t 15), (some [0, 16])⟩]
abbrev k28_o3 : List AJ := [.o ⟨(some 2), none, false, .mv (.c (.int .i64 0)), none⟩, .o ⟨(some 3), none, false, .mv (.c (.bool false)), (some [2, 3])⟩]
def k28_4 : ACode := .seq (.region k28_o3) .ret
def k28_5 : ACode := .cond (.t 16) k28_4 .skip
def k28_6 : ACode := .seq (.region k28_o2) k28_5
abbrev k28_o4 : List AJ := [.o ⟨(some 18), none, false, .mv (.t 0), none⟩, .o ⟨(some 19), none, false, .call 56 [(.t 18), (.c (.int .i64 10)), (.c (.int .i64 64))], none⟩, .o ⟨(some 17), none, false, .mv (.t 19), none⟩, .o ⟨(some 20), none, false, .extract (.t 17) 0, none⟩, .o ⟨(some 21), none, false, .extract (.t 17) 1, none⟩, .o ⟨(some 5), none, false, .mv (.t 20), none⟩, .o ⟨(some 6), none, false, .mv (.t 21), (some [0, 5, 6])⟩]
abbrev k28_o5 : List AJ := [.o ⟨(some 22), none, false, .mv (.t 6), none⟩, .o ⟨(some 23), none, false, .eqn 3 true (.t 22), none⟩, .o ⟨(some 24), none, false, .mv (.t 23), none⟩, .o ⟨(some 25), (some (24, false)), false, .mv (.t 5), none⟩, .o ⟨(some 26), (some (24, false)), false, .call 30 [(.t 25)], none⟩, .o ⟨(some 27), (some (24, false)), false, .mv (.t 0), none⟩, .o ⟨(some 28), (some (24, false)), false, .bin .neq (.t 26) (.t 27), none⟩, .o ⟨(some 29), none, false, .pick (.t 24) (.c (.bool true)) (.t 28), (some [5, 29])⟩]
abbrev k28_o6 : List AJ := [.o ⟨(some 2), none, false, .mv (.c (.int .i64 0)), none⟩, .o ⟨(some 3), none, false, .mv (.c (.bool false)), (some [2, 3])⟩]
def k28_10 : ACode := .seq (.region k28_o6) .ret
def k28_11 : ACode := .cond (.t 29) k28_10 .skip
def k28_12 : ACode := .seq (.region k28_o5) k28_11
abbrev k28_o7 : List AJ := [.o ⟨(some 30), none, false, .mv (.t 5), none⟩, .o ⟨(some 2), none, false, .mv (.t 30), none⟩, .o ⟨(some 3), none, false, .mv (.c (.bool true)), (some [2, 3])⟩]
def k28_14 : ACode := .seq (.region k28_o7) .ret
def k28_15 : ACode := .seq k28_12 k28_14
def k28_16 : ACode := .seq (.region k28_o4) k28_15
def k28_17 : ACode := .seq k28_6 k28_16
def k28_18 : ACode := .seq (.region k28_o1) k28_17
def k28_19 : ACode := .seq (.region k28_o0) k28_18
@[simp, simp ↓] theorem k28_4r : sR k28_4 k28_o3 .ret := yR rfl
@[simp, simp ↓] theorem k28_5r : rC k28_5 (.t 16) k28_4 .skip := zC rfl
@[simp, simp ↓] theorem k28_6r : sR k28_6 k28_o2 k28_5 := yR rfl
@[simp, simp ↓] theorem k28_10r : sR k28_10 k28_o6 .ret := yR rfl
@[simp, simp ↓] theorem k28_11r : rC k28_11 (.t 29) k28_10 .skip := zC rfl
@[simp, simp ↓] theorem k28_12r : sR k28_12 k28_o5 k28_11 := yR rfl
@[simp, simp ↓] theorem k28_14r : sR k28_14 k28_o7 .ret := yR rfl
@[simp, simp ↓] theorem k28_15r : rS k28_15 k28_12 k28_14 := zS rfl
@[simp, simp ↓] theorem k28_16r : sR k28_16 k28_o4 k28_15 := yR rfl
@[simp, simp ↓] theorem k28_17r : rS k28_17 k28_6 k28_16 := zS rfl
@[simp, simp ↓] theorem k28_18r : sR k28_18 k28_o1 k28_17 := yR rfl
@[simp, simp ↓] theorem k28_19r : sR k28_19 k28_o0 k28_18 := yR rfl
noncomputable abbrev k28_C : Orc → Cx := mkC Tryz.prog [] 28 31 [.tmp 2, .tmp 3]
theorem k28_of0 : OfP0 Tryz.prog Tryz.f28 28 31 k28_C k28_19 := @ofP0 _ _ _ _ _ _ _ _ Tryz.func28 (by decide +kernel) rfl (by kernel_rfl) rfl (by kernel_rfl)
theorem ReadDecimal_c (s : List UInt8) (h : Heap) (hs : s.length ≤ 1048576) : ACalls Tryz.prog 28 [.str s] h (fun v h' => v = .tup [.int .i64 (rd s).1, .bool (rd s).2] ∧ h' = h) := by
  refine k28_of0 rfl orcRa1_p fun I => ?_
  by_cases h0 : tl s = []
  · rw [rd_len (.inl (by simp [h0]))]
    refine Run2.of I 1000 ?_
    simp -implicitDefEqProofs [trim_tl, h0]
  · have hl0 : (tl s).length ≠ 0 := fun e => h0 (List.length_eq_zero_iff.1 e)
    have hl1 : ¬ ((tl s).length : Int) < 1 := by omega
    by_cases h18 : 18 < (tl s).length
    · rw [rd_len (.inr h18)]
      have hl2 : (18 : Int) < (tl s).length := by omega
      refine Run2.of I 1000 ?_
      simp -implicitDefEqProofs [trim_tl, hl1, hl2]
    · have hl2 : ¬ (18 : Int) < (tl s).length := by omega
      refine Run2.of I 1000 ?_
      simp -implicitDefEqProofs [trim_tl, hl1, hl2]
      refine (parse_c s h (by omega)).mono ?_
      rintro v h' ⟨rfl, ⟨n, hp, rfl⟩ | ⟨hp, k, rfl⟩⟩
      · rw [rd_parse hp h18]
        have hb := Lib.parseIntB_bounds hp
        have h64 : in64 n := by unfold in64; omega
        have h64a := h64.1
        have h64b := h64.2
        refine gK.go ?_
        by_cases he : Lib.itoa n = s
        · simp -implicitDefEqProofs [he, h64a, h64b]
        · simp -implicitDefEqProofs [he, h64a, h64b]
      · rw [rd_parse_no hp]
        refine gK.go ?_
        simp -implicitDefEqProofs
noncomputable def o_ReadDecimal : List AV → Option (Prop × AV) := tab (fun (x : Txt) => match x with | s => [.str s]) (fun x => match x with | s => s.length ≤ 1048576) (fun x => match x with | s => .tup [.int .i64 (rd s).1, .bool (rd s).2])
@[simp] theorem o_ReadDecimal_e (s : Txt) : o_ReadDecimal [.str s] = some (s.length ≤ 1048576, .tup [.int .i64 (rd s).1, .bool (rd s).2]) := tab_at (enc := fun (x : Txt) => match x with | s => [.str s]) (fun x y h => by
  simp at h; simp [h] <;> omega) _ _ s
theorem o_ReadDecimal_k : Knows Tryz.prog 28 o_ReadDecimal := tab_knows fun x hx h => by
  exact ReadDecimal_c x h hx

noncomputable def orcRa2 : List (Nat × (List AV → Option (Prop × AV))) := []
theorem orcRa2_p : Pure Tryz.prog (lk orcRa2) := lk_pure0
@[simp] theorem orcRa2_l (b : Bool) (g : FuncId) (l : List AV) : lk orcRa2 b g l = none := nr rfl
theorem u8_sm : ∀ d < 10, IntKind.u8.wrap (d : Nat) = (d : Int) := by decide

/-- How far the text has been divided. -/
structure Cut1 (c : UInt8) (s : Txt) (i f : Nat) (P : List Txt) : Prop where
  le : f ≤ i
  hi : i ≤ s.length
  eq : spl c s = P ++ spl c (s.drop f)
  no : c ∉ (s.take i).drop f
  len : P.length ≤ i
theorem Cut1.hit {c : UInt8} {s : Txt} {i f : Nat} {P : List Txt} (H : Cut1 c s i f P) (hi : i < s.length) (hc : s[i] = c) : Cut1 c s (i + 1) (i + 1) (P ++ [(s.take i).drop f]) := by
  refine ⟨Nat.le_refl _, hi, ?_, by simp, by have := H.len; simp; omega⟩
  have e : s.drop f = (s.take i).drop f ++ c :: s.drop (i + 1) := by
    rw [← hc, ← List.drop_eq_getElem_cons hi]
    conv => lhs; rw [← List.take_append_drop i s]
    rw [List.drop_append_of_le_length (by rw [List.length_take]; have := H.le; omega)]
  rw [H.eq, e, spl_snoc c _ _ H.no, List.append_assoc]
  rfl
theorem Cut1.miss {c : UInt8} {s : Txt} {i f : Nat} {P : List Txt} (H : Cut1 c s i f P) (hi : i < s.length) (hc : ¬ s[i] = c) : Cut1 c s (i + 1) f P := by
  refine ⟨by have := H.le; omega, hi, H.eq, ?_, by have := H.len; omega⟩
  rw [List.take_succ_eq_append_getElem hi, List.drop_append_of_le_length (by rw [List.length_take]; have := H.le; omega)]
  intro hm
  rcases List.mem_append.1 hm with hm | hm
  · exact H.no hm
  · exact hc (List.mem_singleton.1 hm).symm
theorem Cut1.fin {c : UInt8} {s : Txt} {f : Nat} {P : List Txt} (H : Cut1 c s s.length f P) : spl c s = P ++ [s.drop f] := by
  have := H.no
  rw [List.take_length] at this
  rw [H.eq, spl_one c _ this]

end Go.AG
namespace Go.AG
open Go.Proofs Go.Proofs.YtgofekmoimjcmaaGreatDoor
set_option linter.unusedSimpArgs false
set_option linter.unusedVariables false
set_option maxRecDepth 4000
theorem rdnil : rd [] = (0, false) := rd_len (.inl (by simp [tl]))
theorem rdtrue {s : Txt} (h : (rd s).2 = true) : s = Lib.itoa (rd s).1 := (rd_spec (n := (rd s).1) (by rw [← h])).1
/-- All is as a list's text must be. -/
def rlG (s : Txt) : Prop := s = [45] ∨ ((spl 44 s).length ≤ 64 ∧ ∀ w ∈ spl 44 s, (rd w).2 = true ∧ valI (rd w).1)
noncomputable instance (s : Txt) : Decidable (rlG s) := Classical.propDecidable _
noncomputable def rlM (s : Txt) : List Int := (spl 44 s).map fun w => (rd w).1
noncomputable def rlO (s : Txt) : Bool := decide (rlG s)
noncomputable def rlL (s : Txt) : List Int := if rlG s then (if s = [45] then [] else rlM s) else []
theorem rl_dash : rlL [45] = [] ∧ rlO [45] = true := by
  have h : rlG [45] := .inl rfl
  unfold rlL rlO
  rw [if_pos h, decide_eq_true h, if_pos rfl]; exact ⟨rfl, rfl⟩
theorem rl_good {s : Txt} (h0 : s ≠ [45]) (h1 : (spl 44 s).length ≤ 64) (h2 : ∀ w ∈ spl 44 s, (rd w).2 = true ∧ valI (rd w).1) : rlL s = rlM s ∧ rlO s = true := by
  have h : rlG s := .inr ⟨h1, h2⟩
  unfold rlL rlO
  rw [if_pos h, decide_eq_true h, if_neg h0]; exact ⟨rfl, rfl⟩
theorem rl_bad {s : Txt} (h : ¬ rlG s) : rlL s = [] ∧ rlO s = false := by
  unfold rlL rlO
  rw [if_neg h, decide_eq_false h]; exact ⟨rfl, rfl⟩
theorem rl_bad1 {s : Txt} (h0 : s ≠ [45]) (h : 64 < (spl 44 s).length) : rlL s = [] ∧ rlO s = false := rl_bad fun g => by
  rcases g with g | g
  · exact h0 g
  · omega
theorem rl_bad2 {s : Txt} (h0 : s ≠ [45]) {w : Txt} (hw : w ∈ spl 44 s) (hb : ¬ ((rd w).2 = true ∧ valI (rd w).1)) : rlL s = [] ∧ rlO s = false := rl_bad fun g => by
  rcases g with g | g
  · exact h0 g
  · exact hb (g.2 w hw)
noncomputable instance (l : List Int) : Decidable (l.length ≤ 64 ∧ ∀ n ∈ l, valI n) := Classical.propDecidable _
/-- The text of a list, or nothing. -/
noncomputable def lstX (l : List Int) : Txt := if l.length ≤ 64 ∧ ∀ n ∈ l, valI n then lstT l else []
theorem rlM_ne (s : Txt) : rlM s ≠ [] := by unfold rlM; simpa using spl_ne 44 s
theorem rlM_txt {s : Txt} (h : ∀ w ∈ spl 44 s, (rd w).2 = true) : lstT (rlM s) = s := by
  unfold lstT
  rw [if_neg (rlM_ne s)]
  have : (rlM s).map Lib.itoa = spl 44 s := by
    unfold rlM
    rw [List.map_map]
    conv => rhs; rw [← List.map_id (spl 44 s)]
    exact List.map_congr_left fun w hw => (rdtrue (h w hw)).symm
  rw [this, spl_join]
theorem it44 (n : Int) : (44 : UInt8) ∉ Lib.itoa n := itoa_no (by decide) (by decide)
theorem spl_lst {l : List Int} (h : l ≠ []) : spl 44 (lstT l) = l.map Lib.itoa := by
  unfold lstT
  rw [if_neg h]
  exact join_spl 44 _ (by simpa using h) (fun x hx => by
    obtain ⟨n, _, rfl⟩ := List.mem_map.1 hx
    exact it44 n)
theorem valI18 {n : Int} (h : valI n) : in18 n := by unfold valI at h; unfold in18; omega
theorem rd_val' {n : Int} (h : valI n) : rd (Lib.itoa n) = (n, true) := rd_some rfl (valI18 h)
/-- The list that is read is printed as it was: just if all is good. -/
theorem rl_iff {s : Txt} (h0 : s ≠ [45]) : lstX (rlM s) = s ↔ rlG s := by
  constructor
  · intro h
    unfold lstX at h
    split at h
    · rename_i hv
      refine .inr ⟨by have := hv.1; unfold rlM at this; simpa using this, fun w hw => ?_⟩
      have hs := spl_lst (rlM_ne s)
      rw [h] at hs
      rw [hs] at hw
      obtain ⟨n, hn, rfl⟩ := List.mem_map.1 hw
      rw [rd_val' (hv.2 n hn)]
      exact ⟨rfl, hv.2 n hn⟩
    · rename_i hv
      exfalso
      apply hv
      have e : rlM s = [0] := by rw [← h]; unfold rlM; simp [spl, rdnil]
      rw [e]
      refine ⟨by simp, fun n hn => ?_⟩
      obtain rfl := List.mem_singleton.1 hn
      unfold valI; omega
  · intro g
    rcases g with g | ⟨g1, g2⟩
    · exact absurd g h0
    · unfold lstX
      rw [if_pos ⟨by unfold rlM; simpa using g1, fun n hn => by
        unfold rlM at hn
        obtain ⟨w, hw, rfl⟩ := List.mem_map.1 hn
        exact (g2 w hw).2⟩]
      exact rlM_txt fun w hw => (g2 w hw).1
/-! ## The reference -/
noncomputable def orcRl1 : List (Nat × (List AV → Option (Prop × AV))) := (64, o_l00In) :: []
theorem orcRl1_p : Pure Tryz.prog (lk orcRl1) := (lk_pure o_l00In_k lk_pure0)
@[simp] theorem orcRl1_l (b : Bool) (g : FuncId) (l : List AV) : lk orcRl1 b g l = if g = 64 then o_l00In l else none := nr rfl
/-! ## The program -/
theorem ListTextX_c (l : List Int) (h : Heap) (hl : l.length ≤ 1048576 * 2) (h64 : ∀ n ∈ l, in64 n) : ACalls Tryz.prog 31 [.snap 1 (l.map iv)] h (fun v h' => v = .str (lstX l) ∧ h' = h) := by
  by_cases hv : l.length ≤ 64 ∧ ∀ n ∈ l, valI n
  · have e : lstX l = lstT l := by unfold lstX; rw [if_pos hv]
    rw [e]
    exact ListText_c l h hv.1 hv.2
  · have e : lstX l = [] := by unfold lstX; rw [if_neg hv]
    rw [e]
    refine k31_of rfl orcSb3_p fun I => ?_
    by_cases hn : 64 < l.length
    · have hni : (64 : Int) < l.length := by omega
      refine Run2.of I 1000 ?_
      simp -implicitDefEqProofs [hni]
      exact .base ⟨rfl, rfl⟩
    · have hni : ¬ (64 : Int) < l.length := by omega
      have hcf := fun H => ContainsFunc_s l 59 [] (fun n => !(decide (-1000000000000 ≤ n) && decide (n ≤ 1000000000000))) H (by omega) fun a _ => ListText1_c a H
      have hyes : (l.any fun n => !(decide (-1000000000000 ≤ n) && decide (n ≤ 1000000000000))) = true := by
        rw [List.any_eq_true]
        have hx : ¬ ∀ n ∈ l, valI n := fun q => hv ⟨by omega, q⟩
        have hy : ∃ n ∈ l, ¬ valI n := by
          apply Classical.byContradiction
          intro hno
          exact hx fun n hn => Classical.byContradiction fun hq => hno ⟨n, hn, hq⟩
        obtain ⟨n, h1, h2⟩ := hy
        refine ⟨n, h1, ?_⟩
        unfold valI at h2
        simp only [Bool.not_eq_true', Bool.and_eq_false_iff, decide_eq_false_iff_not]
        omega
      refine Run2.of I 1000 ?_
      simp -implicitDefEqProofs [hni]
      refine (hcf _).mono ?_
      rw [hyes]
      rintro v h' ⟨e1, e2⟩
      rw [e1, e2]
      clear hcf hyes e1 e2
      refine gK.go ?_
      simp -implicitDefEqProofs [hni]
      exact .base ⟨rfl, rfl⟩
theorem ListTextX_g {w : AV} {l : List Int} {hp : Heap} (G : Grow 1 w (l.map iv) hp) (h : Heap) (hl : l.length ≤ 1048576 * 2) (h64 : ∀ n ∈ l, in64 n) : ACalls Tryz.prog 31 [w] (hp ++ h) (fun v h' => v = .str (lstX l) ∧ h' = hp ++ h) := by
  refine ACalls.reads hp (fun p hp' => List.mem_append_left _ hp') ?_ rfl
  rw [lend_cons, lend_nil']
  exact ACalls.wk (.cons G.lentWkS .nil) (ListTextX_c l [] hl h64)
noncomputable def orcRl2 : List (Nat × (List AV → Option (Prop × AV))) := (26, o_split) :: (28, o_ReadDecimal) :: []
theorem orcRl2_p : Pure Tryz.prog (lk orcRl2) := (lk_pure o_split_k (lk_pure o_ReadDecimal_k lk_pure0))
@[simp] theorem orcRl2_l (b : Bool) (g : FuncId) (l : List AV) : lk orcRl2 b g l = if g = 26 then o_split l else if g = 28 then o_ReadDecimal l else none := nr rfl
abbrev k29_o0 : List AJ := [.o ⟨(some 2), none, false, .mv (.c .nilsl), none⟩, .o ⟨(some 3), none, false, .mv (.c (.bool false)), (some [0])⟩]
abbrev k29_o1 : List AJ := [.o ⟨(some 9), none, false, .mv (.t 0), none⟩, .o ⟨(some 10), none, false, .bin .eql (.t 9) (.c (.str [45])), (some [0, 10])⟩]
abbrev k29_o2 : List AJ := [.o ⟨(some 2), none, false, .mv (.c .nilsl), none⟩, .o ⟨(some 3), none, false, .mv (.c (.bool true)), (some [2, 3])⟩]
def k29_3 : ACode := .seq (.region k29_o2) .ret
def k29_4 : ACode := .cond (.t 10) k29_3 .skip
def k29_5 : ACode := .seq (.region k29_o1) k29_4
abbrev k29_o3 : List AJ := [.o ⟨(some 4), none, false, .mv (.c .nilsl), (some [0, 4])⟩]
abbrev k29_o4 : List AJ := [.o ⟨(some 11), none, false, .mv (.t 0), none⟩, .o ⟨(some 12), none, false, .call 26 [(.t 11), (.c (.str [44]))], none⟩, .o ⟨(some 13), none, false, .len (.t 12), none⟩, .o ⟨(some 14), none, false, .mv (.c (.int .i64 0)), (some [0, 4, 12, 13, 14])⟩]
abbrev k29_o5 : List AJ := [.o ⟨(some 15), none, false, .bin .lss (.t 14) (.t 13), (some [0, 4, 12, 13, 14, 15])⟩]
abbrev k29_o6 : List AJ := [.o ⟨(some 16), none, false, .idxA 1 (.t 12) (.t 14), none⟩, .o ⟨(some 17), none, false, .load 1 false (.t 16), none⟩, .o ⟨(some 6), none, false, .mv (.t 17), (some [0, 4, 6, 12, 13, 14])⟩]
abbrev k29_o7 : List AJ := [.o ⟨(some 19), none, false, .mv (.t 6), none⟩, .o ⟨(some 20), none, false, .call 28 [(.t 19)], none⟩, .o ⟨(some 18), none, false, .mv (.t 20), none⟩, .o ⟨(some 21), none, false, .extract (.t 18) 0, none⟩, .o ⟨(some 22), none, false, .extract (.t 18) 1, none⟩, .o ⟨(some 7), none, false, .mv (.t 21), none⟩, .o ⟨(some 8), none, false, .mv (.t 22), (some [0, 4, 7, 12, 13, 14])⟩]
abbrev k29_o8 : List AJ := [.o ⟨(some 23), none, false, .mv (.t 4), none⟩, .o ⟨(some 24), none, false, .mv (.t 7), none⟩, .o ⟨(some 25), none, false, .bsl false 1 [(.t 24)], none⟩, .o ⟨(some 26), none, false, .append 1 8 (.t 23) (.t 25), none⟩, .o ⟨(some 4), none, false, .mv (.t 26), (some [0, 4, 12, 13, 14])⟩]
def k29_12 : ACode := .region k29_o8
def k29_13 : ACode := .seq (.region k29_o7) k29_12
def k29_14 : ACode := .seq (.region k29_o6) k29_13
abbrev k29_o9 : List AJ := [.o ⟨(some 27), none, true, .bin .add (.t 14) (.c (.int .i64 1)), none⟩, .o ⟨(some 14), none, false, .mv (.t 27), (some [0, 4, 12, 13, 14])⟩]
def k29_16 : ACode := .region k29_o9
def k29_17 : ACode := .seq (.block 1 k29_14) k29_16
def k29_18 : ACode := .seq (.cond (.t 15) .skip (.exit 0)) k29_17
def k29_19 : ACode := .seq (.region k29_o5) k29_18
def k29_20 : ACode := .loop k29_19
def k29_21 : ACode := .block 0 k29_20
def k29_22 : ACode := .seq (.region k29_o4) k29_21
abbrev k29_o10 : List AJ := [.o ⟨(some 28), none, false, .mv (.t 4), none⟩, .o ⟨(some 29), none, false, .call 31 [(.t 28)], none⟩, .o ⟨(some 30), none, false, .mv (.t 0), none⟩, .o ⟨(some 31), none, false, .bin .neq (.t 29) (.t 30), (some [4, 31])⟩]
abbrev k29_o11 : List AJ := [.o ⟨(some 2), none, false, .mv (.c .nilsl), none⟩, .o ⟨(some 3), none, false, .mv (.c (.bool false)), (some [2, 3])⟩]
def k29_25 : ACode := .seq (.region k29_o11) .ret
def k29_26 : ACode := .cond (.t 31) k29_25 .skip
def k29_27 : ACode := .seq (.region k29_o10) k29_26
abbrev k29_o12 : List AJ := [.o ⟨(some 32), none, false, .mv (.t 4), none⟩, .o ⟨(some 2), none, false, .mv (.t 32), none⟩, .o ⟨(some 3), none, false, .mv (.c (.bool true)), (some [2, 3])⟩]
def k29_29 : ACode := .seq (.region k29_o12) .ret
def k29_30 : ACode := .seq k29_27 k29_29
def k29_31 : ACode := .seq k29_22 k29_30
def k29_32 : ACode := .seq (.region k29_o3) k29_31
def k29_33 : ACode := .seq k29_5 k29_32
def k29_34 : ACode := .seq (.region k29_o0) k29_33
@[simp, simp ↓] theorem k29_3r : sR k29_3 k29_o2 .ret := yR rfl
@[simp, simp ↓] theorem k29_4r : rC k29_4 (.t 10) k29_3 .skip := zC rfl
@[simp, simp ↓] theorem k29_5r : sR k29_5 k29_o1 k29_4 := yR rfl
@[simp, simp ↓] theorem k29_12r : rR k29_12 k29_o8 := zR rfl
@[simp, simp ↓] theorem k29_13r : sR k29_13 k29_o7 k29_12 := yR rfl
@[simp, simp ↓] theorem k29_14r : sR k29_14 k29_o6 k29_13 := yR rfl
@[simp, simp ↓] theorem k29_16r : rR k29_16 k29_o9 := zR rfl
@[simp, simp ↓] theorem k29_17r : sB k29_17 1 k29_14 k29_16 := yB rfl
@[simp, simp ↓] theorem k29_18r : sC k29_18 (.t 15) .skip (.exit 0) k29_17 := yC rfl
@[simp, simp ↓] theorem k29_19r : sR k29_19 k29_o5 k29_18 := yR rfl
@[simp, simp ↓] theorem k29_20r : rL k29_20 k29_19 := zL rfl
@[simp, simp ↓] theorem k29_21r : rB k29_21 0 k29_20 := zB rfl
@[simp, simp ↓] theorem k29_22r : sR k29_22 k29_o4 k29_21 := yR rfl
@[simp, simp ↓] theorem k29_25r : sR k29_25 k29_o11 .ret := yR rfl
@[simp, simp ↓] theorem k29_26r : rC k29_26 (.t 31) k29_25 .skip := zC rfl
@[simp, simp ↓] theorem k29_27r : sR k29_27 k29_o10 k29_26 := yR rfl
@[simp, simp ↓] theorem k29_29r : sR k29_29 k29_o12 .ret := yR rfl
@[simp, simp ↓] theorem k29_30r : rS k29_30 k29_27 k29_29 := zS rfl
@[simp, simp ↓] theorem k29_31r : rS k29_31 k29_22 k29_30 := zS rfl
@[simp, simp ↓] theorem k29_32r : sR k29_32 k29_o3 k29_31 := yR rfl
@[simp, simp ↓] theorem k29_33r : rS k29_33 k29_5 k29_32 := zS rfl
@[simp, simp ↓] theorem k29_34r : sR k29_34 k29_o0 k29_33 := yR rfl
noncomputable abbrev k29_C : Orc → Cx := mkC Tryz.prog [] 29 33 [.tmp 2, .tmp 3]
theorem k29_of : OfP Tryz.prog Tryz.f29 29 33 k29_C k29_34 := @ofP _ _ _ _ _ _ _ _ Tryz.func29 (by decide +kernel) rfl (by kernel_rfl) rfl (by kernel_rfl)
theorem implRL_c (s : Txt) (h : Heap) (hs : s.length ≤ 1048576) : ACalls Tryz.prog 29 [.str s] h (fun v h' => v = .tup [.snap 1 ((rlL s).map iv), .bool (rlO s)] ∧ h' = h) := by
  refine k29_of rfl orcRl2_p fun I => ?_
  by_cases h0 : s = [45]
  · rw [h0, rl_dash.1, rl_dash.2]
    refine Run2.of I 1000 ?_
    simp -implicitDefEqProofs
    exact .wk (Wk.tup (.cons (Wk.nil 1) (.cons (.refl _) .nil))) (.base ⟨rfl, rfl⟩)
  · have hmem : ∀ i (hi : i < (spl 44 s).length), (spl 44 s)[i] ∈ spl 44 s := fun i hi => List.getElem_mem hi
    have hlen : ∀ w ∈ spl 44 s, List.length w ≤ 1048576 := fun w hw => Nat.le_trans (spl_le 44 s w hw) hs
    have hmany := spl_many 44 s
    have hM : rlM s = (spl 44 s).map fun w => (rd w).1 := rfl
    have hiff := rl_iff h0
    have hbad := rl_bad (s := s)
    have hgood : rlG s → rlL s = rlM s ∧ rlO s = true := fun g => by
      unfold rlL rlO
      rw [if_pos g, decide_eq_true g, if_neg h0]; exact ⟨rfl, rfl⟩
    have hs2 : s.length < 4294967281 := by omega
    rw [hM] at hiff hgood
    refine Run2.of I 1000 ?_
    simp -implicitDefEqProofs [h0, hs2]
    have hWne := spl_ne 44 s
    generalize spl 44 s = W at *
    refine Run2.loopE (α := Nat × AV × Heap) (fun p => [(0, .str s), (4, p.2.1), (12, .snap 1 (W.map sv)), (13, .int .i64 W.length), (14, .int .i64 (p.1 : Nat))]) (fun p => p.2.2 ++ h) (fun p => W.length - p.1) (fun p => p.1 ≤ W.length ∧ Grow 1 p.2.1 (((W.take p.1).map fun w => (rd w).1).map iv) p.2.2) (0, .nilsl, []) (by simp) rfl ⟨Nat.zero_le _, .nil⟩ ?_
    rintro ⟨i, u, hp⟩ ⟨hi, hg⟩ ih
    simp only at hi hg
    have hcell := hg.cell
    by_cases hlt : i < W.length
    · have hwl := hlen _ (hmem i hlt)
      have go := fun u' hp' (g : Grow 1 u' (((W.take i).map fun w => (rd w).1).map iv ++ [iv (rd W[i]).1]) hp') => ih (i + 1, u', hp') ⟨hlt, by
        show Grow 1 u' (((W.take (i + 1)).map fun w => (rd w).1).map iv) hp'
        rw [List.take_succ_eq_append_getElem hlt]
        simpa only [List.map_append, List.map_cons, List.map_nil] using g⟩ (by omega)
      clear ih hgood hbad
      generalize hti : W[i] = x at *
      refine Run2.of I 1000 ?_
      simp -implicitDefEqProofs [hlt, hti, hcell, hwl]
      refine hg.app (by simp; omega) (by simp) fun u2 hp2 hg2 => ?_
      have hcell2 := hg2.cell
      have := go u2 hp2 hg2
      simp -implicitDefEqProofs [hcell2]
      exact ⟨by omega, by simpa using this⟩
    · obtain rfl : i = W.length := by omega
      rw [List.take_length] at hg
      have hLl : (W.map fun w => (rd w).1).length ≤ 1048576 * 2 := by rw [List.length_map]; omega
      have hL64 : ∀ n ∈ (W.map fun w => (rd w).1), in64 n := fun n hn => by
        obtain ⟨w, _, rfl⟩ := List.mem_map.1 hn
        have := rd_in w
        unfold in18 at this
        unfold in64; omega
      have htx := ListTextX_g hg h hLl hL64
      have hLne : (W.map fun w => (rd w).1) ≠ [] := by simpa using hWne
      clear ih
      generalize (W.map fun w => (rd w).1) = L at *
      by_cases ht : lstX L = s
      · obtain ⟨e1, e2⟩ := hgood (hiff.1 ht)
        rw [e1, e2]
        rw [ht] at htx
        refine Run2.of I 1000 ?_
        simp -implicitDefEqProofs [hlt, hcell]
        first | refine dcallK (htx) ?_ | (refine (htx).mono ?_; rintro v h' ⟨rfl, rfl⟩; refine gK.go ?_)
        simp -implicitDefEqProofs [hcell]
        obtain ⟨id, rfl, rfl⟩ := hg.ne (by simpa using hLne)
        refine .freeze id (by simp; rfl) (.base ?_)
        simp [List.take_of_length_le]
      · obtain ⟨e1, e2⟩ := hbad (fun g => ht (hiff.2 g))
        rw [e1, e2]
        refine Run2.of I 1000 ?_
        simp -implicitDefEqProofs [hlt, hcell]
        first | refine dcallK (htx) ?_ | (refine (htx).mono ?_; rintro v h' ⟨rfl, rfl⟩; refine gK.go ?_)
        simp -implicitDefEqProofs [hcell, ht]
        exact .wk (Wk.tup (.cons (Wk.nil 1) (.cons (.refl _) .nil))) (Post.dropAll rfl (.base ⟨rfl, rfl⟩))
noncomputable def o_ReadListI : List AV → Option (Prop × AV) := tab (fun (x : Txt) => match x with | s => [.str s]) (fun x => match x with | s => s.length ≤ 1048576) (fun x => match x with | s => .tup [.snap 1 ((rlL s).map iv), .bool (rlO s)])
@[simp] theorem o_ReadListI_e (s : Txt) : o_ReadListI [.str s] = some (s.length ≤ 1048576, .tup [.snap 1 ((rlL s).map iv), .bool (rlO s)]) := tab_at (enc := fun (x : Txt) => match x with | s => [.str s]) (fun x y h => by
  simp at h; simp [h] <;> omega) _ _ s
theorem o_ReadListI_k : Knows Tryz.prog 29 o_ReadListI := tab_knows fun x hx h => by
  exact implRL_c x h hx

end Go.AG
