/- Lists of numbers read from a text: the program and the reference. No statement is made here. -/
import Derived.Test.YtiahlbbljmngnaaDoorRdA
namespace Go.AG
open Go.Proofs Go.Proofs.YtiahlbbljmngnaaDoor
set_option linter.unusedSimpArgs false
set_option linter.unusedVariables false
set_option maxRecDepth 4000
theorem rdnil : rd [] = (0, false) := rd_len (.inl (by simp [tl]))
theorem rdtrue {s : Txt} (h : (rd s).2 = true) : s = Lib.itoa (rd s).1 := (rd_spec (n := (rd s).1) (by rw [← h])).1
/-- All is as a list's text must be. -/
def rlG (s : Txt) : Prop := s = [45] ∨ ((spl 44 s).length ≤ 64 ∧ ∀ w ∈ spl 44 s, (rd w).2 = true ∧ valI (rd w).1)
noncomputable instance (s : Txt) : Decidable (rlG s) := Classical.propDecidable _
noncomputable def rlM (s : Txt) : List Int := (spl 44 s).map fun w => (rd w).1
noncomputable def rlO (s : Txt) : Bool := decide (rlG s)
noncomputable def rlL (s : Txt) : List Int := if rlG s then (if s = [45] then [] else rlM s) else []
theorem rl_dash : rlL [45] = [] ∧ rlO [45] = true := by
  have h : rlG [45] := .inl rfl
  unfold rlL rlO
  rw [if_pos h, decide_eq_true h, if_pos rfl]; exact ⟨rfl, rfl⟩
theorem rl_good {s : Txt} (h0 : s ≠ [45]) (h1 : (spl 44 s).length ≤ 64) (h2 : ∀ w ∈ spl 44 s, (rd w).2 = true ∧ valI (rd w).1) : rlL s = rlM s ∧ rlO s = true := by
  have h : rlG s := .inr ⟨h1, h2⟩
  unfold rlL rlO
  rw [if_pos h, decide_eq_true h, if_neg h0]; exact ⟨rfl, rfl⟩
theorem rl_bad {s : Txt} (h : ¬ rlG s) : rlL s = [] ∧ rlO s = false := by
  unfold rlL rlO
  rw [if_neg h, decide_eq_false h]; exact ⟨rfl, rfl⟩
theorem rl_bad1 {s : Txt} (h0 : s ≠ [45]) (h : 64 < (spl 44 s).length) : rlL s = [] ∧ rlO s = false := rl_bad fun g => by
  rcases g with g | g
  · exact h0 g
  · omega
theorem rl_bad2 {s : Txt} (h0 : s ≠ [45]) {w : Txt} (hw : w ∈ spl 44 s) (hb : ¬ ((rd w).2 = true ∧ valI (rd w).1)) : rlL s = [] ∧ rlO s = false := rl_bad fun g => by
  rcases g with g | g
  · exact h0 g
  · exact hb (g.2 w hw)
noncomputable instance (l : List Int) : Decidable (l.length ≤ 64 ∧ ∀ n ∈ l, valI n) := Classical.propDecidable _
/-- The text of a list, or nothing. -/
noncomputable def lstX (l : List Int) : Txt := if l.length ≤ 64 ∧ ∀ n ∈ l, valI n then lstT l else []
theorem rlM_ne (s : Txt) : rlM s ≠ [] := by unfold rlM; simpa using spl_ne 44 s
theorem rlM_txt {s : Txt} (h : ∀ w ∈ spl 44 s, (rd w).2 = true) : lstT (rlM s) = s := by
  unfold lstT
  rw [if_neg (rlM_ne s)]
  have : (rlM s).map Lib.itoa = spl 44 s := by
    unfold rlM
    rw [List.map_map]
    conv => rhs; rw [← List.map_id (spl 44 s)]
    exact List.map_congr_left fun w hw => (rdtrue (h w hw)).symm
  rw [this, spl_join]
theorem it44 (n : Int) : (44 : UInt8) ∉ Lib.itoa n := itoa_no (by decide) (by decide)
theorem spl_lst {l : List Int} (h : l ≠ []) : spl 44 (lstT l) = l.map Lib.itoa := by
  unfold lstT
  rw [if_neg h]
  exact join_spl 44 _ (by simpa using h) (fun x hx => by
    obtain ⟨n, _, rfl⟩ := List.mem_map.1 hx
    exact it44 n)
theorem valI18 {n : Int} (h : valI n) : in18 n := by unfold valI at h; unfold in18; omega
theorem rd_val' {n : Int} (h : valI n) : rd (Lib.itoa n) = (n, true) := rd_some rfl (valI18 h)
/-- The list that is read is printed as it was: just if all is good. -/
theorem rl_iff {s : Txt} (h0 : s ≠ [45]) : lstX (rlM s) = s ↔ rlG s := by
  constructor
  · intro h
    unfold lstX at h
    split at h
    · rename_i hv
      refine .inr ⟨by have := hv.1; unfold rlM at this; simpa using this, fun w hw => ?_⟩
      have hs := spl_lst (rlM_ne s)
      rw [h] at hs
      rw [hs] at hw
      obtain ⟨n, hn, rfl⟩ := List.mem_map.1 hw
      rw [rd_val' (hv.2 n hn)]
      exact ⟨rfl, hv.2 n hn⟩
    · rename_i hv
      exfalso
      apply hv
      have e : rlM s = [0] := by rw [← h]; unfold rlM; simp [spl, rdnil]
      rw [e]
      refine ⟨by simp, fun n hn => ?_⟩
      obtain rfl := List.mem_singleton.1 hn
      unfold valI; omega
  · intro g
    rcases g with g | ⟨g1, g2⟩
    · exact absurd g h0
    · unfold lstX
      rw [if_pos ⟨by unfold rlM; simpa using g1, fun n hn => by
        unfold rlM at hn
        obtain ⟨w, hw, rfl⟩ := List.mem_map.1 hn
        exact (g2 w hw).2⟩]
      exact rlM_txt fun w hw => (g2 w hw).1
/-! ## The reference -/
noncomputable def orcRl1 : List (Nat × (List AV → Option (Prop × AV))) := (15, o_l01Split) :: (24, o_l01Number) :: (33, o_l00In) :: []
theorem orcRl1_p : Pure Tryd.prog (lk orcRl1) := (lk_pure o_l01Split_k (lk_pure o_l01Number_k (lk_pure o_l00In_k lk_pure0)))
@[simp] theorem orcRl1_l (b : Bool) (g : FuncId) (l : List AV) : lk orcRl1 b g l = if g = 15 then o_l01Split l else if g = 24 then o_l01Number l else if g = 33 then o_l00In l else none := nr rfl
abbrev k25_o0 : List AJ := [.o ⟨(some 2), none, false, .mv (.c .nilsl), none⟩, .o ⟨(some 3), none, false, .mv (.c (.bool false)), (some [0])⟩]
abbrev k25_o1 : List AJ := [.o ⟨(some 9), none, false, .mv (.t 0), none⟩, .o ⟨(some 10), none, false, .bin .eql (.t 9) (.c (.str [45])), (some [0, 10])⟩]
abbrev k25_o2 : List AJ := [.o ⟨(some 11), none, false, .bsl false 1 [], none⟩, .o ⟨(some 2), none, false, .mv (.t 11), none⟩, .o ⟨(some 3), none, false, .mv (.c (.bool true)), (some [2, 3])⟩]
def k25_3 : ACode := .seq (.region k25_o2) .ret
def k25_4 : ACode := .cond (.t 10) k25_3 .skip
def k25_5 : ACode := .seq (.region k25_o1) k25_4
abbrev k25_o3 : List AJ := [.o ⟨(some 12), none, false, .mv (.t 0), none⟩, .o ⟨(some 13), none, false, .call 15 [(.t 12), (.c (.int .u8 44))], none⟩, .o ⟨(some 4), none, false, .mv (.t 13), (some [4])⟩]
abbrev k25_o4 : List AJ := [.o ⟨(some 14), none, false, .mv (.t 4), none⟩, .o ⟨(some 15), none, false, .len (.t 14), none⟩, .o ⟨(some 16), none, false, .bin .gtr (.t 15) (.c (.int .i64 64)), (some [4, 16])⟩]
abbrev k25_o5 : List AJ := [.o ⟨(some 2), none, false, .mv (.c .nilsl), none⟩, .o ⟨(some 3), none, false, .mv (.c (.bool false)), (some [2, 3])⟩]
def k25_9 : ACode := .seq (.region k25_o5) .ret
def k25_10 : ACode := .cond (.t 16) k25_9 .skip
def k25_11 : ACode := .seq (.region k25_o4) k25_10
abbrev k25_o6 : List AJ := [.e 17 1 none, .o ⟨(some 5), none, false, .mv (.t 17), (some [4, 5])⟩]
abbrev k25_o7 : List AJ := [.o ⟨(some 6), none, false, .mv (.c (.int .i64 0)), (some [4, 5, 6])⟩]
abbrev k25_o8 : List AJ := [.o ⟨(some 18), none, false, .mv (.t 6), none⟩, .o ⟨(some 19), none, false, .mv (.t 4), none⟩, .o ⟨(some 20), none, false, .len (.t 19), none⟩, .o ⟨(some 21), none, false, .bin .lss (.t 18) (.t 20), (some [4, 5, 6, 21])⟩]
def k25_15 : ACode := .cond (.t 21) .skip (.exit 0)
def k25_16 : ACode := .seq (.region k25_o8) k25_15
abbrev k25_o9 : List AJ := [.o ⟨(some 25), none, false, .mv (.t 4), none⟩, .o ⟨(some 26), none, false, .mv (.t 6), none⟩, .o ⟨(some 27), none, false, .idxA 1 (.t 25) (.t 26), none⟩, .o ⟨(some 28), none, false, .load 1 false (.t 27), none⟩, .o ⟨(some 29), none, false, .call 24 [(.t 28)], none⟩, .o ⟨(some 24), none, false, .mv (.t 29), none⟩, .o ⟨(some 30), none, false, .extract (.t 24) 0, none⟩, .o ⟨(some 31), none, false, .extract (.t 24) 1, none⟩, .o ⟨(some 7), none, false, .mv (.t 30), none⟩, .o ⟨(some 8), none, false, .mv (.t 31), (some [4, 5, 6, 7, 8])⟩]
abbrev k25_o10 : List AJ := [.o ⟨(some 32), none, false, .mv (.t 8), none⟩, .o ⟨(some 33), none, false, .un .not (.t 32), none⟩, .o ⟨(some 34), none, false, .mv (.t 33), none⟩, .o ⟨(some 35), (some (34, false)), false, .mv (.t 7), none⟩, .o ⟨(some 36), (some (34, false)), false, .call 33 [(.t 35), (.c (.int .i64 (-1000000000000))), (.c (.int .i64 1000000000000))], none⟩, .o ⟨(some 37), (some (34, false)), false, .un .not (.t 36), none⟩, .o ⟨(some 38), none, false, .pick (.t 34) (.c (.bool true)) (.t 37), (some [4, 5, 6, 7, 38])⟩]
abbrev k25_o11 : List AJ := [.o ⟨(some 2), none, false, .mv (.c .nilsl), none⟩, .o ⟨(some 3), none, false, .mv (.c (.bool false)), (some [2, 3])⟩]
def k25_20 : ACode := .seq (.region k25_o11) .ret
def k25_21 : ACode := .cond (.t 38) k25_20 .skip
def k25_22 : ACode := .seq (.region k25_o10) k25_21
abbrev k25_o12 : List AJ := [.o ⟨(some 39), none, false, .mv (.t 5), none⟩, .o ⟨(some 40), none, false, .mv (.t 7), none⟩, .o ⟨(some 41), none, false, .bsl false 1 [(.t 40)], none⟩, .o ⟨(some 42), none, false, .append 1 8 (.t 39) (.t 41), none⟩, .o ⟨(some 5), none, false, .mv (.t 42), (some [4, 5, 6])⟩]
def k25_23 : ACode := .region k25_o12
def k25_24 : ACode := .seq k25_22 k25_23
def k25_25 : ACode := .seq (.region k25_o9) k25_24
abbrev k25_o13 : List AJ := [.o ⟨(some 22), none, false, .mv (.t 6), none⟩, .o ⟨(some 23), none, true, .bin .add (.t 22) (.c (.int .i64 1)), none⟩, .o ⟨(some 6), none, false, .mv (.t 23), (some [4, 5, 6])⟩]
def k25_27 : ACode := .region k25_o13
def k25_28 : ACode := .seq (.block 1 k25_25) k25_27
def k25_29 : ACode := .seq k25_16 k25_28
def k25_30 : ACode := .loop k25_29
def k25_31 : ACode := .block 0 k25_30
def k25_32 : ACode := .seq (.region k25_o7) k25_31
abbrev k25_o14 : List AJ := [.o ⟨(some 43), none, false, .mv (.t 5), none⟩, .o ⟨(some 2), none, false, .mv (.t 43), none⟩, .o ⟨(some 3), none, false, .mv (.c (.bool true)), (some [2, 3])⟩]
def k25_34 : ACode := .seq (.region k25_o14) .ret
def k25_35 : ACode := .seq k25_32 k25_34
def k25_36 : ACode := .seq (.region k25_o6) k25_35
def k25_37 : ACode := .seq k25_11 k25_36
def k25_38 : ACode := .seq (.region k25_o3) k25_37
def k25_39 : ACode := .seq k25_5 k25_38
def k25_40 : ACode := .seq (.region k25_o0) k25_39
@[simp, simp ↓] theorem k25_3r : sR k25_3 k25_o2 .ret := yR rfl
@[simp, simp ↓] theorem k25_4r : rC k25_4 (.t 10) k25_3 .skip := zC rfl
@[simp, simp ↓] theorem k25_5r : sR k25_5 k25_o1 k25_4 := yR rfl
@[simp, simp ↓] theorem k25_9r : sR k25_9 k25_o5 .ret := yR rfl
@[simp, simp ↓] theorem k25_10r : rC k25_10 (.t 16) k25_9 .skip := zC rfl
@[simp, simp ↓] theorem k25_11r : sR k25_11 k25_o4 k25_10 := yR rfl
@[simp, simp ↓] theorem k25_15r : rC k25_15 (.t 21) .skip (.exit 0) := zC rfl
@[simp, simp ↓] theorem k25_16r : sR k25_16 k25_o8 k25_15 := yR rfl
@[simp, simp ↓] theorem k25_20r : sR k25_20 k25_o11 .ret := yR rfl
@[simp, simp ↓] theorem k25_21r : rC k25_21 (.t 38) k25_20 .skip := zC rfl
@[simp, simp ↓] theorem k25_22r : sR k25_22 k25_o10 k25_21 := yR rfl
@[simp, simp ↓] theorem k25_23r : rR k25_23 k25_o12 := zR rfl
@[simp, simp ↓] theorem k25_24r : rS k25_24 k25_22 k25_23 := zS rfl
@[simp, simp ↓] theorem k25_25r : sR k25_25 k25_o9 k25_24 := yR rfl
@[simp, simp ↓] theorem k25_27r : rR k25_27 k25_o13 := zR rfl
@[simp, simp ↓] theorem k25_28r : sB k25_28 1 k25_25 k25_27 := yB rfl
@[simp, simp ↓] theorem k25_29r : rS k25_29 k25_16 k25_28 := zS rfl
@[simp, simp ↓] theorem k25_30r : rL k25_30 k25_29 := zL rfl
@[simp, simp ↓] theorem k25_31r : rB k25_31 0 k25_30 := zB rfl
@[simp, simp ↓] theorem k25_32r : sR k25_32 k25_o7 k25_31 := yR rfl
@[simp, simp ↓] theorem k25_34r : sR k25_34 k25_o14 .ret := yR rfl
@[simp, simp ↓] theorem k25_35r : rS k25_35 k25_32 k25_34 := zS rfl
@[simp, simp ↓] theorem k25_36r : sR k25_36 k25_o6 k25_35 := yR rfl
@[simp, simp ↓] theorem k25_37r : rS k25_37 k25_11 k25_36 := zS rfl
@[simp, simp ↓] theorem k25_38r : sR k25_38 k25_o3 k25_37 := yR rfl
@[simp, simp ↓] theorem k25_39r : rS k25_39 k25_5 k25_38 := zS rfl
@[simp, simp ↓] theorem k25_40r : sR k25_40 k25_o0 k25_39 := yR rfl
noncomputable abbrev k25_C : Orc → Cx := mkC Tryd.prog [17] 25 44 [.tmp 2, .tmp 3]
theorem k25_of : OfP Tryd.prog Tryd.f25 25 44 k25_C k25_40 := @ofP _ _ _ _ _ _ _ _ Tryd.func25 (by decide +kernel) rfl (by kernel_rfl) rfl (by kernel_rfl)
theorem specRL_c (s : Txt) (h : Heap) (hs : s.length ≤ 1048576) : ACalls Tryd.prog 25 [.str s] h (fun v h' => v = .tup [.snap 1 ((rlL s).map iv), .bool (rlO s)] ∧ h' = h) := by
  refine k25_of rfl orcRl1_p fun I => ?_
  by_cases h0 : s = [45]
  · rw [h0, rl_dash.1, rl_dash.2]
    refine Run2.of I 1000 ?_
    simp -implicitDefEqProofs
    exact .base ⟨rfl, rfl⟩
  · have hmem : ∀ i (hi : i < (spl 44 s).length), (spl 44 s)[i] ∈ spl 44 s := fun i hi => List.getElem_mem hi
    have hlen : ∀ w ∈ spl 44 s, List.length w ≤ 1048576 := fun w hw => Nat.le_trans (spl_le 44 s w hw) hs
    have hgood := rl_good h0
    have hbad1 := rl_bad1 h0
    have hbad2 := fun w hw hb => rl_bad2 h0 (w := w) hw hb
    have hM : rlM s = (spl 44 s).map fun w => (rd w).1 := rfl
    by_cases h64 : 64 < (spl 44 s).length
    · rw [(hbad1 h64).1, (hbad1 h64).2]
      have h64i : (64 : Int) < (spl 44 s).length := by omega
      refine Run2.of I 1000 ?_
      simp -implicitDefEqProofs [h0, hs, h64i]
      exact .wk (Wk.tup (.cons (Wk.nil 1) (.cons (.refl _) .nil))) (.base ⟨rfl, rfl⟩)
    · have h64i : ¬ (64 : Int) < (spl 44 s).length := by omega
      refine Run2.of I 1000 ?_
      simp -implicitDefEqProofs [h0, hs, h64i]
      clear hbad1
      have hWne := spl_ne 44 s
      generalize spl 44 s = W at *
      refine Run2.loopE (α := Nat × AV × Heap) (fun p => [(4, .snap 1 (W.map sv)), (5, p.2.1), (6, .int .i64 (p.1 : Nat))]) (fun p => p.2.2 ++ h) (fun p => W.length - p.1) (fun p => p.1 ≤ W.length ∧ (∀ w ∈ W.take p.1, (rd w).2 = true ∧ valI (rd w).1) ∧ Grow 1 p.2.1 (((W.take p.1).map fun w => (rd w).1).map iv) p.2.2) (0, .emp, []) (by simp) rfl ⟨Nat.zero_le _, by simp, .emp⟩ ?_
      rintro ⟨i, u, hp⟩ ⟨hi, hok, hg⟩ ih
      simp only at hi hok hg
      have hcell := hg.cell
      by_cases hlt : i < W.length
      · have hwl := hlen _ (hmem i hlt)
        have hb1 := hbad2 _ (hmem i hlt)
        have go := fun (hw : (rd W[i]).2 = true ∧ valI (rd W[i]).1) u' hp' (g : Grow 1 u' (((W.take i).map fun w => (rd w).1).map iv ++ [iv (rd W[i]).1]) hp') => ih (i + 1, u', hp') ⟨hlt, fun w hm => by
          rw [List.take_succ_eq_append_getElem hlt] at hm
          rcases List.mem_append.1 hm with hm | hm
          · exact hok w hm
          · rw [List.mem_singleton.1 hm]; exact hw, by
          show Grow 1 u' (((W.take (i + 1)).map fun w => (rd w).1).map iv) hp'
          rw [List.take_succ_eq_append_getElem hlt]
          simpa only [List.map_append, List.map_cons, List.map_nil] using g⟩ (by omega)
        clear ih hbad2 hgood
        generalize hti : W[i] = x at *
        by_cases hx : (rd x).2 = true
        · by_cases hv : valI (rd x).1
          · have hva := hv.1
            have hvb := hv.2
            refine Run2.of I 1000 ?_
            simp -implicitDefEqProofs [hlt, hti, hcell, hwl, hx, hva, hvb]
            refine hg.app (by simp; omega) (by simp) fun u2 hp2 hg2 => ?_
            have hcell2 := hg2.cell
            have := go ⟨hx, hv⟩ u2 hp2 hg2
            simp -implicitDefEqProofs [hcell2]
            exact ⟨by omega, by simpa using this⟩
          · obtain ⟨e1, e2⟩ := hb1 (fun q => hv q.2)
            rw [e1, e2]
            have hv2 : (rd x).1 < -1000000000000 ∨ 1000000000000 < (rd x).1 := by unfold valI at hv; omega
            refine Run2.of I 1000 ?_
            simp -implicitDefEqProofs [hlt, hti, hcell, hwl, hx]
            exact ⟨fun _ => .wk (Wk.tup (.cons (Wk.nil 1) (.cons (.refl _) .nil))) (Post.dropAll rfl (.base ⟨rfl, rfl⟩)), fun a b => absurd ⟨a, b⟩ hv⟩
        · have hx2 : (rd x).2 = false := by simpa using hx
          obtain ⟨e1, e2⟩ := hb1 (fun q => hx q.1)
          rw [e1, e2]
          refine Run2.of I 1000 ?_
          simp -implicitDefEqProofs [hlt, hti, hcell, hwl, hx2]
          exact .wk (Wk.tup (.cons (Wk.nil 1) (.cons (.refl _) .nil))) (Post.dropAll rfl (.base ⟨rfl, rfl⟩))
      · obtain rfl : i = W.length := by omega
        rw [List.take_length] at hok hg
        obtain ⟨e1, e2⟩ := hgood (by omega) hok
        rw [e1, e2, hM]
        obtain ⟨id, rfl, rfl⟩ := hg.ne (by simpa using hWne)
        clear ih
        refine Run2.of I 1000 ?_
        simp -implicitDefEqProofs [hlt, hcell]
        refine .freeze id (by simp; rfl) (.base ?_)
        simp [List.take_of_length_le]
/-! ## The program -/
theorem ListTextX_c (l : List Int) (h : Heap) (hl : l.length ≤ 1048576 * 2) (h64 : ∀ n ∈ l, in64 n) : ACalls Tryd.prog 49 [.snap 1 (l.map iv)] h (fun v h' => v = .str (lstX l) ∧ h' = h) := by
  by_cases hv : l.length ≤ 64 ∧ ∀ n ∈ l, valI n
  · have e : lstX l = lstT l := by unfold lstX; rw [if_pos hv]
    rw [e]
    exact ListText_c l h hv.1 hv.2
  · have e : lstX l = [] := by unfold lstX; rw [if_neg hv]
    rw [e]
    refine k49_of rfl orcSb3_p fun I => ?_
    by_cases hn : 64 < l.length
    · have hni : (64 : Int) < l.length := by omega
      refine Run2.of I 1000 ?_
      simp -implicitDefEqProofs [hni]
      exact .base ⟨rfl, rfl⟩
    · have hni : ¬ (64 : Int) < l.length := by omega
      have hcf := fun H => ContainsFunc_s l 67 [] (fun n => !(decide (-1000000000000 ≤ n) && decide (n ≤ 1000000000000))) H (by omega) fun a _ => ListText1_c a H
      have hyes : (l.any fun n => !(decide (-1000000000000 ≤ n) && decide (n ≤ 1000000000000))) = true := by
        rw [List.any_eq_true]
        have hx : ¬ ∀ n ∈ l, valI n := fun q => hv ⟨by omega, q⟩
        have hy : ∃ n ∈ l, ¬ valI n := by
          apply Classical.byContradiction
          intro hno
          exact hx fun n hn => Classical.byContradiction fun hq => hno ⟨n, hn, hq⟩
        obtain ⟨n, h1, h2⟩ := hy
        refine ⟨n, h1, ?_⟩
        unfold valI at h2
        simp only [Bool.not_eq_true', Bool.and_eq_false_iff, decide_eq_false_iff_not]
        omega
      refine Run2.of I 1000 ?_
      simp -implicitDefEqProofs [hni]
      refine (hcf _).mono ?_
      rw [hyes]
      rintro v h' ⟨e1, e2⟩
      rw [e1, e2]
      clear hcf hyes e1 e2
      refine gK.go ?_
      simp -implicitDefEqProofs [hni]
      exact .base ⟨rfl, rfl⟩
theorem ListTextX_g {w : AV} {l : List Int} {hp : Heap} (G : Grow 1 w (l.map iv) hp) (h : Heap) (hl : l.length ≤ 1048576 * 2) (h64 : ∀ n ∈ l, in64 n) : ACalls Tryd.prog 49 [w] (hp ++ h) (fun v h' => v = .str (lstX l) ∧ h' = hp ++ h) := by
  refine ACalls.reads hp (fun p hp' => List.mem_append_left _ hp') ?_ rfl
  rw [lend_cons, lend_nil']
  exact ACalls.wk (.cons G.lentWkS .nil) (ListTextX_c l [] hl h64)
noncomputable def orcRl2 : List (Nat × (List AV → Option (Prop × AV))) := (18, o_split) :: (20, o_ReadDecimal) :: []
theorem orcRl2_p : Pure Tryd.prog (lk orcRl2) := (lk_pure o_split_k (lk_pure o_ReadDecimal_k lk_pure0))
@[simp] theorem orcRl2_l (b : Bool) (g : FuncId) (l : List AV) : lk orcRl2 b g l = if g = 18 then o_split l else if g = 20 then o_ReadDecimal l else none := nr rfl
abbrev k27_o0 : List AJ := [.o ⟨(some 2), none, false, .mv (.c .nilsl), none⟩, .o ⟨(some 3), none, false, .mv (.c (.bool false)), (some [0])⟩]
abbrev k27_o1 : List AJ := [.o ⟨(some 9), none, false, .mv (.t 0), none⟩, .o ⟨(some 10), none, false, .bin .eql (.t 9) (.c (.str [45])), (some [0, 10])⟩]
abbrev k27_o2 : List AJ := [.o ⟨(some 2), none, false, .mv (.c .nilsl), none⟩, .o ⟨(some 3), none, false, .mv (.c (.bool true)), (some [2, 3])⟩]
def k27_3 : ACode := .seq (.region k27_o2) .ret
def k27_4 : ACode := .cond (.t 10) k27_3 .skip
def k27_5 : ACode := .seq (.region k27_o1) k27_4
abbrev k27_o3 : List AJ := [.o ⟨(some 4), none, false, .mv (.c .nilsl), (some [0, 4])⟩]
abbrev k27_o4 : List AJ := [.o ⟨(some 11), none, false, .mv (.t 0), none⟩, .o ⟨(some 12), none, false, .call 18 [(.t 11), (.c (.str [44]))], none⟩, .o ⟨(some 13), none, false, .len (.t 12), none⟩, .o ⟨(some 14), none, false, .mv (.c (.int .i64 0)), (some [0, 4, 12, 13, 14])⟩]
abbrev k27_o5 : List AJ := [.o ⟨(some 15), none, false, .bin .lss (.t 14) (.t 13), (some [0, 4, 12, 13, 14, 15])⟩]
abbrev k27_o6 : List AJ := [.o ⟨(some 16), none, false, .idxA 1 (.t 12) (.t 14), none⟩, .o ⟨(some 17), none, false, .load 1 false (.t 16), none⟩, .o ⟨(some 6), none, false, .mv (.t 17), (some [0, 4, 6, 12, 13, 14])⟩]
abbrev k27_o7 : List AJ := [.o ⟨(some 19), none, false, .mv (.t 6), none⟩, .o ⟨(some 20), none, false, .call 20 [(.t 19)], none⟩, .o ⟨(some 18), none, false, .mv (.t 20), none⟩, .o ⟨(some 21), none, false, .extract (.t 18) 0, none⟩, .o ⟨(some 22), none, false, .extract (.t 18) 1, none⟩, .o ⟨(some 7), none, false, .mv (.t 21), none⟩, .o ⟨(some 8), none, false, .mv (.t 22), (some [0, 4, 7, 12, 13, 14])⟩]
abbrev k27_o8 : List AJ := [.o ⟨(some 23), none, false, .mv (.t 4), none⟩, .o ⟨(some 24), none, false, .mv (.t 7), none⟩, .o ⟨(some 25), none, false, .bsl false 1 [(.t 24)], none⟩, .o ⟨(some 26), none, false, .append 1 8 (.t 23) (.t 25), none⟩, .o ⟨(some 4), none, false, .mv (.t 26), (some [0, 4, 12, 13, 14])⟩]
def k27_12 : ACode := .region k27_o8
def k27_13 : ACode := .seq (.region k27_o7) k27_12
def k27_14 : ACode := .seq (.region k27_o6) k27_13
abbrev k27_o9 : List AJ := [.o ⟨(some 27), none, true, .bin .add (.t 14) (.c (.int .i64 1)), none⟩, .o ⟨(some 14), none, false, .mv (.t 27), (some [0, 4, 12, 13, 14])⟩]
def k27_16 : ACode := .region k27_o9
def k27_17 : ACode := .seq (.block 1 k27_14) k27_16
def k27_18 : ACode := .seq (.cond (.t 15) .skip (.exit 0)) k27_17
def k27_19 : ACode := .seq (.region k27_o5) k27_18
def k27_20 : ACode := .loop k27_19
def k27_21 : ACode := .block 0 k27_20
def k27_22 : ACode := .seq (.region k27_o4) k27_21
abbrev k27_o10 : List AJ := [.o ⟨(some 28), none, false, .mv (.t 4), none⟩, .o ⟨(some 29), none, false, .call 49 [(.t 28)], none⟩, .o ⟨(some 30), none, false, .mv (.t 0), none⟩, .o ⟨(some 31), none, false, .bin .neq (.t 29) (.t 30), (some [4, 31])⟩]
abbrev k27_o11 : List AJ := [.o ⟨(some 2), none, false, .mv (.c .nilsl), none⟩, .o ⟨(some 3), none, false, .mv (.c (.bool false)), (some [2, 3])⟩]
def k27_25 : ACode := .seq (.region k27_o11) .ret
def k27_26 : ACode := .cond (.t 31) k27_25 .skip
def k27_27 : ACode := .seq (.region k27_o10) k27_26
abbrev k27_o12 : List AJ := [.o ⟨(some 32), none, false, .mv (.t 4), none⟩, .o ⟨(some 2), none, false, .mv (.t 32), none⟩, .o ⟨(some 3), none, false, .mv (.c (.bool true)), (some [2, 3])⟩]
def k27_29 : ACode := .seq (.region k27_o12) .ret
def k27_30 : ACode := .seq k27_27 k27_29
def k27_31 : ACode := .seq k27_22 k27_30
def k27_32 : ACode := .seq (.region k27_o3) k27_31
def k27_33 : ACode := .seq k27_5 k27_32
def k27_34 : ACode := .seq (.region k27_o0) k27_33
@[simp, simp ↓] theorem k27_3r : sR k27_3 k27_o2 .ret := yR rfl
@[simp, simp ↓] theorem k27_4r : rC k27_4 (.t 10) k27_3 .skip := zC rfl
@[simp, simp ↓] theorem k27_5r : sR k27_5 k27_o1 k27_4 := yR rfl
@[simp, simp ↓] theorem k27_12r : rR k27_12 k27_o8 := zR rfl
@[simp, simp ↓] theorem k27_13r : sR k27_13 k27_o7 k27_12 := yR rfl
@[simp, simp ↓] theorem k27_14r : sR k27_14 k27_o6 k27_13 := yR rfl
@[simp, simp ↓] theorem k27_16r : rR k27_16 k27_o9 := zR rfl
@[simp, simp ↓] theorem k27_17r : sB k27_17 1 k27_14 k27_16 := yB rfl
@[simp, simp ↓] theorem k27_18r : sC k27_18 (.t 15) .skip (.exit 0) k27_17 := yC rfl
@[simp, simp ↓] theorem k27_19r : sR k27_19 k27_o5 k27_18 := yR rfl
@[simp, simp ↓] theorem k27_20r : rL k27_20 k27_19 := zL rfl
@[simp, simp ↓] theorem k27_21r : rB k27_21 0 k27_20 := zB rfl
@[simp, simp ↓] theorem k27_22r : sR k27_22 k27_o4 k27_21 := yR rfl
@[simp, simp ↓] theorem k27_25r : sR k27_25 k27_o11 .ret := yR rfl
@[simp, simp ↓] theorem k27_26r : rC k27_26 (.t 31) k27_25 .skip := zC rfl
@[simp, simp ↓] theorem k27_27r : sR k27_27 k27_o10 k27_26 := yR rfl
@[simp, simp ↓] theorem k27_29r : sR k27_29 k27_o12 .ret := yR rfl
@[simp, simp ↓] theorem k27_30r : rS k27_30 k27_27 k27_29 := zS rfl
@[simp, simp ↓] theorem k27_31r : rS k27_31 k27_22 k27_30 := zS rfl
@[simp, simp ↓] theorem k27_32r : sR k27_32 k27_o3 k27_31 := yR rfl
@[simp, simp ↓] theorem k27_33r : rS k27_33 k27_5 k27_32 := zS rfl
@[simp, simp ↓] theorem k27_34r : sR k27_34 k27_o0 k27_33 := yR rfl
noncomputable abbrev k27_C : Orc → Cx := mkC Tryd.prog [] 27 33 [.tmp 2, .tmp 3]
theorem k27_of : OfP Tryd.prog Tryd.f27 27 33 k27_C k27_34 := @ofP _ _ _ _ _ _ _ _ Tryd.func27 (by decide +kernel) rfl (by kernel_rfl) rfl (by kernel_rfl)
theorem implRL_c (s : Txt) (h : Heap) (hs : s.length ≤ 1048576) : ACalls Tryd.prog 27 [.str s] h (fun v h' => v = .tup [.snap 1 ((rlL s).map iv), .bool (rlO s)] ∧ h' = h) := by
  refine k27_of rfl orcRl2_p fun I => ?_
  by_cases h0 : s = [45]
  · rw [h0, rl_dash.1, rl_dash.2]
    refine Run2.of I 1000 ?_
    simp -implicitDefEqProofs
    exact .wk (Wk.tup (.cons (Wk.nil 1) (.cons (.refl _) .nil))) (.base ⟨rfl, rfl⟩)
  · have hmem : ∀ i (hi : i < (spl 44 s).length), (spl 44 s)[i] ∈ spl 44 s := fun i hi => List.getElem_mem hi
    have hlen : ∀ w ∈ spl 44 s, List.length w ≤ 1048576 := fun w hw => Nat.le_trans (spl_le 44 s w hw) hs
    have hmany := spl_many 44 s
    have hM : rlM s = (spl 44 s).map fun w => (rd w).1 := rfl
    have hiff := rl_iff h0
    have hbad := rl_bad (s := s)
    have hgood : rlG s → rlL s = rlM s ∧ rlO s = true := fun g => by
      unfold rlL rlO
      rw [if_pos g, decide_eq_true g, if_neg h0]; exact ⟨rfl, rfl⟩
    have hs2 : s.length < 4294967281 := by omega
    rw [hM] at hiff hgood
    refine Run2.of I 1000 ?_
    simp -implicitDefEqProofs [h0, hs2]
    have hWne := spl_ne 44 s
    generalize spl 44 s = W at *
    refine Run2.loopE (α := Nat × AV × Heap) (fun p => [(0, .str s), (4, p.2.1), (12, .snap 1 (W.map sv)), (13, .int .i64 W.length), (14, .int .i64 (p.1 : Nat))]) (fun p => p.2.2 ++ h) (fun p => W.length - p.1) (fun p => p.1 ≤ W.length ∧ Grow 1 p.2.1 (((W.take p.1).map fun w => (rd w).1).map iv) p.2.2) (0, .nilsl, []) (by simp) rfl ⟨Nat.zero_le _, .nil⟩ ?_
    rintro ⟨i, u, hp⟩ ⟨hi, hg⟩ ih
    simp only at hi hg
    have hcell := hg.cell
    by_cases hlt : i < W.length
    · have hwl := hlen _ (hmem i hlt)
      have go := fun u' hp' (g : Grow 1 u' (((W.take i).map fun w => (rd w).1).map iv ++ [iv (rd W[i]).1]) hp') => ih (i + 1, u', hp') ⟨hlt, by
        show Grow 1 u' (((W.take (i + 1)).map fun w => (rd w).1).map iv) hp'
        rw [List.take_succ_eq_append_getElem hlt]
        simpa only [List.map_append, List.map_cons, List.map_nil] using g⟩ (by omega)
      clear ih hgood hbad
      generalize hti : W[i] = x at *
      refine Run2.of I 1000 ?_
      simp -implicitDefEqProofs [hlt, hti, hcell, hwl]
      refine hg.app (by simp; omega) (by simp) fun u2 hp2 hg2 => ?_
      have hcell2 := hg2.cell
      have := go u2 hp2 hg2
      simp -implicitDefEqProofs [hcell2]
      exact ⟨by omega, by simpa using this⟩
    · obtain rfl : i = W.length := by omega
      rw [List.take_length] at hg
      have hLl : (W.map fun w => (rd w).1).length ≤ 1048576 * 2 := by rw [List.length_map]; omega
      have hL64 : ∀ n ∈ (W.map fun w => (rd w).1), in64 n := fun n hn => by
        obtain ⟨w, _, rfl⟩ := List.mem_map.1 hn
        have := rd_in w
        unfold in18 at this
        unfold in64; omega
      have htx := ListTextX_g hg h hLl hL64
      have hLne : (W.map fun w => (rd w).1) ≠ [] := by simpa using hWne
      clear ih
      generalize (W.map fun w => (rd w).1) = L at *
      by_cases ht : lstX L = s
      · obtain ⟨e1, e2⟩ := hgood (hiff.1 ht)
        rw [e1, e2]
        rw [ht] at htx
        refine Run2.of I 1000 ?_
        simp -implicitDefEqProofs [hlt, hcell]
        first | refine dcallK (htx) ?_ | (refine (htx).mono ?_; rintro v h' ⟨rfl, rfl⟩; refine gK.go ?_)
        simp -implicitDefEqProofs [hcell]
        obtain ⟨id, rfl, rfl⟩ := hg.ne (by simpa using hLne)
        refine .freeze id (by simp; rfl) (.base ?_)
        simp [List.take_of_length_le]
      · obtain ⟨e1, e2⟩ := hbad (fun g => ht (hiff.2 g))
        rw [e1, e2]
        refine Run2.of I 1000 ?_
        simp -implicitDefEqProofs [hlt, hcell]
        first | refine dcallK (htx) ?_ | (refine (htx).mono ?_; rintro v h' ⟨rfl, rfl⟩; refine gK.go ?_)
        simp -implicitDefEqProofs [hcell, ht]
        exact .wk (Wk.tup (.cons (Wk.nil 1) (.cons (.refl _) .nil))) (Post.dropAll rfl (.base ⟨rfl, rfl⟩))
noncomputable def o_ReadListI : List AV → Option (Prop × AV) := tab (fun (x : Txt) => match x with | s => [.str s]) (fun x => match x with | s => s.length ≤ 1048576) (fun x => match x with | s => .tup [.snap 1 ((rlL s).map iv), .bool (rlO s)])
@[simp] theorem o_ReadListI_e (s : Txt) : o_ReadListI [.str s] = some (s.length ≤ 1048576, .tup [.snap 1 ((rlL s).map iv), .bool (rlO s)]) := tab_at (enc := fun (x : Txt) => match x with | s => [.str s]) (fun x y h => by
  simp at h; simp [h] <;> omega) _ _ s
theorem o_ReadListI_k : Knows Tryd.prog 27 o_ReadListI := tab_knows fun x hx h => by
  exact implRL_c x h hx
noncomputable def o_ReadListS : List AV → Option (Prop × AV) := tab (fun (x : Txt) => match x with | s => [.str s]) (fun x => match x with | s => s.length ≤ 1048576) (fun x => match x with | s => .tup [.snap 1 ((rlL s).map iv), .bool (rlO s)])
@[simp] theorem o_ReadListS_e (s : Txt) : o_ReadListS [.str s] = some (s.length ≤ 1048576, .tup [.snap 1 ((rlL s).map iv), .bool (rlO s)]) := tab_at (enc := fun (x : Txt) => match x with | s => [.str s]) (fun x y h => by
  simp at h; simp [h] <;> omega) _ _ s
theorem o_ReadListS_k : Knows Tryd.prog 25 o_ReadListS := tab_knows fun x hx h => by
  exact specRL_c x h hx
end Go.AG
