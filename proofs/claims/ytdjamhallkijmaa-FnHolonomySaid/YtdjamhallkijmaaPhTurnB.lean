/- Graphs whose differences are turned: what the program's and the reference's functions give. No statement is made here. -/
import Derived.Test.YtdjamhallkijmaaPhC
namespace Go.AG
open Go.Proofs Go.Proofs.Ytdjamhallkijmaa
set_option linter.unusedSimpArgs false
set_option linter.unusedVariables false
set_option maxRecDepth 4000
def Ph.turn1 (x : Ph) (p : List Int) (t : T) : T := ⟨t.f, t.t, (t.s + p.getD t.t.toNat 0 - p.getD t.f.toNat 0) % x.m⟩

noncomputable def orcT : List (Nat × (List AV → Option (Prop × AV))) := orcF
theorem orcT_p : Pure Try.prog (lk orcT) := orcF_p
@[simp] theorem orcT_l (b : Bool) (g : FuncId) (l : List AV) : lk orcT b g l = lk orcF b g l := nr rfl
abbrev k69_o0 : List AJ := [.o ⟨(some 4), none, false, .mv (.c (.bool false)), (some [0, 1])⟩]
abbrev k69_o1 : List AJ := [.o ⟨(some 5), none, false, .mv (.c (.int .i64 0)), (some [0, 1, 5])⟩]
abbrev k69_o2 : List AJ := [.o ⟨(some 6), none, false, .mv (.t 5), none⟩, .o ⟨(some 7), none, false, .mv (.t 0), none⟩, .o ⟨(some 8), none, false, .len (.t 7), none⟩, .o ⟨(some 9), none, false, .bin .lss (.t 6) (.t 8), (some [0, 1, 5, 9])⟩]
def k69_3 : ACode := .cond (.t 9) .skip (.exit 0)
def k69_4 : ACode := .seq (.region k69_o2) k69_3
abbrev k69_o3 : List AJ := [.o ⟨(some 12), none, false, .mv (.t 0), none⟩, .o ⟨(some 13), none, false, .mv (.t 5), none⟩, .o ⟨(some 14), none, false, .idxA 1 (.t 12) (.t 13), none⟩, .o ⟨(some 15), none, false, .load 1 false (.t 14), none⟩, .o ⟨(some 16), none, false, .mv (.t 1), none⟩, .o ⟨(some 17), none, false, .bin .eql (.t 15) (.t 16), (some [0, 1, 5, 17])⟩]
abbrev k69_o4 : List AJ := [.o ⟨(some 4), none, false, .mv (.c (.bool true)), (some [4])⟩]
def k69_7 : ACode := .seq (.region k69_o4) .ret
def k69_8 : ACode := .cond (.t 17) k69_7 .skip
def k69_9 : ACode := .seq (.region k69_o3) k69_8
abbrev k69_o5 : List AJ := [.o ⟨(some 10), none, false, .mv (.t 5), none⟩, .o ⟨(some 11), none, true, .bin .add (.t 10) (.c (.int .i64 1)), none⟩, .o ⟨(some 5), none, false, .mv (.t 11), (some [0, 1, 5])⟩]
def k69_11 : ACode := .region k69_o5
def k69_12 : ACode := .seq (.block 1 k69_9) k69_11
def k69_13 : ACode := .seq k69_4 k69_12
def k69_14 : ACode := .loop k69_13
def k69_15 : ACode := .block 0 k69_14
def k69_16 : ACode := .seq (.region k69_o1) k69_15
abbrev k69_o6 : List AJ := [.o ⟨(some 4), none, false, .mv (.c (.bool false)), (some [4])⟩]
def k69_18 : ACode := .seq (.region k69_o6) .ret
def k69_19 : ACode := .seq k69_16 k69_18
def k69_20 : ACode := .seq (.region k69_o0) k69_19
@[simp, simp ↓] theorem k69_3r : rC k69_3 (.t 9) .skip (.exit 0) := zC rfl
@[simp, simp ↓] theorem k69_4r : sR k69_4 k69_o2 k69_3 := yR rfl
@[simp, simp ↓] theorem k69_7r : sR k69_7 k69_o4 .ret := yR rfl
@[simp, simp ↓] theorem k69_8r : rC k69_8 (.t 17) k69_7 .skip := zC rfl
@[simp, simp ↓] theorem k69_9r : sR k69_9 k69_o3 k69_8 := yR rfl
@[simp, simp ↓] theorem k69_11r : rR k69_11 k69_o5 := zR rfl
@[simp, simp ↓] theorem k69_12r : sB k69_12 1 k69_9 k69_11 := yB rfl
@[simp, simp ↓] theorem k69_13r : rS k69_13 k69_4 k69_12 := zS rfl
@[simp, simp ↓] theorem k69_14r : rL k69_14 k69_13 := zL rfl
@[simp, simp ↓] theorem k69_15r : rB k69_15 0 k69_14 := zB rfl
@[simp, simp ↓] theorem k69_16r : sR k69_16 k69_o1 k69_15 := yR rfl
@[simp, simp ↓] theorem k69_18r : sR k69_18 k69_o6 .ret := yR rfl
@[simp, simp ↓] theorem k69_19r : rS k69_19 k69_16 k69_18 := zS rfl
@[simp, simp ↓] theorem k69_20r : sR k69_20 k69_o0 k69_19 := yR rfl
noncomputable abbrev k69_C : Orc → Cx := mkC Try.prog [] 69 18 [.tmp 4]
theorem k69_of0 : OfP0 Try.prog Try.f69 69 18 k69_C k69_20 := @ofP0 _ _ _ _ _ _ _ _ Try.func69 (by decide +kernel) rfl (by kernel_rfl) rfl (by kernel_rfl)
theorem l00Has_s (l : List Int) (n : Int) (h : Heap) (hl : l.length ≤ 1048576) : ACalls Try.prog 69 [.snap 1 (l.map iv), .int .i64 n] h (fun v h' => v = .bool (decide (n ∈ l)) ∧ h' = h) := by
  refine k69_of0 rfl noPure fun I => ?_
  refine Run2.of I 1000 ?_
  simp -implicitDefEqProofs
  refine Run2.loopE (fun i => [(0, .snap 1 (l.map iv)), (1, .int .i64 n), (5, .int .i64 (i : Nat))]) (fun i => h) (fun i => l.length - i) (fun i => i ≤ l.length ∧ n ∉ l.take i) 0 (by simp) rfl (by simp) fun i hi ih => ?_
  by_cases hlt : i < l.length
  · have hin : l[i] = n → n ∈ l := fun h => h ▸ List.getElem_mem hlt
    have go := fun (h1 : ¬ l[i] = n) => ih (i + 1) ⟨by omega, by rw [List.take_succ_eq_append_getElem hlt, List.mem_append, List.mem_singleton]; rintro (h | h); exact hi.2 h; exact h1 h.symm⟩ (by omega)
    clear ih
    refine Run2.of I 1000 ?_
    simp -implicitDefEqProofs [hlt]
    exact ⟨fun h => hin h, fun h => ⟨by omega, by simpa using go h⟩⟩
  · obtain rfl : i = l.length := by omega
    have h2 := hi.2
    rw [List.take_length] at h2
    refine Run2.of I 1000 ?_
    simp -implicitDefEqProofs
    exact h2
theorem l00Has_c (u : AV) (n : Int) (h : Heap) (hu : isInts u) (hl : (intsOf u).length ≤ 1048576) : ACalls Try.prog 69 [u, .int .i64 n] h (fun v h' => v = .bool (decide (n ∈ intsOf u)) ∧ h' = h) :=
  (l00Has_s _ n h hl).wk (.cons (.ints hu) (.refl _))
noncomputable def o_l00Has : List AV → Option (Prop × AV) := tab (fun (x : AV × Int) => match x with | (u, n) => [u, .int .i64 n]) (fun x => match x with | (u, n) => (isInts u ∧ (intsOf u).length ≤ 1048576)) (fun x => match x with | (u, n) => .bool (decide (n ∈ intsOf u)))
@[simp] theorem o_l00Has_e (u : AV) (n : Int) : o_l00Has [u, .int .i64 n] = some ((isInts u ∧ (intsOf u).length ≤ 1048576), .bool (decide (n ∈ intsOf u))) := tab_at (enc := fun (x : AV × Int) => match x with | (u, n) => [u, .int .i64 n]) (fun x y h => by
  obtain ⟨u1, n1⟩ := x; obtain ⟨u2, n2⟩ := y; simp at h; simp [h] <;> omega) _ _ (u, n)
theorem o_l00Has_k : Knows Try.prog 69 o_l00Has := tab_knows fun x hx h => by
  obtain ⟨u, n⟩ := x; exact l00Has_c u n h hx.1 hx.2
noncomputable def orcT2 : List (Nat × (List AV → Option (Prop × AV))) := (69, o_l00Has) :: orcC3
theorem orcT2_p : Pure Try.prog (lk orcT2) := (lk_pure o_l00Has_k orcC3_p)
@[simp] theorem orcT2_l (b : Bool) (g : FuncId) (l : List AV) : lk orcT2 b g l = if g = 69 then o_l00Has l else lk orcC3 b g l := nr rfl
/-- The edges whose numbers are not among these. -/
def lessTo (ts : List T) (w : List Int) (i : Nat) : List T := ((List.range i).filter fun (k : Nat) => !decide ((k : Int) ∈ w)).map fun k => ts.getD k default
theorem lessTo_succ (ts : List T) (w : List Int) {i : Nat} (hi : i < ts.length) : lessTo ts w (i + 1) = lessTo ts w i ++ if (i : Int) ∈ w then [] else [ts[i]] := by
  unfold lessTo
  rw [List.range_succ, List.filter_append, List.map_append]
  congr 1
  simp only [List.filter_cons, List.filter_nil]
  split <;> simp_all
theorem lessTo_len (ts : List T) (w : List Int) (i : Nat) : (lessTo ts w i).length ≤ i := by
  unfold lessTo
  rw [List.length_map]
  exact Nat.le_trans (List.length_filter_le _ _) (by simp)
def Ph.less (x : Ph) (w : List Int) : Ph := ⟨x.n, x.m, lessTo x.ts w x.ts.length⟩
theorem lessTo_all (ts : List T) : ∀ i, i ≤ ts.length → lessTo ts [] i = ts.take i
  | 0, _ => rfl
  | i + 1, h => by rw [lessTo_succ ts [] (by omega), lessTo_all ts i (by omega), List.take_succ_eq_append_getElem (by omega)]; simp
theorem Ph.less_nil (x : Ph) : x.less [] = x := by
  unfold Ph.less
  rw [lessTo_all _ _ (Nat.le_refl _), List.take_length]
abbrev k66_o0 : List AJ := [.o ⟨(some 4), none, false, .alloc true 3 (.agg [(.int .i64 0), (.int .i64 0), .nilsl]), (some [0, 1, 4])⟩]
abbrev k66_o1 : List AJ := [.o ⟨(some 7), none, false, .mv (.t 0), none⟩, .o ⟨(some 8), none, false, .nilchk (.t 7), none⟩, .o ⟨(some 9), none, false, .fieldA 0 (.t 8), none⟩, .o ⟨(some 10), none, false, .load 1 false (.t 9), none⟩, .o ⟨(some 11), none, false, .mv (.t 0), none⟩, .o ⟨(some 12), none, false, .nilchk (.t 11), none⟩, .o ⟨(some 13), none, false, .fieldA 1 (.t 12), none⟩, .o ⟨(some 14), none, false, .load 1 false (.t 13), none⟩, .o ⟨(some 15), none, false, .build [(.int .i64 0), (.int .i64 0), .nilsl] [(0, 1, (.t 10)), (1, 1, (.t 14))], none⟩, .o ⟨(some 5), none, false, .alloc true 3 (.agg [(.int .i64 0), (.int .i64 0), .nilsl]), none⟩, .o ⟨none, none, false, .store 3 (.t 5) (.t 15), (some [0, 1, 4, 5])⟩]
abbrev k66_o2 : List AJ := [.o ⟨(some 6), none, false, .mv (.c (.int .i64 0)), (some [0, 1, 4, 5, 6])⟩]
abbrev k66_o3 : List AJ := [.o ⟨(some 16), none, false, .mv (.t 6), none⟩, .o ⟨(some 17), none, false, .mv (.t 0), none⟩, .o ⟨(some 18), none, false, .nilchk (.t 17), none⟩, .o ⟨(some 19), none, false, .fieldA 2 (.t 18), none⟩, .o ⟨(some 20), none, false, .load 1 false (.t 19), none⟩, .o ⟨(some 21), none, false, .len (.t 20), none⟩, .o ⟨(some 22), none, false, .bin .lss (.t 16) (.t 21), (some [0, 1, 4, 5, 6, 22])⟩]
def k66_4 : ACode := .cond (.t 22) .skip (.exit 0)
def k66_5 : ACode := .seq (.region k66_o3) k66_4
abbrev k66_o4 : List AJ := [.o ⟨(some 25), none, false, .mv (.t 1), none⟩, .o ⟨(some 26), none, false, .mv (.t 6), none⟩, .o ⟨(some 27), none, false, .call 69 [(.t 25), (.t 26)], none⟩, .o ⟨(some 28), none, false, .un .not (.t 27), (some [0, 1, 4, 5, 6, 28])⟩]
abbrev k66_o5 : List AI := [⟨(some 29), none, false, .fieldA 2 (.t 5), none⟩, ⟨(some 30), none, false, .load 1 false (.t 29), none⟩, ⟨(some 31), none, false, .mv (.t 0), none⟩, ⟨(some 32), none, false, .nilchk (.t 31), none⟩, ⟨(some 33), none, false, .fieldA 2 (.t 32), none⟩, ⟨(some 34), none, false, .load 1 false (.t 33), none⟩, ⟨(some 35), none, false, .mv (.t 6), none⟩, ⟨(some 36), none, false, .idxA 3 (.t 34) (.t 35), none⟩, ⟨(some 37), none, false, .load 3 true (.t 36), none⟩, ⟨(some 38), none, false, .bsl false 3 [(.t 37)], (some [0, 1, 4, 5, 6, 30, 38])⟩]
abbrev k66_o6 : List AJ := [.o ⟨(some 39), none, false, .append 3 24 (.t 30) (.t 38), none⟩, .o ⟨(some 40), none, false, .fieldA 2 (.t 5), none⟩, .o ⟨none, none, false, .store 1 (.t 40) (.t 39), (some [0, 1, 4, 5, 6])⟩]
def k66_7 : ACode := .draw k66_o5 k66_o6 rfl
def k66_8 : ACode := .cond (.t 28) k66_7 .skip
def k66_9 : ACode := .seq (.region k66_o4) k66_8
abbrev k66_o7 : List AJ := [.o ⟨(some 23), none, false, .mv (.t 6), none⟩, .o ⟨(some 24), none, true, .bin .add (.t 23) (.c (.int .i64 1)), none⟩, .o ⟨(some 6), none, false, .mv (.t 24), (some [0, 1, 4, 5, 6])⟩]
def k66_11 : ACode := .region k66_o7
def k66_12 : ACode := .seq (.block 1 k66_9) k66_11
def k66_13 : ACode := .seq k66_5 k66_12
def k66_14 : ACode := .loop k66_13
def k66_15 : ACode := .block 0 k66_14
def k66_16 : ACode := .seq (.region k66_o2) k66_15
abbrev k66_o8 : List AJ := [.o ⟨(some 41), none, false, .load 3 true (.t 5), none⟩, .o ⟨none, none, false, .store 3 (.t 4) (.t 41), (some [4])⟩]
def k66_18 : ACode := .seq (.region k66_o8) .ret
def k66_19 : ACode := .seq k66_16 k66_18
def k66_20 : ACode := .seq (.drawT 0 k66_o1 rfl) k66_19
def k66_21 : ACode := .seq (.region k66_o0) k66_20
@[simp, simp ↓] theorem k66_4r : rC k66_4 (.t 22) .skip (.exit 0) := zC rfl
@[simp, simp ↓] theorem k66_5r : sR k66_5 k66_o3 k66_4 := yR rfl
@[simp, simp ↓] theorem k66_7r : rD k66_7 k66_o5 k66_o6 := zD rfl
@[simp, simp ↓] theorem k66_8r : rC k66_8 (.t 28) k66_7 .skip := zC rfl
@[simp, simp ↓] theorem k66_9r : sR k66_9 k66_o4 k66_8 := yR rfl
@[simp, simp ↓] theorem k66_11r : rR k66_11 k66_o7 := zR rfl
@[simp, simp ↓] theorem k66_12r : sB k66_12 1 k66_9 k66_11 := yB rfl
@[simp, simp ↓] theorem k66_13r : rS k66_13 k66_5 k66_12 := zS rfl
@[simp, simp ↓] theorem k66_14r : rL k66_14 k66_13 := zL rfl
@[simp, simp ↓] theorem k66_15r : rB k66_15 0 k66_14 := zB rfl
@[simp, simp ↓] theorem k66_16r : sR k66_16 k66_o2 k66_15 := yR rfl
@[simp, simp ↓] theorem k66_18r : sR k66_18 k66_o8 .ret := yR rfl
@[simp, simp ↓] theorem k66_19r : rS k66_19 k66_16 k66_18 := zS rfl
@[simp, simp ↓] theorem k66_20r : sT k66_20 k66_o1 k66_19 := yT rfl
@[simp, simp ↓] theorem k66_21r : sR k66_21 k66_o0 k66_20 := yR rfl
noncomputable abbrev k66_C : Orc → Cx := mkC Try.prog [4, 5] 66 42 [.cell 4 3 true]
theorem k66_of : OfP Try.prog Try.f66 66 42 k66_C k66_21 := @ofP _ _ _ _ _ _ _ _ Try.func66 (by decide +kernel) rfl (by kernel_rfl) rfl (by kernel_rfl)
theorem l23Less_w (x : Ph) (w : AV) (h : Heap) (hl : x.ts.length ≤ 1048576) (hw : isInts w) (hwl : (intsOf w).length ≤ 1048576) : ACalls Try.prog 66 [.ip [.int .i64 x.n, .int .i64 x.m, .snap 3 (x.ts.map T.av)], w] h (fun v h' => ∃ u hp, v = .agg [.int .i64 x.n, .int .i64 x.m, u] ∧ Grow 3 u ((x.less (intsOf w)).ts.map T.av) hp ∧ h' = hp ++ h) := by
  refine k66_of rfl orcT2_p fun I => ?_
  refine Run2.of I 1000 ?_
  simp -implicitDefEqProofs
  intro a ha b hba hb
  refine gK.go ?_
  simp -implicitDefEqProofs [hba]
  refine Run2.loopE (α := Nat × AV × Heap) (fun s => [(0, .ip [.int .i64 x.n, .int .i64 x.m, .snap 3 (x.ts.map T.av)]), (1, w), (4, .ptr a 3 0 0), (5, .ptr b 3 0 0), (6, .int .i64 (s.1 : Nat))])
    (fun s => s.2.2 ++ ((b, ⟨3, [.agg [.int .i64 x.n, .int .i64 x.m, s.2.1]]⟩) :: (a, ⟨3, [.agg [.int .i64 0, .int .i64 0, .nilsl]]⟩) :: h)) (fun s => x.ts.length - s.1) (fun s => s.1 ≤ x.ts.length ∧ Grow 3 s.2.1 ((lessTo x.ts (intsOf w) s.1).map T.av) s.2.2 ∧ b ∉ dom s.2.2 ∧ a ∉ dom s.2.2) (0, .nilsl, []) (by simp) rfl ⟨Nat.zero_le _, by simpa [lessTo] using Grow.nil, by simp [dom], by simp [dom]⟩ ?_
  rintro ⟨i, u, hp'⟩ ⟨hi, hg, hpb, hpa⟩ ih
  simp only at hi hg hpb hpa ih ⊢
  have hcw := hg.cell
  by_cases hlt : i < x.ts.length
  · have hs := lessTo_succ x.ts (intsOf w) hlt
    have hsl := lessTo_len x.ts (intsOf w) i
    have go := fun w' hp'' hg' hb' ha' => ih (i + 1, w', hp'') ⟨by simp; omega, hg', hb', ha'⟩ (by simp; omega)
    clear ih
    refine Run2.of I 1000 ?_
    simp -implicitDefEqProofs [hlt, hw, hwl, hget_app hpb, hget_app hpa]
    refine ⟨fun h1 => ?_, fun h1 => ⟨by omega, ?_⟩⟩
    · rw [if_neg h1] at hs
      refine Grow.app_mid (pre := []) hg (fun j hj => by simp [dom]) (by simp; omega) (by simp) fun w' hp2 hg' hf => ?_
      have hfb : b ∉ dom hp2 := fun h => hf b h (by simp [dom])
      have hfa : a ∉ dom hp2 := fun h => hf a h (by simp [dom])
      simp -implicitDefEqProofs [hcw, hg'.cell, cells_of hg'.cell, stor_of hg'.cell, hget_app hfb, hset_app hfb]
      refine ⟨by omega, ?_⟩
      have := go w' hp2 (by simp only; rw [hs]; simpa using hg') hfb hfa
      simpa using this
    · rw [if_pos h1] at hs
      have := go u hp' (by simp only; rw [hs]; simpa using hg) hpb hpa
      simpa using this
  · obtain rfl : i = x.ts.length := by omega
    refine Run2.of I 1000 ?_
    simp -implicitDefEqProofs [hget_app hpb, hget_app hpa, hset_app hpa, hba, Ne.symm hba, hcw]
    refine .drop a (.drop b (.base ?_))
    rw [hdel_app hpa, hdel_app hpb]
    simp [hdel, hba]
    exact hg
end Go.AG
