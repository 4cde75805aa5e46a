/- What has come of a filtration at a time: the program and the reference. No statement is made here. -/
import Derived.Test.YtamjnegnoijjlaaGreatFxI
import Derived.Test.YtamjnegnoijjlaaGreatFxF
namespace Go.AG
open Go.Proofs Go.Proofs.YtamjnegnoijjlaaGreat
set_option linter.unusedSimpArgs false
set_option linter.unusedVariables false
set_option maxRecDepth 4000
/-- The blocks behind are not needed any more. -/
theorem Post.dropR {R : AV → Heap → Prop} {v : AV} {g : Heap} : ∀ {r : Heap}, (∀ i ∈ dom r, i ∉ dom g) → Post R v g → Post R v (g ++ r)
  | [], _, hk => by simpa using hk
  | (i, b) :: r, hd, hk => .drop i (by
    rw [hdel_app (hd i (by simp [dom]))]
    simp only [hdel, if_true]
    exact Post.dropR (fun j hj => hd j (by simp only [dom_cons]; exact List.mem_cons_of_mem _ hj)) hk)
theorem ssTot_sub {l m : List (List Int)} (h : l.Sublist m) : ssTot l ≤ ssTot m := by
  induction h with
  | slnil => simp
  | cons a _ ih => simp only [ssTot, sumL, List.length_cons, List.map_cons, List.sum_cons] at ih ⊢; omega
  | cons_cons a _ ih => simp only [ssTot, sumL, List.length_cons, List.map_cons, List.sum_cons] at ih ⊢; omega
theorem range_getD (rs : List (List Int)) : ((List.range rs.length).map fun k => rs.getD k []) = rs := by
  apply List.ext_getElem (by simp)
  intro i h1 h2
  simp [h2]
theorem subK_sub (rs : List (List Int)) (p : Nat → Bool) : (subK rs p).Sublist rs := by
  conv => rhs; rw [← range_getD rs]
  exact List.filter_sublist.map _
theorem Fil.atT_tot (x : Fil) (t : Int) : ssTot (x.atT t) ≤ ssTot x.rs := ssTot_sub (subK_sub ..)
/-- Of the first i. -/
def Fil.atN (x : Fil) (t : Int) (i : Nat) : List (List Int) := ((List.range i).filter fun k => decide (x.ts.getD k 0 ≤ t)).map fun k => x.rs.getD k []
theorem Fil.atN_all (x : Fil) (t : Int) : x.atN t x.rs.length = x.atT t := rfl
theorem Fil.atN_pos {x : Fil} {t : Int} {i : Nat} (h1 : i < x.rs.length) (h2 : i < x.ts.length) (h : x.ts[i] ≤ t) : x.atN t (i + 1) = x.atN t i ++ [x.rs[i]] := by
  unfold Fil.atN
  rw [List.range_succ, List.filter_append, List.map_append]
  simp [h1, h2, h]
theorem Fil.atN_neg {x : Fil} {t : Int} {i : Nat} (h2 : i < x.ts.length) (h : ¬ x.ts[i] ≤ t) : x.atN t (i + 1) = x.atN t i := by
  unfold Fil.atN
  rw [List.range_succ, List.filter_append, List.map_append]
  simp [h2, h]
theorem Fil.atN_len (x : Fil) (t : Int) (i : Nat) : (x.atN t i).length ≤ i := by
  unfold Fil.atN
  rw [List.length_map]
  exact Nat.le_trans (List.length_filter_le ..) (by simp)
abbrev k52_o0 : List AJ := [.o ⟨(some 2), none, false, .box false 2 (.t 0), none⟩, .o ⟨(some 4), none, false, .alloc true 1 (.agg [.nilsl]), (some [1, 2, 4])⟩]
abbrev k52_o1 : List AJ := [.o ⟨(some 5), none, false, .mv (.c .nilsl), (some [1, 2, 4, 5])⟩]
abbrev k52_o2 : List AJ := [.o ⟨(some 8), none, false, .fieldA 0 (.t 2), none⟩, .o ⟨(some 9), none, false, .fieldA 0 (.t 8), none⟩, .o ⟨(some 10), none, false, .load 1 false (.t 9), none⟩, .o ⟨(some 11), none, false, .len (.t 10), none⟩, .o ⟨(some 12), none, false, .mv (.c (.int .i64 0)), (some [1, 2, 4, 5, 10, 11, 12])⟩]
abbrev k52_o3 : List AJ := [.o ⟨(some 13), none, false, .bin .lss (.t 12) (.t 11), (some [1, 2, 4, 5, 10, 11, 12, 13])⟩]
abbrev k52_o4 : List AJ := [.o ⟨(some 14), none, false, .mv (.t 12), none⟩, .o ⟨(some 15), none, false, .idxA 1 (.t 10) (.t 12), none⟩, .o ⟨(some 16), none, false, .load 1 false (.t 15), none⟩, .o ⟨(some 6), none, false, .mv (.t 14), none⟩, .o ⟨(some 7), none, false, .mv (.t 16), (some [1, 2, 4, 5, 6, 7, 10, 11, 12])⟩]
abbrev k52_o5 : List AJ := [.o ⟨(some 17), none, false, .fieldA 1 (.t 2), none⟩, .o ⟨(some 18), none, false, .load 1 false (.t 17), none⟩, .o ⟨(some 19), none, false, .mv (.t 6), none⟩, .o ⟨(some 20), none, false, .idxA 1 (.t 18) (.t 19), none⟩, .o ⟨(some 21), none, false, .load 1 false (.t 20), none⟩, .o ⟨(some 22), none, false, .mv (.t 1), none⟩, .o ⟨(some 23), none, false, .bin .leq (.t 21) (.t 22), (some [1, 2, 4, 5, 7, 10, 11, 12, 23])⟩]
abbrev k52_o6 : List AJ := [.o ⟨(some 24), none, false, .mv (.t 5), none⟩, .o ⟨(some 25), none, false, .mv (.t 7), none⟩, .o ⟨(some 26), none, false, .bsl false 1 [(.t 25)], none⟩, .o ⟨(some 27), none, false, .append 1 24 (.t 24) (.t 26), none⟩, .o ⟨(some 5), none, false, .mv (.t 27), (some [1, 2, 4, 5, 10, 11, 12])⟩]
def k52_7 : ACode := .region k52_o6
def k52_8 : ACode := .cond (.t 23) k52_7 .skip
def k52_9 : ACode := .seq (.region k52_o5) k52_8
def k52_10 : ACode := .seq (.region k52_o4) k52_9
abbrev k52_o7 : List AJ := [.o ⟨(some 28), none, true, .bin .add (.t 12) (.c (.int .i64 1)), none⟩, .o ⟨(some 12), none, false, .mv (.t 28), (some [1, 2, 4, 5, 10, 11, 12])⟩]
def k52_12 : ACode := .region k52_o7
def k52_13 : ACode := .seq (.block 1 k52_10) k52_12
def k52_14 : ACode := .seq (.cond (.t 13) .skip (.exit 0)) k52_13
def k52_15 : ACode := .seq (.region k52_o3) k52_14
def k52_16 : ACode := .loop k52_15
def k52_17 : ACode := .block 0 k52_16
def k52_18 : ACode := .seq (.region k52_o2) k52_17
abbrev k52_o8 : List AJ := [.o ⟨(some 29), none, false, .mv (.t 5), none⟩, .o ⟨(some 30), none, false, .call 67 [(.t 29)], none⟩, .o ⟨none, none, false, .store 1 (.t 4) (.t 30), (some [4])⟩]
def k52_20 : ACode := .seq (.region k52_o8) .ret
def k52_21 : ACode := .seq k52_18 k52_20
def k52_22 : ACode := .seq (.region k52_o1) k52_21
def k52_23 : ACode := .seq (.region k52_o0) k52_22
@[simp, simp ↓] theorem k52_7r : rR k52_7 k52_o6 := zR rfl
@[simp, simp ↓] theorem k52_8r : rC k52_8 (.t 23) k52_7 .skip := zC rfl
@[simp, simp ↓] theorem k52_9r : sR k52_9 k52_o5 k52_8 := yR rfl
@[simp, simp ↓] theorem k52_10r : sR k52_10 k52_o4 k52_9 := yR rfl
@[simp, simp ↓] theorem k52_12r : rR k52_12 k52_o7 := zR rfl
@[simp, simp ↓] theorem k52_13r : sB k52_13 1 k52_10 k52_12 := yB rfl
@[simp, simp ↓] theorem k52_14r : sC k52_14 (.t 13) .skip (.exit 0) k52_13 := yC rfl
@[simp, simp ↓] theorem k52_15r : sR k52_15 k52_o3 k52_14 := yR rfl
@[simp, simp ↓] theorem k52_16r : rL k52_16 k52_15 := zL rfl
@[simp, simp ↓] theorem k52_17r : rB k52_17 0 k52_16 := zB rfl
@[simp, simp ↓] theorem k52_18r : sR k52_18 k52_o2 k52_17 := yR rfl
@[simp, simp ↓] theorem k52_20r : sR k52_20 k52_o8 .ret := yR rfl
@[simp, simp ↓] theorem k52_21r : rS k52_21 k52_18 k52_20 := zS rfl
@[simp, simp ↓] theorem k52_22r : sR k52_22 k52_o1 k52_21 := yR rfl
@[simp, simp ↓] theorem k52_23r : sR k52_23 k52_o0 k52_22 := yR rfl
noncomputable abbrev k52_C : Orc → Cx := mkC Tryz.prog [4] 52 31 [.cell 4 1 true]
theorem k52_of : OfP Tryz.prog Tryz.f52 52 31 k52_C k52_23 := @ofP _ _ _ _ _ _ _ _ Tryz.func52 (by decide +kernel) rfl (by kernel_rfl) rfl (by kernel_rfl)
theorem complexAt_o (x : Fil) (t : Int) (hl : x.tot ≤ 1048576) (hv : x.valid) : ACalls Tryz.prog 52 [x.av, .int .i64 t] [] (fun v h' => OwnCx v (x.atT t) h') := by
  obtain ⟨hl1, hl2⟩ := x.lens hl
  have h48 := hv.1.2
  have htl := hv.2.1.1
  have hok := Fil.atT_ok hv t
  have hat := x.atT_tot t
  refine k52_of rfl noPure fun I => ?_
  refine Run2.of I 1000 ?_
  simp -implicitDefEqProofs
  intro b
  refine Run2.loopE (α := Nat × AV × Heap) (fun p => [(1, .int .i64 t), (2, .ip [.snap 1 (x.rs.map il), .snap 1 (x.ts.map iv)]), (4, .ptr b 1 0 0), (5, p.2.1), (10, .snap 1 (x.rs.map il)), (11, .int .i64 x.rs.length), (12, .int .i64 (p.1 : Nat))]) (fun p => p.2.2 ++ [(b, ⟨1, [.agg [.nilsl]]⟩)]) (fun p => x.rs.length - p.1) (fun p => p.1 ≤ x.rs.length ∧ Grow 1 p.2.1 ((x.atN t p.1).map il) p.2.2) (0, .nilsl, []) (by simp) rfl ⟨Nat.zero_le _, by simpa [Fil.atN] using Grow.nil⟩ ?_
  rintro ⟨i, w, hp⟩ ⟨hi, hg⟩ ih
  simp only at hi hg
  have hcell := hg.cell
  by_cases hlt : i < x.rs.length
  · have hlt2 : i < x.ts.length := by omega
    have hal := x.atN_len t i
    by_cases htt : x.ts[i] ≤ t
    · have go := fun w' hp' (g : Grow 1 w' ((x.atN t i).map il ++ [il x.rs[i]]) hp') => ih (i + 1, w', hp') ⟨hlt, by
        simp only
        rw [Fil.atN_pos hlt hlt2 htt, List.map_append]
        exact g⟩ (by simp; omega)
      clear ih
      refine Run2.of I 1000 ?_
      simp -implicitDefEqProofs [hlt, hlt2, hcell, htt]
      refine hg.app (by simp; omega) (by simp) fun w' hp' hg' => ?_
      have hcell' := hg'.cell
      have := go w' hp' hg'
      simp -implicitDefEqProofs [hcell']
      refine ⟨by omega, ?_⟩
      simpa using this
    · have go := ih (i + 1, w, hp) ⟨hlt, by simp only; rw [Fil.atN_neg hlt2 htt]; exact hg⟩ (by simp; omega)
      clear ih
      refine Run2.of I 1000 ?_
      simp -implicitDefEqProofs [hlt, hlt2, hcell, htt]
      refine ⟨by omega, ?_⟩
      simpa using go
  · obtain rfl : i = x.rs.length := by omega
    rw [x.atN_all] at hg
    refine Run2.of I 1000 ?_
    simp -implicitDefEqProofs [hlt, hcell]
    refine (inOrder_g hg [(b, ⟨1, [.agg [.nilsl]]⟩)] (by omega) hok.2 hok.sort).monoN ?_
    rintro v h' ⟨g, ⟨u, rfl, o⟩, hd, rfl⟩ nd
    have hcu := o.cell
    have hb : b ∉ dom g := fun hm => hd b hm (by simp [dom])
    have hb2 : b ∉ dom hp := fun hm => by
      simp only [dom_append, List.nodup_append] at nd
      exact nd.2.1.2.2 b hm b (by simp) rfl
    have g1 : ∀ z, hget (g ++ z) b = hget z b := fun z => hget_app hb
    have g2 : ∀ z, hget (hp ++ z) b = hget z b := fun z => hget_app hb2
    have s1 : ∀ z c, hset (g ++ z) b c = g ++ hset z b c := fun z c => hset_app hb
    have s2 : ∀ z c, hset (hp ++ z) b c = hp ++ hset z b c := fun z c => hset_app hb2
    refine gK.go ?_
    simp -implicitDefEqProofs [hcu, g1, g2, s1, s2]
    refine Post.dropR (fun i hi hm => hd i hm (by simpa [dom] using hi)) (.base ⟨_, rfl, o⟩)
abbrev k27_o0 : List AJ := [.o ⟨(some 2), none, false, .mv (.c (.bool false)), (some [0])⟩]
abbrev k27_o1 : List AJ := [.o ⟨(some 3), none, false, .mv (.t 0), none⟩, .o ⟨(some 4), none, false, .call 26 [(.t 3), (.c (.int .i64 0)), (.c (.int .i64 1000))], none⟩, .o ⟨(some 2), none, false, .mv (.t 4), (some [2])⟩]
def k27_2 : ACode := .seq (.region k27_o1) .ret
def k27_3 : ACode := .seq (.region k27_o0) k27_2
@[simp, simp ↓] theorem k27_2r : sR k27_2 k27_o1 .ret := yR rfl
@[simp, simp ↓] theorem k27_3r : sR k27_3 k27_o0 k27_2 := yR rfl
noncomputable abbrev k27_C : Orc → Cx := mkC Tryz.prog [] 27 5 [.tmp 2]
theorem k27_of0 : OfP0 Tryz.prog Tryz.f27 27 5 k27_C k27_3 := @ofP0 _ _ _ _ _ _ _ _ Tryz.func27 (by decide +kernel) rfl (by kernel_rfl) rfl (by kernel_rfl)
theorem l21Time_c (a : Int) (h : Heap) : ACalls Tryz.prog 27 [.int .i64 a] h (fun v h' => v = .bool (decide (0 ≤ a) && decide (a ≤ 1000)) ∧ h' = h) := by
  refine k27_of0 rfl orc1_p fun I => ?_
  refine Run2.of I 1000 ?_
  simp -implicitDefEqProofs
noncomputable def o_l21Time : List AV → Option (Prop × AV) := tab (fun (x : Int) => match x with | a => [.int .i64 a]) (fun x => match x with | a => True) (fun x => match x with | a => .bool (decide (0 ≤ a) && decide (a ≤ 1000)))
@[simp] theorem o_l21Time_e (a : Int) : o_l21Time [.int .i64 a] = some (True, .bool (decide (0 ≤ a) && decide (a ≤ 1000))) := tab_at (enc := fun (x : Int) => match x with | a => [.int .i64 a]) (fun x y h => by
  simp at h; simp [h] <;> omega) _ _ a
theorem o_l21Time_k : Knows Tryz.prog 27 o_l21Time := tab_knows fun x hx h => by
  exact l21Time_c _ h
noncomputable def orcJ0 : List (Nat × (List AV → Option (Prop × AV))) := (58, o_l00Own) :: []
theorem orcJ0_p : Pure Tryz.prog (lk orcJ0) := (lk_pure o_l00Own_k lk_pure0)
@[simp] theorem orcJ0_l (b : Bool) (g : FuncId) (l : List AV) : lk orcJ0 b g l = if g = 58 then o_l00Own l else none := nr rfl
abbrev k48_o0 : List AJ := [.o ⟨(some 4), none, false, .alloc true 1 (.agg [.nilsl]), (some [0, 1, 4])⟩]
abbrev k48_o1 : List AJ := [.e 7 1 none, .o ⟨(some 8), none, false, .build [.nilsl] [(0, 1, (.t 7))], none⟩, .o ⟨(some 5), none, false, .alloc true 1 (.agg [.nilsl]), none⟩, .o ⟨none, none, false, .store 1 (.t 5) (.t 8), (some [0, 1, 4, 5])⟩]
abbrev k48_o2 : List AJ := [.o ⟨(some 6), none, false, .mv (.c (.int .i64 0)), (some [0, 1, 4, 5, 6])⟩]
abbrev k48_o3 : List AJ := [.o ⟨(some 9), none, false, .mv (.t 6), none⟩, .o ⟨(some 10), none, false, .mv (.t 0), none⟩, .o ⟨(some 11), none, false, .nilchk (.t 10), none⟩, .o ⟨(some 12), none, false, .fieldA 1 (.t 11), none⟩, .o ⟨(some 13), none, false, .load 1 false (.t 12), none⟩, .o ⟨(some 14), none, false, .len (.t 13), none⟩, .o ⟨(some 15), none, false, .bin .lss (.t 9) (.t 14), (some [0, 1, 4, 5, 6, 15])⟩]
def k48_4 : ACode := .cond (.t 15) .skip (.exit 0)
def k48_5 : ACode := .seq (.region k48_o3) k48_4
abbrev k48_o4 : List AJ := [.o ⟨(some 18), none, false, .mv (.t 0), none⟩, .o ⟨(some 19), none, false, .nilchk (.t 18), none⟩, .o ⟨(some 20), none, false, .fieldA 1 (.t 19), none⟩, .o ⟨(some 21), none, false, .load 1 false (.t 20), none⟩, .o ⟨(some 22), none, false, .mv (.t 6), none⟩, .o ⟨(some 23), none, false, .idxA 1 (.t 21) (.t 22), none⟩, .o ⟨(some 24), none, false, .load 1 false (.t 23), none⟩, .o ⟨(some 25), none, false, .mv (.t 1), none⟩, .o ⟨(some 26), none, false, .bin .leq (.t 24) (.t 25), (some [0, 1, 4, 5, 6, 26])⟩]
abbrev k48_o5 : List AI := [⟨(some 27), none, false, .fieldA 0 (.t 5), none⟩, ⟨(some 28), none, false, .load 1 false (.t 27), none⟩, ⟨(some 29), none, false, .mv (.t 0), none⟩, ⟨(some 30), none, false, .nilchk (.t 29), none⟩, ⟨(some 31), none, false, .fieldA 0 (.t 30), none⟩, ⟨(some 32), none, false, .fieldA 0 (.t 31), none⟩, ⟨(some 33), none, false, .load 1 false (.t 32), none⟩, ⟨(some 34), none, false, .mv (.t 6), none⟩, ⟨(some 35), none, false, .idxA 1 (.t 33) (.t 34), none⟩, ⟨(some 36), none, false, .load 1 false (.t 35), none⟩, ⟨(some 37), none, false, .call 58 [(.t 36)], none⟩, ⟨(some 38), none, false, .bsl false 1 [(.t 37)], (some [0, 1, 4, 5, 6, 28, 38])⟩]
abbrev k48_o6 : List AJ := [.o ⟨(some 39), none, false, .append 1 24 (.t 28) (.t 38), none⟩, .o ⟨(some 40), none, false, .fieldA 0 (.t 5), none⟩, .o ⟨none, none, false, .store 1 (.t 40) (.t 39), (some [0, 1, 4, 5, 6])⟩]
def k48_7 : ACode := .draw k48_o5 k48_o6 rfl
def k48_8 : ACode := .cond (.t 26) k48_7 .skip
def k48_9 : ACode := .seq (.region k48_o4) k48_8
abbrev k48_o7 : List AJ := [.o ⟨(some 16), none, false, .mv (.t 6), none⟩, .o ⟨(some 17), none, true, .bin .add (.t 16) (.c (.int .i64 1)), none⟩, .o ⟨(some 6), none, false, .mv (.t 17), (some [0, 1, 4, 5, 6])⟩]
def k48_11 : ACode := .region k48_o7
def k48_12 : ACode := .seq (.block 1 k48_9) k48_11
def k48_13 : ACode := .seq k48_5 k48_12
def k48_14 : ACode := .loop k48_13
def k48_15 : ACode := .block 0 k48_14
def k48_16 : ACode := .seq (.region k48_o2) k48_15
abbrev k48_o8 : List AJ := [.o ⟨(some 41), none, false, .load 1 true (.t 5), none⟩, .o ⟨none, none, false, .store 1 (.t 4) (.t 41), (some [4])⟩]
def k48_18 : ACode := .seq (.region k48_o8) .ret
def k48_19 : ACode := .seq k48_16 k48_18
def k48_20 : ACode := .seq (.region k48_o1) k48_19
def k48_21 : ACode := .seq (.region k48_o0) k48_20
@[simp, simp ↓] theorem k48_4r : rC k48_4 (.t 15) .skip (.exit 0) := zC rfl
@[simp, simp ↓] theorem k48_5r : sR k48_5 k48_o3 k48_4 := yR rfl
@[simp, simp ↓] theorem k48_7r : rD k48_7 k48_o5 k48_o6 := zD rfl
@[simp, simp ↓] theorem k48_8r : rC k48_8 (.t 26) k48_7 .skip := zC rfl
@[simp, simp ↓] theorem k48_9r : sR k48_9 k48_o4 k48_8 := yR rfl
@[simp, simp ↓] theorem k48_11r : rR k48_11 k48_o7 := zR rfl
@[simp, simp ↓] theorem k48_12r : sB k48_12 1 k48_9 k48_11 := yB rfl
@[simp, simp ↓] theorem k48_13r : rS k48_13 k48_5 k48_12 := zS rfl
@[simp, simp ↓] theorem k48_14r : rL k48_14 k48_13 := zL rfl
@[simp, simp ↓] theorem k48_15r : rB k48_15 0 k48_14 := zB rfl
@[simp, simp ↓] theorem k48_16r : sR k48_16 k48_o2 k48_15 := yR rfl
@[simp, simp ↓] theorem k48_18r : sR k48_18 k48_o8 .ret := yR rfl
@[simp, simp ↓] theorem k48_19r : rS k48_19 k48_16 k48_18 := zS rfl
@[simp, simp ↓] theorem k48_20r : sR k48_20 k48_o1 k48_19 := yR rfl
@[simp, simp ↓] theorem k48_21r : sR k48_21 k48_o0 k48_20 := yR rfl
noncomputable abbrev k48_C : Orc → Cx := mkC Tryz.prog [4, 5, 7] 48 42 [.cell 4 1 true]
theorem k48_of : OfP Tryz.prog Tryz.f48 48 42 k48_C k48_21 := @ofP _ _ _ _ _ _ _ _ Tryz.func48 (by decide +kernel) rfl (by kernel_rfl) rfl (by kernel_rfl)
theorem l21At_c (x : Fil) (t : Int) (h : Heap) (hl : x.tot ≤ 1048576) (hv : x.valid) : ACalls Tryz.prog 48 [.ip [.snap 1 (x.rs.map il), .snap 1 (x.ts.map iv)], .int .i64 t] h (fun v h' => v = cx (x.atT t) ∧ h' = h) := by
  obtain ⟨hl1, hl2⟩ := x.lens hl
  have h48 := hv.1.2
  have htl := hv.2.1.1
  refine k48_of rfl orcJ0_p fun I => ?_
  refine Run2.of I 1000 ?_
  simp -implicitDefEqProofs
  intro b hb c hc1 hc2
  refine gK.go ?_
  simp -implicitDefEqProofs [hc1]
  refine Run2.loopE (α := Nat × AV × AV × Heap) (fun p => [(0, .ip [.snap 1 (x.rs.map il), .snap 1 (x.ts.map iv)]), (1, .int .i64 t), (4, .ptr b 1 0 0), (5, .ptr c 1 0 0), (6, .int .i64 (p.1 : Nat))]) (fun p => p.2.2.2 ++ ((c, ⟨1, [p.2.1]⟩) :: (b, ⟨1, [.agg [.nilsl]]⟩) :: h)) (fun p => x.ts.length - p.1) (fun p => p.1 ≤ x.ts.length ∧ cellsOf p.2.1 = [p.2.2.1] ∧ Grow 1 p.2.2.1 ((x.atN t p.1).map il) p.2.2.2 ∧ c ∉ dom p.2.2.2 ∧ b ∉ dom p.2.2.2) (0, .agg [.emp], .emp, []) (by simp) (by simp) ⟨Nat.zero_le _, rfl, by simpa [Fil.atN] using Grow.emp, by simp [dom], by simp [dom]⟩ ?_
  rintro ⟨i, u, w, hp⟩ ⟨hi, hu, hg, hcd, hbd⟩ ih
  simp only at hi hu hg hcd hbd
  have hcell := hg.cell
  have gC : ∀ z, hget (hp ++ z) c = hget z c := fun z => hget_app hcd
  have sC : ∀ z b, hset (hp ++ z) c b = hp ++ hset z c b := fun z b => hset_app hcd
  have gB : ∀ z, hget (hp ++ z) b = hget z b := fun z => hget_app hbd
  have sB : ∀ z c, hset (hp ++ z) b c = hp ++ hset z b c := fun z c => hset_app hbd
  by_cases hlt : i < x.ts.length
  · have hlt2 : i < x.rs.length := by omega
    have hal := x.atN_len t i
    have hrl := (fit_of_tot hl1).2 _ (List.getElem_mem hlt2)
    by_cases htt : x.ts[i] ≤ t
    · have go := fun w' hp' (g : Grow 1 w' ((x.atN t i).map il ++ [il x.rs[i]]) hp') (h1 : c ∉ dom hp') (h2 : b ∉ dom hp') => ih (i + 1, w', w', hp') ⟨hlt, cells_of g.cell, by
        simp only
        rw [Fil.atN_pos hlt2 hlt htt, List.map_append]
        exact g, h1, h2⟩ (by simp; omega)
      clear ih
      refine Run2.of I 1000 ?_
      simp -implicitDefEqProofs [hlt, hlt2, hu, gC, htt, hrl]
      refine hg.app_mid (pre := []) (fun _ _ h => by simp [dom] at h) (by simp; omega) (by simp) fun w' hp' hg' hd' => ?_
      have hcell' := hg'.cell
      have hc' : c ∉ dom hp' := fun hm => hd' c hm (by simp [dom])
      have hb' : b ∉ dom hp' := fun hm => hd' b hm (by simp [dom])
      have gC' : ∀ z, hget (hp' ++ z) c = hget z c := fun z => hget_app hc'
      have sC' : ∀ z b, hset (hp' ++ z) c b = hp' ++ hset z c b := fun z b => hset_app hc'
      have := go w' hp' hg' hc' hb'
      have hcl' := cells_of hcell'
      have hst' := stor_of hcell'
      simp -implicitDefEqProofs [hcell', hst', hcl', gC', sC', hu]
      refine ⟨by omega, ?_⟩
      simpa using this
    · have go := ih (i + 1, u, w, hp) ⟨hlt, hu, by simp only; rw [Fil.atN_neg hlt htt]; exact hg, hcd, hbd⟩ (by simp; omega)
      clear ih
      refine Run2.of I 1000 ?_
      simp -implicitDefEqProofs [hlt, hlt2, hu, gC, htt]
      refine ⟨by omega, ?_⟩
      simpa using go
  · obtain rfl : i = x.ts.length := by omega
    rw [htl, x.atN_all] at hg
    refine Run2.of I 1000 ?_
    simp -implicitDefEqProofs [hlt, hu, hcell, hc1, gC, sC, gB, sB]
    refine hg.froze (fun x => .agg [x]) (fun _ _ _ => rfl) (fun _ _ h => Wk.agg (.cons h .nil)) ?_
    refine .drop c (.drop b (.base ⟨rfl, ?_⟩))
    simp [hdel, hc1]
noncomputable def o_l21At : List AV → Option (Prop × AV) := tab (fun (x : LS × List Int × Int) => match x with | (rs, ts, t) => [.ip [.snap 1 (rs.map il), .snap 1 (ts.map iv)], .int .i64 t]) (fun x => match x with | (rs, ts, t) => ((⟨rs, ts⟩ : Fil).tot ≤ 1048576 ∧ (⟨rs, ts⟩ : Fil).valid)) (fun x => match x with | (rs, ts, t) => .agg [.snap 1 (((⟨rs, ts⟩ : Fil).atT t).map il)])
@[simp] theorem o_l21At_e (rs : LS) (ts : List Int) (t : Int) : o_l21At [.ip [.snap 1 (rs.map il), .snap 1 (ts.map iv)], .int .i64 t] = some (((⟨rs, ts⟩ : Fil).tot ≤ 1048576 ∧ (⟨rs, ts⟩ : Fil).valid), .agg [.snap 1 (((⟨rs, ts⟩ : Fil).atT t).map il)]) := tab_at (enc := fun (x : LS × List Int × Int) => match x with | (rs, ts, t) => [.ip [.snap 1 (rs.map il), .snap 1 (ts.map iv)], .int .i64 t]) (fun x y h => by
  obtain ⟨rs1, ts1, t1⟩ := x; obtain ⟨rs2, ts2, t2⟩ := y; simp at h; simp [h] <;> omega) _ _ (rs, ts, t)
theorem o_l21At_k : Knows Tryz.prog 48 o_l21At := tab_knows fun x hx h => by
  obtain ⟨rs, ts, t⟩ := x; exact l21At_c ⟨rs, ts⟩ t h hx.1 hx.2
end Go.AG
