/- What has come of a filtration at a time: the program and the reference. No statement is made here. -/
import Derived.Test.YtamjnegnoijjlaaFxI
import Derived.Test.YtamjnegnoijjlaaFxF
namespace Go.AG
open Go.Proofs Go.Proofs.Ytamjnegnoijjlaa
set_option linter.unusedSimpArgs false
set_option linter.unusedVariables false
set_option maxRecDepth 4000
/-- The blocks behind are not needed any more. -/
theorem Post.dropR {R : AV → Heap → Prop} {v : AV} {g : Heap} : ∀ {r : Heap}, (∀ i ∈ dom r, i ∉ dom g) → Post R v g → Post R v (g ++ r)
  | [], _, hk => by simpa using hk
  | (i, b) :: r, hd, hk => .drop i (by
    rw [hdel_app (hd i (by simp [dom]))]
    simp only [hdel, if_true]
    exact Post.dropR (fun j hj => hd j (by simp only [dom_cons]; exact List.mem_cons_of_mem _ hj)) hk)
theorem ssTot_sub {l m : List (List Int)} (h : l.Sublist m) : ssTot l ≤ ssTot m := by
  induction h with
  | slnil => simp
  | cons a _ ih => simp only [ssTot, sumL, List.length_cons, List.map_cons, List.sum_cons] at ih ⊢; omega
  | cons_cons a _ ih => simp only [ssTot, sumL, List.length_cons, List.map_cons, List.sum_cons] at ih ⊢; omega
theorem range_getD (rs : List (List Int)) : ((List.range rs.length).map fun k => rs.getD k []) = rs := by
  apply List.ext_getElem (by simp)
  intro i h1 h2
  simp [h2]
theorem subK_sub (rs : List (List Int)) (p : Nat → Bool) : (subK rs p).Sublist rs := by
  conv => rhs; rw [← range_getD rs]
  exact List.filter_sublist.map _
theorem Fil.atT_tot (x : Fil) (t : Int) : ssTot (x.atT t) ≤ ssTot x.rs := ssTot_sub (subK_sub ..)
/-- Of the first i. -/
def Fil.atN (x : Fil) (t : Int) (i : Nat) : List (List Int) := ((List.range i).filter fun k => decide (x.ts.getD k 0 ≤ t)).map fun k => x.rs.getD k []
theorem Fil.atN_all (x : Fil) (t : Int) : x.atN t x.rs.length = x.atT t := rfl
theorem Fil.atN_pos {x : Fil} {t : Int} {i : Nat} (h1 : i < x.rs.length) (h2 : i < x.ts.length) (h : x.ts[i] ≤ t) : x.atN t (i + 1) = x.atN t i ++ [x.rs[i]] := by
  unfold Fil.atN
  rw [List.range_succ, List.filter_append, List.map_append]
  simp [h1, h2, h]
theorem Fil.atN_neg {x : Fil} {t : Int} {i : Nat} (h2 : i < x.ts.length) (h : ¬ x.ts[i] ≤ t) : x.atN t (i + 1) = x.atN t i := by
  unfold Fil.atN
  rw [List.range_succ, List.filter_append, List.map_append]
  simp [h2, h]
theorem Fil.atN_len (x : Fil) (t : Int) (i : Nat) : (x.atN t i).length ≤ i := by
  unfold Fil.atN
  rw [List.length_map]
  exact Nat.le_trans (List.length_filter_le ..) (by simp)
abbrev k66_o0 : List AJ := [.o ⟨(some 2), none, false, .box false 2 (.t 0), none⟩, .o ⟨(some 4), none, false, .alloc true 1 (.agg [.nilsl]), (some [1, 2, 4])⟩]
abbrev k66_o1 : List AJ := [.o ⟨(some 5), none, false, .mv (.c .nilsl), (some [1, 2, 4, 5])⟩]
abbrev k66_o2 : List AJ := [.o ⟨(some 8), none, false, .fieldA 0 (.t 2), none⟩, .o ⟨(some 9), none, false, .fieldA 0 (.t 8), none⟩, .o ⟨(some 10), none, false, .load 1 false (.t 9), none⟩, .o ⟨(some 11), none, false, .len (.t 10), none⟩, .o ⟨(some 12), none, false, .mv (.c (.int .i64 0)), (some [1, 2, 4, 5, 10, 11, 12])⟩]
abbrev k66_o3 : List AJ := [.o ⟨(some 13), none, false, .bin .lss (.t 12) (.t 11), (some [1, 2, 4, 5, 10, 11, 12, 13])⟩]
abbrev k66_o4 : List AJ := [.o ⟨(some 14), none, false, .mv (.t 12), none⟩, .o ⟨(some 15), none, false, .idxA 1 (.t 10) (.t 12), none⟩, .o ⟨(some 16), none, false, .load 1 false (.t 15), none⟩, .o ⟨(some 6), none, false, .mv (.t 14), none⟩, .o ⟨(some 7), none, false, .mv (.t 16), (some [1, 2, 4, 5, 6, 7, 10, 11, 12])⟩]
abbrev k66_o5 : List AJ := [.o ⟨(some 17), none, false, .fieldA 1 (.t 2), none⟩, .o ⟨(some 18), none, false, .load 1 false (.t 17), none⟩, .o ⟨(some 19), none, false, .mv (.t 6), none⟩, .o ⟨(some 20), none, false, .idxA 1 (.t 18) (.t 19), none⟩, .o ⟨(some 21), none, false, .load 1 false (.t 20), none⟩, .o ⟨(some 22), none, false, .mv (.t 1), none⟩, .o ⟨(some 23), none, false, .bin .leq (.t 21) (.t 22), (some [1, 2, 4, 5, 7, 10, 11, 12, 23])⟩]
abbrev k66_o6 : List AJ := [.o ⟨(some 24), none, false, .mv (.t 5), none⟩, .o ⟨(some 25), none, false, .mv (.t 7), none⟩, .o ⟨(some 26), none, false, .bsl false 1 [(.t 25)], none⟩, .o ⟨(some 27), none, false, .append 1 24 (.t 24) (.t 26), none⟩, .o ⟨(some 5), none, false, .mv (.t 27), (some [1, 2, 4, 5, 10, 11, 12])⟩]
def k66_7 : ACode := .region k66_o6
def k66_8 : ACode := .cond (.t 23) k66_7 .skip
def k66_9 : ACode := .seq (.region k66_o5) k66_8
def k66_10 : ACode := .seq (.region k66_o4) k66_9
abbrev k66_o7 : List AJ := [.o ⟨(some 28), none, true, .bin .add (.t 12) (.c (.int .i64 1)), none⟩, .o ⟨(some 12), none, false, .mv (.t 28), (some [1, 2, 4, 5, 10, 11, 12])⟩]
def k66_12 : ACode := .region k66_o7
def k66_13 : ACode := .seq (.block 1 k66_10) k66_12
def k66_14 : ACode := .seq (.cond (.t 13) .skip (.exit 0)) k66_13
def k66_15 : ACode := .seq (.region k66_o3) k66_14
def k66_16 : ACode := .loop k66_15
def k66_17 : ACode := .block 0 k66_16
def k66_18 : ACode := .seq (.region k66_o2) k66_17
abbrev k66_o8 : List AJ := [.o ⟨(some 29), none, false, .mv (.t 5), none⟩, .o ⟨(some 30), none, false, .call 75 [(.t 29)], none⟩, .o ⟨none, none, false, .store 1 (.t 4) (.t 30), (some [4])⟩]
def k66_20 : ACode := .seq (.region k66_o8) .ret
def k66_21 : ACode := .seq k66_18 k66_20
def k66_22 : ACode := .seq (.region k66_o1) k66_21
def k66_23 : ACode := .seq (.region k66_o0) k66_22
@[simp, simp ↓] theorem k66_7r : rR k66_7 k66_o6 := zR rfl
@[simp, simp ↓] theorem k66_8r : rC k66_8 (.t 23) k66_7 .skip := zC rfl
@[simp, simp ↓] theorem k66_9r : sR k66_9 k66_o5 k66_8 := yR rfl
@[simp, simp ↓] theorem k66_10r : sR k66_10 k66_o4 k66_9 := yR rfl
@[simp, simp ↓] theorem k66_12r : rR k66_12 k66_o7 := zR rfl
@[simp, simp ↓] theorem k66_13r : sB k66_13 1 k66_10 k66_12 := yB rfl
@[simp, simp ↓] theorem k66_14r : sC k66_14 (.t 13) .skip (.exit 0) k66_13 := yC rfl
@[simp, simp ↓] theorem k66_15r : sR k66_15 k66_o3 k66_14 := yR rfl
@[simp, simp ↓] theorem k66_16r : rL k66_16 k66_15 := zL rfl
@[simp, simp ↓] theorem k66_17r : rB k66_17 0 k66_16 := zB rfl
@[simp, simp ↓] theorem k66_18r : sR k66_18 k66_o2 k66_17 := yR rfl
@[simp, simp ↓] theorem k66_20r : sR k66_20 k66_o8 .ret := yR rfl
@[simp, simp ↓] theorem k66_21r : rS k66_21 k66_18 k66_20 := zS rfl
@[simp, simp ↓] theorem k66_22r : sR k66_22 k66_o1 k66_21 := yR rfl
@[simp, simp ↓] theorem k66_23r : sR k66_23 k66_o0 k66_22 := yR rfl
noncomputable abbrev k66_C : Orc → Cx := mkC Try.prog [4] 66 31 [.cell 4 1 true]
theorem k66_of : OfP Try.prog Try.f66 66 31 k66_C k66_23 := @ofP _ _ _ _ _ _ _ _ Try.func66 (by decide +kernel) rfl (by kernel_rfl) rfl (by kernel_rfl)
theorem complexAt_o (x : Fil) (t : Int) (hl : x.tot ≤ 1048576) (hv : x.valid) : ACalls Try.prog 66 [x.av, .int .i64 t] [] (fun v h' => OwnCx v (x.atT t) h') := by
  obtain ⟨hl1, hl2⟩ := x.lens hl
  have h48 := hv.1.2
  have htl := hv.2.1.1
  have hok := Fil.atT_ok hv t
  have hat := x.atT_tot t
  refine k66_of rfl noPure fun I => ?_
  refine Run2.of I 1000 ?_
  simp -implicitDefEqProofs
  intro b
  refine Run2.loopE (α := Nat × AV × Heap) (fun p => [(1, .int .i64 t), (2, .ip [.snap 1 (x.rs.map il), .snap 1 (x.ts.map iv)]), (4, .ptr b 1 0 0), (5, p.2.1), (10, .snap 1 (x.rs.map il)), (11, .int .i64 x.rs.length), (12, .int .i64 (p.1 : Nat))]) (fun p => p.2.2 ++ [(b, ⟨1, [.agg [.nilsl]]⟩)]) (fun p => x.rs.length - p.1) (fun p => p.1 ≤ x.rs.length ∧ Grow 1 p.2.1 ((x.atN t p.1).map il) p.2.2) (0, .nilsl, []) (by simp) rfl ⟨Nat.zero_le _, by simpa [Fil.atN] using Grow.nil⟩ ?_
  rintro ⟨i, w, hp⟩ ⟨hi, hg⟩ ih
  simp only at hi hg
  have hcell := hg.cell
  by_cases hlt : i < x.rs.length
  · have hlt2 : i < x.ts.length := by omega
    have hal := x.atN_len t i
    by_cases htt : x.ts[i] ≤ t
    · have go := fun w' hp' (g : Grow 1 w' ((x.atN t i).map il ++ [il x.rs[i]]) hp') => ih (i + 1, w', hp') ⟨hlt, by
        simp only
        rw [Fil.atN_pos hlt hlt2 htt, List.map_append]
        exact g⟩ (by simp; omega)
      clear ih
      refine Run2.of I 1000 ?_
      simp -implicitDefEqProofs [hlt, hlt2, hcell, htt]
      refine hg.app (by simp; omega) (by simp) fun w' hp' hg' => ?_
      have hcell' := hg'.cell
      have := go w' hp' hg'
      simp -implicitDefEqProofs [hcell']
      refine ⟨by omega, ?_⟩
      simpa using this
    · have go := ih (i + 1, w, hp) ⟨hlt, by simp only; rw [Fil.atN_neg hlt2 htt]; exact hg⟩ (by simp; omega)
      clear ih
      refine Run2.of I 1000 ?_
      simp -implicitDefEqProofs [hlt, hlt2, hcell, htt]
      refine ⟨by omega, ?_⟩
      simpa using go
  · obtain rfl : i = x.rs.length := by omega
    rw [x.atN_all] at hg
    refine Run2.of I 1000 ?_
    simp -implicitDefEqProofs [hlt, hcell]
    refine (inOrder_g hg [(b, ⟨1, [.agg [.nilsl]]⟩)] (by omega) hok.2 hok.sort).monoN ?_
    rintro v h' ⟨g, ⟨u, rfl, o⟩, hd, rfl⟩ nd
    have hcu := o.cell
    have hb : b ∉ dom g := fun hm => hd b hm (by simp [dom])
    have hb2 : b ∉ dom hp := fun hm => by
      simp only [dom_append, List.nodup_append] at nd
      exact nd.2.1.2.2 b hm b (by simp) rfl
    have g1 : ∀ z, hget (g ++ z) b = hget z b := fun z => hget_app hb
    have g2 : ∀ z, hget (hp ++ z) b = hget z b := fun z => hget_app hb2
    have s1 : ∀ z c, hset (g ++ z) b c = g ++ hset z b c := fun z c => hset_app hb
    have s2 : ∀ z c, hset (hp ++ z) b c = hp ++ hset z b c := fun z c => hset_app hb2
    refine gK.go ?_
    simp -implicitDefEqProofs [hcu, g1, g2, s1, s2]
    refine Post.dropR (fun i hi hm => hd i hm (by simpa [dom] using hi)) (.base ⟨_, rfl, o⟩)
abbrev k63_o0 : List AJ := [.o ⟨(some 2), none, false, .mv (.c (.bool false)), (some [0])⟩]
abbrev k63_o1 : List AJ := [.o ⟨(some 3), none, false, .mv (.t 0), none⟩, .o ⟨(some 4), none, false, .call 67 [(.t 3), (.c (.int .i64 0)), (.c (.int .i64 1000))], none⟩, .o ⟨(some 2), none, false, .mv (.t 4), (some [2])⟩]
def k63_2 : ACode := .seq (.region k63_o1) .ret
def k63_3 : ACode := .seq (.region k63_o0) k63_2
@[simp, simp ↓] theorem k63_2r : sR k63_2 k63_o1 .ret := yR rfl
@[simp, simp ↓] theorem k63_3r : sR k63_3 k63_o0 k63_2 := yR rfl
noncomputable abbrev k63_C : Orc → Cx := mkC Try.prog [] 63 5 [.tmp 2]
theorem k63_of0 : OfP0 Try.prog Try.f63 63 5 k63_C k63_3 := @ofP0 _ _ _ _ _ _ _ _ Try.func63 (by decide +kernel) rfl (by kernel_rfl) rfl (by kernel_rfl)
theorem l21Time_c (a : Int) (h : Heap) : ACalls Try.prog 63 [.int .i64 a] h (fun v h' => v = .bool (decide (0 ≤ a) && decide (a ≤ 1000)) ∧ h' = h) := by
  refine k63_of0 rfl orc1_p fun I => ?_
  refine Run2.of I 1000 ?_
  simp -implicitDefEqProofs
noncomputable def o_l21Time : List AV → Option (Prop × AV) := tab (fun (x : Int) => match x with | a => [.int .i64 a]) (fun x => match x with | a => True) (fun x => match x with | a => .bool (decide (0 ≤ a) && decide (a ≤ 1000)))
@[simp] theorem o_l21Time_e (a : Int) : o_l21Time [.int .i64 a] = some (True, .bool (decide (0 ≤ a) && decide (a ≤ 1000))) := tab_at (enc := fun (x : Int) => match x with | a => [.int .i64 a]) (fun x y h => by
  simp at h; simp [h] <;> omega) _ _ a
theorem o_l21Time_k : Knows Try.prog 63 o_l21Time := tab_knows fun x hx h => by
  exact l21Time_c _ h
noncomputable def orcJ0 : List (Nat × (List AV → Option (Prop × AV))) := (89, o_l00Own) :: []
theorem orcJ0_p : Pure Try.prog (lk orcJ0) := (lk_pure o_l00Own_k lk_pure0)
@[simp] theorem orcJ0_l (b : Bool) (g : FuncId) (l : List AV) : lk orcJ0 b g l = if g = 89 then o_l00Own l else none := nr rfl
abbrev k64_o0 : List AJ := [.o ⟨(some 4), none, false, .alloc true 1 (.agg [.nilsl]), (some [0, 1, 4])⟩]
abbrev k64_o1 : List AJ := [.e 7 1 none, .o ⟨(some 8), none, false, .build [.nilsl] [(0, 1, (.t 7))], none⟩, .o ⟨(some 5), none, false, .alloc true 1 (.agg [.nilsl]), none⟩, .o ⟨none, none, false, .store 1 (.t 5) (.t 8), (some [0, 1, 4, 5])⟩]
abbrev k64_o2 : List AJ := [.o ⟨(some 6), none, false, .mv (.c (.int .i64 0)), (some [0, 1, 4, 5, 6])⟩]
abbrev k64_o3 : List AJ := [.o ⟨(some 9), none, false, .mv (.t 6), none⟩, .o ⟨(some 10), none, false, .mv (.t 0), none⟩, .o ⟨(some 11), none, false, .nilchk (.t 10), none⟩, .o ⟨(some 12), none, false, .fieldA 1 (.t 11), none⟩, .o ⟨(some 13), none, false, .load 1 false (.t 12), none⟩, .o ⟨(some 14), none, false, .len (.t 13), none⟩, .o ⟨(some 15), none, false, .bin .lss (.t 9) (.t 14), (some [0, 1, 4, 5, 6, 15])⟩]
def k64_4 : ACode := .cond (.t 15) .skip (.exit 0)
def k64_5 : ACode := .seq (.region k64_o3) k64_4
abbrev k64_o4 : List AJ := [.o ⟨(some 18), none, false, .mv (.t 0), none⟩, .o ⟨(some 19), none, false, .nilchk (.t 18), none⟩, .o ⟨(some 20), none, false, .fieldA 1 (.t 19), none⟩, .o ⟨(some 21), none, false, .load 1 false (.t 20), none⟩, .o ⟨(some 22), none, false, .mv (.t 6), none⟩, .o ⟨(some 23), none, false, .idxA 1 (.t 21) (.t 22), none⟩, .o ⟨(some 24), none, false, .load 1 false (.t 23), none⟩, .o ⟨(some 25), none, false, .mv (.t 1), none⟩, .o ⟨(some 26), none, false, .bin .leq (.t 24) (.t 25), (some [0, 1, 4, 5, 6, 26])⟩]
abbrev k64_o5 : List AI := [⟨(some 27), none, false, .fieldA 0 (.t 5), none⟩, ⟨(some 28), none, false, .load 1 false (.t 27), none⟩, ⟨(some 29), none, false, .mv (.t 0), none⟩, ⟨(some 30), none, false, .nilchk (.t 29), none⟩, ⟨(some 31), none, false, .fieldA 0 (.t 30), none⟩, ⟨(some 32), none, false, .fieldA 0 (.t 31), none⟩, ⟨(some 33), none, false, .load 1 false (.t 32), none⟩, ⟨(some 34), none, false, .mv (.t 6), none⟩, ⟨(some 35), none, false, .idxA 1 (.t 33) (.t 34), none⟩, ⟨(some 36), none, false, .load 1 false (.t 35), none⟩, ⟨(some 37), none, false, .call 89 [(.t 36)], none⟩, ⟨(some 38), none, false, .bsl false 1 [(.t 37)], (some [0, 1, 4, 5, 6, 28, 38])⟩]
abbrev k64_o6 : List AJ := [.o ⟨(some 39), none, false, .append 1 24 (.t 28) (.t 38), none⟩, .o ⟨(some 40), none, false, .fieldA 0 (.t 5), none⟩, .o ⟨none, none, false, .store 1 (.t 40) (.t 39), (some [0, 1, 4, 5, 6])⟩]
def k64_7 : ACode := .draw k64_o5 k64_o6 rfl
def k64_8 : ACode := .cond (.t 26) k64_7 .skip
def k64_9 : ACode := .seq (.region k64_o4) k64_8
abbrev k64_o7 : List AJ := [.o ⟨(some 16), none, false, .mv (.t 6), none⟩, .o ⟨(some 17), none, true, .bin .add (.t 16) (.c (.int .i64 1)), none⟩, .o ⟨(some 6), none, false, .mv (.t 17), (some [0, 1, 4, 5, 6])⟩]
def k64_11 : ACode := .region k64_o7
def k64_12 : ACode := .seq (.block 1 k64_9) k64_11
def k64_13 : ACode := .seq k64_5 k64_12
def k64_14 : ACode := .loop k64_13
def k64_15 : ACode := .block 0 k64_14
def k64_16 : ACode := .seq (.region k64_o2) k64_15
abbrev k64_o8 : List AJ := [.o ⟨(some 41), none, false, .load 1 true (.t 5), none⟩, .o ⟨none, none, false, .store 1 (.t 4) (.t 41), (some [4])⟩]
def k64_18 : ACode := .seq (.region k64_o8) .ret
def k64_19 : ACode := .seq k64_16 k64_18
def k64_20 : ACode := .seq (.region k64_o1) k64_19
def k64_21 : ACode := .seq (.region k64_o0) k64_20
@[simp, simp ↓] theorem k64_4r : rC k64_4 (.t 15) .skip (.exit 0) := zC rfl
@[simp, simp ↓] theorem k64_5r : sR k64_5 k64_o3 k64_4 := yR rfl
@[simp, simp ↓] theorem k64_7r : rD k64_7 k64_o5 k64_o6 := zD rfl
@[simp, simp ↓] theorem k64_8r : rC k64_8 (.t 26) k64_7 .skip := zC rfl
@[simp, simp ↓] theorem k64_9r : sR k64_9 k64_o4 k64_8 := yR rfl
@[simp, simp ↓] theorem k64_11r : rR k64_11 k64_o7 := zR rfl
@[simp, simp ↓] theorem k64_12r : sB k64_12 1 k64_9 k64_11 := yB rfl
@[simp, simp ↓] theorem k64_13r : rS k64_13 k64_5 k64_12 := zS rfl
@[simp, simp ↓] theorem k64_14r : rL k64_14 k64_13 := zL rfl
@[simp, simp ↓] theorem k64_15r : rB k64_15 0 k64_14 := zB rfl
@[simp, simp ↓] theorem k64_16r : sR k64_16 k64_o2 k64_15 := yR rfl
@[simp, simp ↓] theorem k64_18r : sR k64_18 k64_o8 .ret := yR rfl
@[simp, simp ↓] theorem k64_19r : rS k64_19 k64_16 k64_18 := zS rfl
@[simp, simp ↓] theorem k64_20r : sR k64_20 k64_o1 k64_19 := yR rfl
@[simp, simp ↓] theorem k64_21r : sR k64_21 k64_o0 k64_20 := yR rfl
noncomputable abbrev k64_C : Orc → Cx := mkC Try.prog [4, 5, 7] 64 42 [.cell 4 1 true]
theorem k64_of : OfP Try.prog Try.f64 64 42 k64_C k64_21 := @ofP _ _ _ _ _ _ _ _ Try.func64 (by decide +kernel) rfl (by kernel_rfl) rfl (by kernel_rfl)
theorem l21At_c (x : Fil) (t : Int) (h : Heap) (hl : x.tot ≤ 1048576) (hv : x.valid) : ACalls Try.prog 64 [.ip [.snap 1 (x.rs.map il), .snap 1 (x.ts.map iv)], .int .i64 t] h (fun v h' => v = cx (x.atT t) ∧ h' = h) := by
  obtain ⟨hl1, hl2⟩ := x.lens hl
  have h48 := hv.1.2
  have htl := hv.2.1.1
  refine k64_of rfl orcJ0_p fun I => ?_
  refine Run2.of I 1000 ?_
  simp -implicitDefEqProofs
  intro b hb c hc1 hc2
  refine gK.go ?_
  simp -implicitDefEqProofs [hc1]
  refine Run2.loopE (α := Nat × AV × AV × Heap) (fun p => [(0, .ip [.snap 1 (x.rs.map il), .snap 1 (x.ts.map iv)]), (1, .int .i64 t), (4, .ptr b 1 0 0), (5, .ptr c 1 0 0), (6, .int .i64 (p.1 : Nat))]) (fun p => p.2.2.2 ++ ((c, ⟨1, [p.2.1]⟩) :: (b, ⟨1, [.agg [.nilsl]]⟩) :: h)) (fun p => x.ts.length - p.1) (fun p => p.1 ≤ x.ts.length ∧ cellsOf p.2.1 = [p.2.2.1] ∧ Grow 1 p.2.2.1 ((x.atN t p.1).map il) p.2.2.2 ∧ c ∉ dom p.2.2.2 ∧ b ∉ dom p.2.2.2) (0, .agg [.emp], .emp, []) (by simp) (by simp) ⟨Nat.zero_le _, rfl, by simpa [Fil.atN] using Grow.emp, by simp [dom], by simp [dom]⟩ ?_
  rintro ⟨i, u, w, hp⟩ ⟨hi, hu, hg, hcd, hbd⟩ ih
  simp only at hi hu hg hcd hbd
  have hcell := hg.cell
  have gC : ∀ z, hget (hp ++ z) c = hget z c := fun z => hget_app hcd
  have sC : ∀ z b, hset (hp ++ z) c b = hp ++ hset z c b := fun z b => hset_app hcd
  have gB : ∀ z, hget (hp ++ z) b = hget z b := fun z => hget_app hbd
  have sB : ∀ z c, hset (hp ++ z) b c = hp ++ hset z b c := fun z c => hset_app hbd
  by_cases hlt : i < x.ts.length
  · have hlt2 : i < x.rs.length := by omega
    have hal := x.atN_len t i
    have hrl := (fit_of_tot hl1).2 _ (List.getElem_mem hlt2)
    by_cases htt : x.ts[i] ≤ t
    · have go := fun w' hp' (g : Grow 1 w' ((x.atN t i).map il ++ [il x.rs[i]]) hp') (h1 : c ∉ dom hp') (h2 : b ∉ dom hp') => ih (i + 1, w', w', hp') ⟨hlt, cells_of g.cell, by
        simp only
        rw [Fil.atN_pos hlt2 hlt htt, List.map_append]
        exact g, h1, h2⟩ (by simp; omega)
      clear ih
      refine Run2.of I 1000 ?_
      simp -implicitDefEqProofs [hlt, hlt2, hu, gC, htt, hrl]
      refine hg.app_mid (pre := []) (fun _ _ h => by simp [dom] at h) (by simp; omega) (by simp) fun w' hp' hg' hd' => ?_
      have hcell' := hg'.cell
      have hc' : c ∉ dom hp' := fun hm => hd' c hm (by simp [dom])
      have hb' : b ∉ dom hp' := fun hm => hd' b hm (by simp [dom])
      have gC' : ∀ z, hget (hp' ++ z) c = hget z c := fun z => hget_app hc'
      have sC' : ∀ z b, hset (hp' ++ z) c b = hp' ++ hset z c b := fun z b => hset_app hc'
      have := go w' hp' hg' hc' hb'
      have hcl' := cells_of hcell'
      have hst' := stor_of hcell'
      simp -implicitDefEqProofs [hcell', hst', hcl', gC', sC', hu]
      refine ⟨by omega, ?_⟩
      simpa using this
    · have go := ih (i + 1, u, w, hp) ⟨hlt, hu, by simp only; rw [Fil.atN_neg hlt htt]; exact hg, hcd, hbd⟩ (by simp; omega)
      clear ih
      refine Run2.of I 1000 ?_
      simp -implicitDefEqProofs [hlt, hlt2, hu, gC, htt]
      refine ⟨by omega, ?_⟩
      simpa using go
  · obtain rfl : i = x.ts.length := by omega
    rw [htl, x.atN_all] at hg
    refine Run2.of I 1000 ?_
    simp -implicitDefEqProofs [hlt, hu, hcell, hc1, gC, sC, gB, sB]
    refine hg.froze (fun x => .agg [x]) (fun _ _ _ => rfl) (fun _ _ h => Wk.agg (.cons h .nil)) ?_
    refine .drop c (.drop b (.base ⟨rfl, ?_⟩))
    simp [hdel, hc1]
noncomputable def o_l21At : List AV → Option (Prop × AV) := tab (fun (x : LS × List Int × Int) => match x with | (rs, ts, t) => [.ip [.snap 1 (rs.map il), .snap 1 (ts.map iv)], .int .i64 t]) (fun x => match x with | (rs, ts, t) => ((⟨rs, ts⟩ : Fil).tot ≤ 1048576 ∧ (⟨rs, ts⟩ : Fil).valid)) (fun x => match x with | (rs, ts, t) => .agg [.snap 1 (((⟨rs, ts⟩ : Fil).atT t).map il)])
@[simp] theorem o_l21At_e (rs : LS) (ts : List Int) (t : Int) : o_l21At [.ip [.snap 1 (rs.map il), .snap 1 (ts.map iv)], .int .i64 t] = some (((⟨rs, ts⟩ : Fil).tot ≤ 1048576 ∧ (⟨rs, ts⟩ : Fil).valid), .agg [.snap 1 (((⟨rs, ts⟩ : Fil).atT t).map il)]) := tab_at (enc := fun (x : LS × List Int × Int) => match x with | (rs, ts, t) => [.ip [.snap 1 (rs.map il), .snap 1 (ts.map iv)], .int .i64 t]) (fun x y h => by
  obtain ⟨rs1, ts1, t1⟩ := x; obtain ⟨rs2, ts2, t2⟩ := y; simp at h; simp [h] <;> omega) _ _ (rs, ts, t)
theorem o_l21At_k : Knows Try.prog 64 o_l21At := tab_knows fun x hx h => by
  obtain ⟨rs, ts, t⟩ := x; exact l21At_c ⟨rs, ts⟩ t h hx.1 hx.2
noncomputable def orcJ1 : List (Nat × (List AV → Option (Prop × AV))) := (16, o_validFil) :: (57, o_isTime) :: []
theorem orcJ1_p : Pure Try.prog (lk orcJ1) := (lk_pure o_validFil_k (lk_pure o_isTime_k lk_pure0))
@[simp] theorem orcJ1_l (b : Bool) (g : FuncId) (l : List AV) : lk orcJ1 b g l = if g = 16 then o_validFil l else if g = 57 then o_isTime l else none := nr rfl
abbrev k65_o0 : List AJ := [.o ⟨(some 2), none, false, .box false 2 (.t 0), none⟩, .o ⟨(some 4), none, false, .mv (.c (.int .i64 0)), (some [1, 2])⟩]
abbrev k65_o1 : List AJ := [.o ⟨(some 6), none, false, .load 2 true (.t 2), none⟩, .o ⟨(some 7), none, false, .call 16 [(.t 6)], none⟩, .o ⟨(some 8), none, false, .un .not (.t 7), none⟩, .o ⟨(some 5), none, false, .mv (.t 8), (some [1, 5])⟩]
abbrev k65_o2 : List AJ := [.o ⟨(some 4), none, false, .mv (.c (.int .i64 1)), (some [4])⟩]
def k65_3 : ACode := .seq (.region k65_o2) .ret
abbrev k65_o3 : List AJ := [.o ⟨(some 10), none, false, .mv (.t 1), none⟩, .o ⟨(some 11), none, false, .call 57 [(.t 10)], none⟩, .o ⟨(some 12), none, false, .un .not (.t 11), none⟩, .o ⟨(some 9), none, false, .mv (.t 12), (some [9])⟩]
abbrev k65_o4 : List AJ := [.o ⟨(some 4), none, false, .mv (.c (.int .i64 2)), (some [4])⟩]
def k65_6 : ACode := .seq (.region k65_o4) .ret
def k65_7 : ACode := .cond (.t 9) k65_6 .skip
def k65_8 : ACode := .seq (.region k65_o3) k65_7
def k65_9 : ACode := .cond (.t 5) k65_3 k65_8
def k65_10 : ACode := .seq (.region k65_o1) k65_9
abbrev k65_o5 : List AJ := [.o ⟨(some 4), none, false, .mv (.c (.int .i64 0)), (some [4])⟩]
def k65_13 : ACode := .seq (.region k65_o5) .ret
def k65_14 : ACode := .seq (.block 0 k65_10) k65_13
def k65_15 : ACode := .seq (.region k65_o0) k65_14
@[simp, simp ↓] theorem k65_3r : sR k65_3 k65_o2 .ret := yR rfl
@[simp, simp ↓] theorem k65_6r : sR k65_6 k65_o4 .ret := yR rfl
@[simp, simp ↓] theorem k65_7r : rC k65_7 (.t 9) k65_6 .skip := zC rfl
@[simp, simp ↓] theorem k65_8r : sR k65_8 k65_o3 k65_7 := yR rfl
@[simp, simp ↓] theorem k65_9r : rC k65_9 (.t 5) k65_3 k65_8 := zC rfl
@[simp, simp ↓] theorem k65_10r : sR k65_10 k65_o1 k65_9 := yR rfl
@[simp, simp ↓] theorem k65_13r : sR k65_13 k65_o5 .ret := yR rfl
@[simp, simp ↓] theorem k65_14r : sB k65_14 0 k65_10 k65_13 := yB rfl
@[simp, simp ↓] theorem k65_15r : sR k65_15 k65_o0 k65_14 := yR rfl
noncomputable abbrev k65_C : Orc → Cx := mkC Try.prog [] 65 13 [.tmp 4]
theorem k65_of0 : OfP0 Try.prog Try.f65 65 13 k65_C k65_15 := @ofP0 _ _ _ _ _ _ _ _ Try.func65 (by decide +kernel) rfl (by kernel_rfl) rfl (by kernel_rfl)
noncomputable def Fil.tCode (x : Fil) (t : Int) : Int := if x.valid then if 0 ≤ t ∧ t ≤ 1000 then 0 else 2 else 1
theorem timed_s (x : Fil) (t : Int) (h : Heap) (hl : x.tot ≤ 1048576) : ACalls Try.prog 65 [x.av, .int .i64 t] h (fun v h' => v = .int .i64 (x.tCode t) ∧ h' = h) := by
  refine k65_of0 rfl orcJ1_p fun I => ?_
  unfold Fil.tCode
  by_cases hv : x.valid
  · by_cases ht : 0 ≤ t ∧ t ≤ 1000
    · have ht' : (decide (0 ≤ t) && decide (t ≤ 1000)) = true := by simp [ht]
      refine Run2.of I 1000 ?_
      simp -implicitDefEqProofs [hl, hv, ht, ht']
    · have ht' : (decide (0 ≤ t) && decide (t ≤ 1000)) = false := by rw [Bool.eq_false_iff]; simpa using ht
      refine Run2.of I 1000 ?_
      simp -implicitDefEqProofs [hl, hv, ht, ht']
  · refine Run2.of I 1000 ?_
    simp -implicitDefEqProofs [hl, hv]
noncomputable def o_timed : List AV → Option (Prop × AV) := tab (fun (x : LS × List Int × Int) => match x with | (rs, ts, t) => [.agg [.snap 1 (rs.map il), .snap 1 (ts.map iv)], .int .i64 t]) (fun x => match x with | (rs, ts, t) => (⟨rs, ts⟩ : Fil).tot ≤ 1048576) (fun x => match x with | (rs, ts, t) => .int .i64 ((⟨rs, ts⟩ : Fil).tCode t))
@[simp] theorem o_timed_e (rs : LS) (ts : List Int) (t : Int) : o_timed [.agg [.snap 1 (rs.map il), .snap 1 (ts.map iv)], .int .i64 t] = some ((⟨rs, ts⟩ : Fil).tot ≤ 1048576, .int .i64 ((⟨rs, ts⟩ : Fil).tCode t)) := tab_at (enc := fun (x : LS × List Int × Int) => match x with | (rs, ts, t) => [.agg [.snap 1 (rs.map il), .snap 1 (ts.map iv)], .int .i64 t]) (fun x y h => by
  obtain ⟨rs1, ts1, t1⟩ := x; obtain ⟨rs2, ts2, t2⟩ := y; simp at h; simp [h] <;> omega) _ _ (rs, ts, t)
theorem o_timed_k : Knows Try.prog 65 o_timed := tab_knows fun x hx h => by
  obtain ⟨rs, ts, t⟩ := x; exact timed_s ⟨rs, ts⟩ t h hx
noncomputable def orcJ2 : List (Nat × (List AV → Option (Prop × AV))) := (65, o_timed) :: (53, o_l21Ok) :: (63, o_l21Time) :: (64, o_l21At) :: []
theorem orcJ2_p : Pure Try.prog (lk orcJ2) := (lk_pure o_timed_k (lk_pure o_l21Ok_k (lk_pure o_l21Time_k (lk_pure o_l21At_k lk_pure0))))
@[simp] theorem orcJ2_l (b : Bool) (g : FuncId) (l : List AV) : lk orcJ2 b g l = if g = 65 then o_timed l else if g = 53 then o_l21Ok l else if g = 63 then o_l21Time l else if g = 64 then o_l21At l else none := nr rfl
noncomputable def Fil.cAt (x : Fil) (t : Int) : List (List Int) := if x.tCode t = 0 then x.atT t else []
theorem Fil.tCode_ok {x : Fil} {t : Int} (h : x.tCode t = 0) : x.valid ∧ 0 ≤ t ∧ t ≤ 1000 := by
  unfold Fil.tCode at h
  split at h
  · split at h
    · exact ⟨by assumption, by assumption⟩
    · omega
  · omega
theorem Fil.cAt_tot (x : Fil) (t : Int) : ssTot (x.cAt t) ≤ ssTot x.rs := by
  unfold Fil.cAt
  split
  · exact x.atT_tot t
  · simp [ssTot, sumL]
abbrev k25_o0 : List AJ := [.o ⟨(some 2), none, false, .box false 2 (.t 0), none⟩, .o ⟨(some 4), none, false, .alloc true 1 (.agg [.nilsl]), none⟩, .o ⟨(some 5), none, false, .mv (.c (.int .i64 0)), (some [1, 2, 4])⟩]
abbrev k25_o1 : List AJ := [.o ⟨(some 7), none, false, .load 2 true (.t 2), none⟩, .o ⟨(some 8), none, false, .mv (.t 1), none⟩, .o ⟨(some 9), none, false, .call 65 [(.t 7), (.t 8)], none⟩, .o ⟨(some 6), none, false, .mv (.t 9), (some [1, 2, 4, 6])⟩]
abbrev k25_o2 : List AJ := [.o ⟨(some 10), none, false, .mv (.t 6), none⟩, .o ⟨(some 11), none, false, .bin .neq (.t 10) (.c (.int .i64 0)), (some [1, 2, 4, 6, 11])⟩]
abbrev k25_o3 : List AJ := [.o ⟨(some 12), none, false, .build [.nilsl] [], none⟩, .o ⟨(some 13), none, false, .mv (.t 6), none⟩, .o ⟨none, none, false, .store 1 (.t 4) (.t 12), none⟩, .o ⟨(some 5), none, false, .mv (.t 13), (some [4, 5])⟩]
def k25_4 : ACode := .seq (.region k25_o3) .ret
def k25_5 : ACode := .cond (.t 11) k25_4 .skip
def k25_6 : ACode := .seq (.region k25_o2) k25_5
def k25_7 : ACode := .seq (.region k25_o1) k25_6
abbrev k25_o4 : List AJ := [.o ⟨(some 14), none, false, .load 2 true (.t 2), none⟩, .o ⟨(some 15), none, false, .mv (.t 1), none⟩, .o ⟨(some 16), none, false, .call 66 [(.t 14), (.t 15)], none⟩, .o ⟨none, none, false, .store 1 (.t 4) (.t 16), none⟩, .o ⟨(some 5), none, false, .mv (.c (.int .i64 0)), (some [4, 5])⟩]
def k25_9 : ACode := .seq (.region k25_o4) .ret
def k25_10 : ACode := .seq k25_7 k25_9
def k25_11 : ACode := .seq (.region k25_o0) k25_10
@[simp, simp ↓] theorem k25_4r : sR k25_4 k25_o3 .ret := yR rfl
@[simp, simp ↓] theorem k25_5r : rC k25_5 (.t 11) k25_4 .skip := zC rfl
@[simp, simp ↓] theorem k25_6r : sR k25_6 k25_o2 k25_5 := yR rfl
@[simp, simp ↓] theorem k25_7r : sR k25_7 k25_o1 k25_6 := yR rfl
@[simp, simp ↓] theorem k25_9r : sR k25_9 k25_o4 .ret := yR rfl
@[simp, simp ↓] theorem k25_10r : rS k25_10 k25_7 k25_9 := zS rfl
@[simp, simp ↓] theorem k25_11r : sR k25_11 k25_o0 k25_10 := yR rfl
noncomputable abbrev k25_C : Orc → Cx := mkC Try.prog [4] 25 17 [.cell 4 1 true, .tmp 5]
theorem k25_of : OfP Try.prog Try.f25 25 17 k25_C k25_11 := @ofP _ _ _ _ _ _ _ _ Try.func25 (by decide +kernel) rfl (by kernel_rfl) rfl (by kernel_rfl)
theorem implCA_o (x : Fil) (t : Int) (hl : x.tot ≤ 1048576) : ACalls Try.prog 25 [x.av, .int .i64 t] [] (fun v h' => ∃ w, v = .tup [w, .int .i64 (x.tCode t)] ∧ OwnCx w (x.cAt t) h') := by
  refine k25_of rfl orcJ2_p fun I => ?_
  by_cases hc : x.tCode t = 0
  · obtain ⟨hv, ht⟩ := x.tCode_ok hc
    have hat : x.cAt t = x.atT t := by unfold Fil.cAt; rw [if_pos hc]
    rw [hat]
    refine Run2.of I 1000 ?_
    simp -implicitDefEqProofs [hl, hc]
    intro b
    refine (ACalls.gives [] (by simp) (complexAt_o x t hl hv) fun v h' o => o.own).mono ?_
    rintro v h' ⟨g, ⟨u, rfl, o⟩, hd, rfl⟩
    have hcell := o.cell
    have hb : b ∉ dom g := fun hm => hd b hm (by simp [dom])
    have g1 : ∀ z, hget (g ++ z) b = hget z b := fun z => hget_app hb
    have s1 : ∀ z c, hset (g ++ z) b c = g ++ hset z b c := fun z c => hset_app hb
    refine gK.go ?_
    simp -implicitDefEqProofs [hcell, g1, s1]
    refine Post.dropR (fun i hi hm => hd i hm (by simpa [dom] using hi)) (.base ⟨_, rfl, u, rfl, o⟩)
  · have hat : x.cAt t = [] := by unfold Fil.cAt; rw [if_neg hc]
    rw [hat]
    refine Run2.of I 1000 ?_
    simp -implicitDefEqProofs [hl, hc]
    intro b
    exact .drop b (.base ⟨_, rfl, .nilsl, rfl, by simpa [hdel] using OwnLL.nil⟩)
abbrev k24_o0 : List AJ := [.o ⟨(some 2), none, false, .box false 2 (.t 0), none⟩, .o ⟨(some 4), none, false, .alloc true 1 (.agg [.nilsl]), none⟩, .o ⟨(some 5), none, false, .mv (.c (.int .i64 0)), (some [1, 2, 4])⟩]
abbrev k24_o1 : List AJ := [.o ⟨(some 6), none, false, .call 53 [(.t 2)], none⟩, .o ⟨(some 7), none, false, .un .not (.t 6), (some [1, 2, 4, 7])⟩]
abbrev k24_o2 : List AJ := [.o ⟨(some 8), none, false, .build [.nilsl] [], none⟩, .o ⟨none, none, false, .store 1 (.t 4) (.t 8), none⟩, .o ⟨(some 5), none, false, .mv (.c (.int .i64 1)), (some [4, 5])⟩]
def k24_3 : ACode := .seq (.region k24_o2) .ret
def k24_4 : ACode := .cond (.t 7) k24_3 .skip
def k24_5 : ACode := .seq (.region k24_o1) k24_4
abbrev k24_o3 : List AJ := [.o ⟨(some 9), none, false, .mv (.t 1), none⟩, .o ⟨(some 10), none, false, .call 63 [(.t 9)], none⟩, .o ⟨(some 11), none, false, .un .not (.t 10), (some [1, 2, 4, 11])⟩]
abbrev k24_o4 : List AJ := [.o ⟨(some 12), none, false, .build [.nilsl] [], none⟩, .o ⟨none, none, false, .store 1 (.t 4) (.t 12), none⟩, .o ⟨(some 5), none, false, .mv (.c (.int .i64 2)), (some [4, 5])⟩]
def k24_8 : ACode := .seq (.region k24_o4) .ret
def k24_9 : ACode := .cond (.t 11) k24_8 .skip
def k24_10 : ACode := .seq (.region k24_o3) k24_9
abbrev k24_o5 : List AJ := [.o ⟨(some 13), none, false, .mv (.t 1), none⟩, .o ⟨(some 14), none, false, .call 64 [(.t 2), (.t 13)], none⟩, .o ⟨none, none, false, .store 1 (.t 4) (.t 14), none⟩, .o ⟨(some 5), none, false, .mv (.c (.int .i64 0)), (some [4, 5])⟩]
def k24_12 : ACode := .seq (.region k24_o5) .ret
def k24_13 : ACode := .seq k24_10 k24_12
def k24_14 : ACode := .seq k24_5 k24_13
def k24_15 : ACode := .seq (.region k24_o0) k24_14
@[simp, simp ↓] theorem k24_3r : sR k24_3 k24_o2 .ret := yR rfl
@[simp, simp ↓] theorem k24_4r : rC k24_4 (.t 7) k24_3 .skip := zC rfl
@[simp, simp ↓] theorem k24_5r : sR k24_5 k24_o1 k24_4 := yR rfl
@[simp, simp ↓] theorem k24_8r : sR k24_8 k24_o4 .ret := yR rfl
@[simp, simp ↓] theorem k24_9r : rC k24_9 (.t 11) k24_8 .skip := zC rfl
@[simp, simp ↓] theorem k24_10r : sR k24_10 k24_o3 k24_9 := yR rfl
@[simp, simp ↓] theorem k24_12r : sR k24_12 k24_o5 .ret := yR rfl
@[simp, simp ↓] theorem k24_13r : rS k24_13 k24_10 k24_12 := zS rfl
@[simp, simp ↓] theorem k24_14r : rS k24_14 k24_5 k24_13 := zS rfl
@[simp, simp ↓] theorem k24_15r : sR k24_15 k24_o0 k24_14 := yR rfl
noncomputable abbrev k24_C : Orc → Cx := mkC Try.prog [4] 24 15 [.cell 4 1 true, .tmp 5]
theorem k24_of : OfP Try.prog Try.f24 24 15 k24_C k24_15 := @ofP _ _ _ _ _ _ _ _ Try.func24 (by decide +kernel) rfl (by kernel_rfl) rfl (by kernel_rfl)
theorem specCA_c (x : Fil) (t : Int) (h : Heap) (hl : x.tot ≤ 1048576) : ACalls Try.prog 24 [x.av, .int .i64 t] h (fun v h' => v = .tup [cx (x.cAt t), .int .i64 (x.tCode t)] ∧ h' = h) := by
  refine k24_of rfl orcJ2_p fun I => ?_
  by_cases hv : x.valid
  · by_cases ht : 0 ≤ t ∧ t ≤ 1000
    · have ht' : (decide (0 ≤ t) && decide (t ≤ 1000)) = true := by simp [ht]
      have hc : x.tCode t = 0 := by simp [Fil.tCode, hv, ht]
      have hat : x.cAt t = x.atT t := by unfold Fil.cAt; rw [if_pos hc]
      rw [hat, hc]
      refine Run2.of I 1000 ?_
      simp -implicitDefEqProofs [hl, hv, ht, ht']
      intro b hb
      exact .drop b (.base ⟨rfl, by simp [hdel]⟩)
    · have ht' : (decide (0 ≤ t) && decide (t ≤ 1000)) = false := by rw [Bool.eq_false_iff]; simpa using ht
      have hc : x.tCode t = 2 := by simp [Fil.tCode, hv, ht]
      have hat : x.cAt t = [] := by unfold Fil.cAt; rw [if_neg (by omega)]
      rw [hat, hc]
      refine Run2.of I 1000 ?_
      simp -implicitDefEqProofs [hl, hv, ht, ht']
      intro b hb
      exact .drop b (.wk (Wk.tup (.cons (Wk.agg (.cons (Wk.nil 1) .nil)) (.cons (.refl _) .nil))) (.base ⟨rfl, by simp [hdel]⟩))
  · have hc : x.tCode t = 1 := by simp [Fil.tCode, hv]
    have hat : x.cAt t = [] := by unfold Fil.cAt; rw [if_neg (by omega)]
    rw [hat, hc]
    refine Run2.of I 1000 ?_
    simp -implicitDefEqProofs [hl, hv]
    intro b hb
    exact .drop b (.wk (Wk.tup (.cons (Wk.agg (.cons (Wk.nil 1) .nil)) (.cons (.refl _) .nil))) (.base ⟨rfl, by simp [hdel]⟩))
end Go.AG
