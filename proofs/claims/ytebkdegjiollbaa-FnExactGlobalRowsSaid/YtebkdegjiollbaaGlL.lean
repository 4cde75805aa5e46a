/- The law FnExactGlobalRows is true for every input: the program's GlobalRows returns what the reference's returns. -/
import Derived.Test.YtebkdegjiollbaaGlH
import Derived.Test.YtebkdegjiollbaaFilL
namespace Go.AG
open Go.Proofs Go.Proofs.Ytebkdegjiollbaa
set_option linter.unusedSimpArgs false
set_option linter.unusedVariables false
set_option maxRecDepth 4000
def Tb.wf (t : Tb) : Prop := wfI t.cols ∧ wfSS t.rows
def wfTs (ts : List Tb) : Prop := (∀ t ∈ ts, t.wf) ∧ ts.length ≤ 9223372036854775807
def tyTb : Ty := .struct (.cons (.slice (.int .i64)) (.cons tySS .nil))
theorem Tb_of_shape {x : AV} (h : shV tyTb x) : ∃ p : Tb, x = p.av ∧ p.wf := by
  obtain ⟨h1, a3, b3, e1, ⟨ys, rfl, hlen2, r4⟩, a1, b1, rfl, ⟨xs, rfl, hlen, r3⟩, h3⟩ := h
  have hm : maxLen ≤ 9223372036854775807 := by decide
  have h3' : b1 = [] := h3
  subst h3'
  obtain ⟨rs, rfl, hrs⟩ := Lists_list r3
  obtain ⟨ts, hts, hwt⟩ := Ints_of_shape (x := .snap 1 ys) ⟨rfl, ys, rfl, hlen2, r4⟩
  cases x <;> simp [isAgg, tyTb, Ty.isS] at h1
  rename_i l
  refine ⟨⟨ts, rs⟩, ?_, ⟨hwt, ⟨hrs, by simp only [List.length_map] at hlen; exact Nat.le_trans hlen hm⟩⟩⟩
  simp only [cellsOf] at e1
  rw [e1]
  simp only [AV.snap.injEq, true_and] at hts
  simp [Tb.av, hts, Ty.n]
theorem Tb_list : ∀ {xs : List AV}, (∀ x ∈ xs, isAgg x = tyTb.isS ∧ shC tyTb (cellsOf x)) → ∃ ts : List Tb, xs = ts.map Tb.av ∧ ∀ t ∈ ts, t.wf
  | [], _ => ⟨[], rfl, by simp⟩
  | x :: xs, h => by
    obtain ⟨t, rfl, ht⟩ := Tb_of_shape (h x (List.mem_cons_self ..))
    obtain ⟨ts, rfl, hts⟩ := Tb_list (xs := xs) fun y hy => h y (List.mem_cons_of_mem _ hy)
    exact ⟨t :: ts, rfl, by simpa using ⟨ht, hts⟩⟩
def tyTs : Ty := .slice tyTb
theorem Tbs_of_shape {x : AV} (h : shV tyTs x) : ∃ ts : List Tb, x = .snap 2 (ts.map Tb.av) ∧ wfTs ts := by
  obtain ⟨h1, xs, e1, hlen, r3⟩ := h
  have hm : maxLen ≤ 9223372036854775807 := by decide
  obtain ⟨ts, rfl, hl⟩ := Tb_list r3
  cases x <;> simp [isAgg, tyTs, Ty.isS, cellsOf] at h1 e1
  rw [e1.1, e1.2]
  exact ⟨ts, rfl, hl, by simp only [List.length_map] at hlen; exact Nat.le_trans hlen hm⟩
abbrev k59_o0 : List AJ := [.o ⟨(some 2), none, false, .box false 2 (.t 0), none⟩, .o ⟨(some 4), none, false, .mv (.c (.int .i64 0)), (some [1, 2])⟩]
abbrev k59_o1 : List AJ := [.o ⟨(some 5), none, false, .fieldA 0 (.t 2), none⟩, .o ⟨(some 6), none, false, .load 1 false (.t 5), none⟩, .o ⟨(some 7), none, false, .mv (.t 1), none⟩, .o ⟨(some 8), none, false, .call 79 [(.t 6), (.t 7)], none⟩, .o ⟨(some 1), none, false, .mv (.t 8), (some [1, 2])⟩]
abbrev k59_o2 : List AJ := [.o ⟨(some 9), none, false, .mv (.t 1), none⟩, .o ⟨(some 10), none, false, .bin .lss (.t 9) (.c (.int .i64 0)), (some [1, 2, 10])⟩]
abbrev k59_o3 : List AJ := [.o ⟨(some 4), none, false, .mv (.c (.int .i64 (-1))), (some [4])⟩]
def k59_4 : ACode := .seq (.region k59_o3) .ret
def k59_5 : ACode := .cond (.t 10) k59_4 .skip
def k59_6 : ACode := .seq (.region k59_o2) k59_5
abbrev k59_o4 : List AJ := [.o ⟨(some 11), none, false, .fieldA 1 (.t 2), none⟩, .o ⟨(some 12), none, false, .load 1 false (.t 11), none⟩, .o ⟨(some 13), none, false, .mv (.t 1), none⟩, .o ⟨(some 14), none, false, .call 36 [(.t 12), (.t 13)], none⟩, .o ⟨(some 1), none, false, .mv (.t 14), (some [1])⟩]
abbrev k59_o5 : List AJ := [.o ⟨(some 15), none, false, .mv (.t 1), none⟩, .o ⟨(some 16), none, false, .bin .lss (.t 15) (.c (.int .i64 0)), (some [1, 16])⟩]
abbrev k59_o6 : List AJ := [.o ⟨(some 4), none, false, .mv (.c (.int .i64 (-1))), (some [4])⟩]
def k59_10 : ACode := .seq (.region k59_o6) .ret
def k59_11 : ACode := .cond (.t 16) k59_10 .skip
def k59_12 : ACode := .seq (.region k59_o5) k59_11
abbrev k59_o7 : List AJ := [.o ⟨(some 17), none, false, .mv (.t 1), none⟩, .o ⟨(some 4), none, false, .mv (.t 17), (some [4])⟩]
def k59_14 : ACode := .seq (.region k59_o7) .ret
def k59_15 : ACode := .seq k59_12 k59_14
def k59_16 : ACode := .seq (.region k59_o4) k59_15
def k59_17 : ACode := .seq k59_6 k59_16
def k59_18 : ACode := .seq (.region k59_o1) k59_17
def k59_19 : ACode := .seq (.region k59_o0) k59_18
@[simp, simp ↓] theorem k59_4r : sR k59_4 k59_o3 .ret := yR rfl
@[simp, simp ↓] theorem k59_5r : rC k59_5 (.t 10) k59_4 .skip := zC rfl
@[simp, simp ↓] theorem k59_6r : sR k59_6 k59_o2 k59_5 := yR rfl
@[simp, simp ↓] theorem k59_10r : sR k59_10 k59_o6 .ret := yR rfl
@[simp, simp ↓] theorem k59_11r : rC k59_11 (.t 16) k59_10 .skip := zC rfl
@[simp, simp ↓] theorem k59_12r : sR k59_12 k59_o5 k59_11 := yR rfl
@[simp, simp ↓] theorem k59_14r : sR k59_14 k59_o7 .ret := yR rfl
@[simp, simp ↓] theorem k59_15r : rS k59_15 k59_12 k59_14 := zS rfl
@[simp, simp ↓] theorem k59_16r : sR k59_16 k59_o4 k59_15 := yR rfl
@[simp, simp ↓] theorem k59_17r : rS k59_17 k59_6 k59_16 := zS rfl
@[simp, simp ↓] theorem k59_18r : sR k59_18 k59_o1 k59_17 := yR rfl
@[simp, simp ↓] theorem k59_19r : sR k59_19 k59_o0 k59_18 := yR rfl
noncomputable abbrev k59_C : Orc → Cx := mkC Try.prog [] 59 18 [.tmp 4]
theorem k59_of0 : OfP0 Try.prog Try.f59 59 18 k59_C k59_19 := @ofP0 _ _ _ _ _ _ _ _ Try.func59 (by decide +kernel) rfl (by kernel_rfl) rfl (by kernel_rfl)
theorem szTb_c (t : Tb) (n : Int) (h : Heap) (hn : 0 ≤ n ∧ n ≤ 1048576) (hw : t.wf) : ACalls Try.prog 59 [t.av, .int .i64 n] h (fun v h' => v = .int .i64 (if n < t.tot then -1 else n - t.tot) ∧ h' = h) := by
  have e : (t.tot : Int) = t.cols.length + ssTot t.rows := by unfold Tb.tot; omega
  refine k59_of0 rfl noPure fun I => ?_
  refine Run2.of I 1000 ?_
  simp -implicitDefEqProofs
  refine (szInt64S_c t.cols n _ hn hw.1.2).mono ?_
  rintro v h' ⟨rfl, rfl⟩
  by_cases h1 : n < t.cols.length
  · refine gK.go ?_
    simp -implicitDefEqProofs [h1]
    omega
  · refine gK.go ?_
    simp -implicitDefEqProofs [h1]
    refine ⟨by omega, fun h2 => ?_⟩
    refine (szInt64SS_c t.rows _ _ (by omega) hw.2).mono ?_
    rintro v h' ⟨rfl, rfl⟩
    refine gK.go ?_
    simp -implicitDefEqProofs
    grind
def sumT (ts : List Tb) : Nat := (ts.map Tb.tot).sum
theorem tbsTot_eq (ts : List Tb) : tbsTot ts = ts.length + sumT ts := rfl
theorem tbsTot_take (ts : List Tb) {i : Nat} (hi : i < ts.length) : sumT (ts.take (i + 1)) = sumT (ts.take i) + ts[i].tot := by
  unfold sumT
  rw [List.take_succ_eq_append_getElem hi, List.map_append, List.sum_append]
  simp
theorem tbsTot_le (ts : List Tb) (i : Nat) : sumT (ts.take i) ≤ sumT ts := by
  conv => rhs; rw [← List.take_append_drop i ts]
  unfold sumT
  rw [List.map_append, List.sum_append]
  omega
abbrev k22_o0 : List AJ := [.o ⟨(some 4), none, false, .mv (.c (.int .i64 0)), (some [0, 1])⟩]
abbrev k22_o1 : List AJ := [.o ⟨(some 6), none, false, .mv (.t 1), none⟩, .o ⟨(some 7), none, false, .mv (.t 0), none⟩, .o ⟨(some 8), none, false, .len (.t 7), none⟩, .o ⟨(some 9), none, true, .bin .sub (.t 6) (.t 8), none⟩, .o ⟨(some 1), none, false, .mv (.t 9), (some [0, 1])⟩]
abbrev k22_o2 : List AJ := [.o ⟨(some 10), none, false, .mv (.t 1), none⟩, .o ⟨(some 11), none, false, .bin .lss (.t 10) (.c (.int .i64 0)), (some [0, 1, 11])⟩]
abbrev k22_o3 : List AJ := [.o ⟨(some 4), none, false, .mv (.c (.int .i64 (-1))), (some [4])⟩]
def k22_4 : ACode := .seq (.region k22_o3) .ret
def k22_5 : ACode := .cond (.t 11) k22_4 .skip
def k22_6 : ACode := .seq (.region k22_o2) k22_5
abbrev k22_o4 : List AJ := [.o ⟨(some 5), none, false, .mv (.c (.int .i64 0)), (some [0, 1, 5])⟩]
abbrev k22_o5 : List AJ := [.o ⟨(some 12), none, false, .mv (.t 5), none⟩, .o ⟨(some 13), none, false, .mv (.t 0), none⟩, .o ⟨(some 14), none, false, .len (.t 13), none⟩, .o ⟨(some 15), none, false, .bin .lss (.t 12) (.t 14), (some [0, 1, 5, 15])⟩]
def k22_9 : ACode := .cond (.t 15) .skip (.exit 0)
def k22_10 : ACode := .seq (.region k22_o5) k22_9
abbrev k22_o6 : List AJ := [.o ⟨(some 18), none, false, .mv (.t 0), none⟩, .o ⟨(some 19), none, false, .mv (.t 5), none⟩, .o ⟨(some 20), none, false, .idxA 2 (.t 18) (.t 19), none⟩, .o ⟨(some 21), none, false, .load 2 true (.t 20), none⟩, .o ⟨(some 22), none, false, .mv (.t 1), none⟩, .o ⟨(some 23), none, false, .call 59 [(.t 21), (.t 22)], none⟩, .o ⟨(some 1), none, false, .mv (.t 23), (some [0, 1, 5])⟩]
abbrev k22_o7 : List AJ := [.o ⟨(some 24), none, false, .mv (.t 1), none⟩, .o ⟨(some 25), none, false, .bin .lss (.t 24) (.c (.int .i64 0)), (some [0, 1, 5, 25])⟩]
abbrev k22_o8 : List AJ := [.o ⟨(some 4), none, false, .mv (.c (.int .i64 (-1))), (some [4])⟩]
def k22_14 : ACode := .seq (.region k22_o8) .ret
def k22_15 : ACode := .cond (.t 25) k22_14 .skip
def k22_16 : ACode := .seq (.region k22_o7) k22_15
def k22_17 : ACode := .seq (.region k22_o6) k22_16
abbrev k22_o9 : List AJ := [.o ⟨(some 16), none, false, .mv (.t 5), none⟩, .o ⟨(some 17), none, true, .bin .add (.t 16) (.c (.int .i64 1)), none⟩, .o ⟨(some 5), none, false, .mv (.t 17), (some [0, 1, 5])⟩]
def k22_19 : ACode := .region k22_o9
def k22_20 : ACode := .seq (.block 1 k22_17) k22_19
def k22_21 : ACode := .seq k22_10 k22_20
def k22_22 : ACode := .loop k22_21
def k22_23 : ACode := .block 0 k22_22
def k22_24 : ACode := .seq (.region k22_o4) k22_23
abbrev k22_o10 : List AJ := [.o ⟨(some 26), none, false, .mv (.t 1), none⟩, .o ⟨(some 4), none, false, .mv (.t 26), (some [4])⟩]
def k22_26 : ACode := .seq (.region k22_o10) .ret
def k22_27 : ACode := .seq k22_24 k22_26
def k22_28 : ACode := .seq k22_6 k22_27
def k22_29 : ACode := .seq (.region k22_o1) k22_28
def k22_30 : ACode := .seq (.region k22_o0) k22_29
@[simp, simp ↓] theorem k22_4r : sR k22_4 k22_o3 .ret := yR rfl
@[simp, simp ↓] theorem k22_5r : rC k22_5 (.t 11) k22_4 .skip := zC rfl
@[simp, simp ↓] theorem k22_6r : sR k22_6 k22_o2 k22_5 := yR rfl
@[simp, simp ↓] theorem k22_9r : rC k22_9 (.t 15) .skip (.exit 0) := zC rfl
@[simp, simp ↓] theorem k22_10r : sR k22_10 k22_o5 k22_9 := yR rfl
@[simp, simp ↓] theorem k22_14r : sR k22_14 k22_o8 .ret := yR rfl
@[simp, simp ↓] theorem k22_15r : rC k22_15 (.t 25) k22_14 .skip := zC rfl
@[simp, simp ↓] theorem k22_16r : sR k22_16 k22_o7 k22_15 := yR rfl
@[simp, simp ↓] theorem k22_17r : sR k22_17 k22_o6 k22_16 := yR rfl
@[simp, simp ↓] theorem k22_19r : rR k22_19 k22_o9 := zR rfl
@[simp, simp ↓] theorem k22_20r : sB k22_20 1 k22_17 k22_19 := yB rfl
@[simp, simp ↓] theorem k22_21r : rS k22_21 k22_10 k22_20 := zS rfl
@[simp, simp ↓] theorem k22_22r : rL k22_22 k22_21 := zL rfl
@[simp, simp ↓] theorem k22_23r : rB k22_23 0 k22_22 := zB rfl
@[simp, simp ↓] theorem k22_24r : sR k22_24 k22_o4 k22_23 := yR rfl
@[simp, simp ↓] theorem k22_26r : sR k22_26 k22_o10 .ret := yR rfl
@[simp, simp ↓] theorem k22_27r : rS k22_27 k22_24 k22_26 := zS rfl
@[simp, simp ↓] theorem k22_28r : rS k22_28 k22_6 k22_27 := zS rfl
@[simp, simp ↓] theorem k22_29r : sR k22_29 k22_o1 k22_28 := yR rfl
@[simp, simp ↓] theorem k22_30r : sR k22_30 k22_o0 k22_29 := yR rfl
noncomputable abbrev k22_C : Orc → Cx := mkC Try.prog [] 22 27 [.tmp 4]
theorem k22_of0 : OfP0 Try.prog Try.f22 22 27 k22_C k22_30 := @ofP0 _ _ _ _ _ _ _ _ Try.func22 (by decide +kernel) rfl (by kernel_rfl) rfl (by kernel_rfl)
theorem szTbs_c (ts : List Tb) (n : Int) (h : Heap) (hn : 0 ≤ n ∧ n ≤ 1048576) (hw : wfTs ts) : ACalls Try.prog 22 [.snap 2 (ts.map Tb.av), .int .i64 n] h (fun v h' => v = .int .i64 (if n < tbsTot ts then -1 else n - tbsTot ts) ∧ h' = h) := by
  have hl := hw.2
  refine k22_of0 rfl noPure fun I => ?_
  refine Run2.of I 1000 ?_
  simp -implicitDefEqProofs
  refine ⟨by omega, fun h1 => ?_, fun h1 => ?_⟩
  · intro h2; exfalso; rw [tbsTot_eq] at h2; omega
  · refine Run2.loopE (fun (i : Nat) => [(0, .snap 2 (ts.map Tb.av)), (1, .int .i64 (n - ts.length - sumT (ts.take i))), (5, .int .i64 i)]) (fun i => h) (fun i => ts.length - i) (fun i => i ≤ ts.length ∧ ts.length + sumT (ts.take i) ≤ n) 0 (by simp [sumT]) rfl ⟨Nat.zero_le _, by simp [sumT]; omega⟩ fun i hi ih => ?_
    by_cases hlt : i < ts.length
    · have hr := hw.1 _ (List.getElem_mem hlt)
      have hs := tbsTot_take ts hlt
      have hle := tbsTot_le ts (i + 1)
      refine Run2.of I 1000 ?_
      simp -implicitDefEqProofs [hlt]
      refine (szTb_c ts[i] _ h (by omega) hr).mono ?_
      rintro v h' ⟨rfl, rfl⟩
      refine gK.go ?_
      by_cases h2 : n - ts.length - sumT (ts.take i) < ts[i].tot
      · simp -implicitDefEqProofs [h2]
        intro h3; exfalso; rw [tbsTot_eq] at h3; omega
      · have go := ih (i + 1) ⟨by omega, by omega⟩ (by omega)
        have e : n - (ts.length : Int) - (sumT (ts.take (i + 1)) : Nat) = n - ts.length - sumT (ts.take i) - ts[i].tot := by omega
        rw [e] at go
        simp -implicitDefEqProofs [h2]
        refine ⟨fun h3 => by omega, fun h3 => ⟨by omega, ?_⟩⟩
        simpa using go
    · obtain rfl : i = ts.length := by omega
      have h2 := hi.2
      rw [List.take_length] at h2
      refine Run2.of I 1000 ?_
      simp -implicitDefEqProofs
      have h3 : ¬ n < tbsTot ts := by rw [tbsTot_eq]; omega
      rw [if_neg h3, tbsTot_eq]; omega
end Go.AG
namespace Go.AG
open Go.Proofs Go.Proofs.Ytebkdegjiollbaa
set_option linter.unusedSimpArgs false
set_option linter.unusedVariables false
set_option maxRecDepth 4000
instance : DecidableEq Tb := fun x y => decidable_of_iff (x.cols = y.cols ∧ x.rows = y.rows) ⟨fun ⟨a, b⟩ => by
  cases x; cases y; simp at a b; simp [a, b], fun h => by rw [h]; exact ⟨rfl, rfl⟩⟩
/-- v is a table in blocks of its own. -/
def OwnTb (v : AV) (t : Tb) (hp : Heap) : Prop := ∃ u w h1 h2, v = .agg [u, w] ∧ OwnL iv 1 u t.cols h1 ∧ OwnLL w t.rows h2 ∧ (∀ i ∈ dom h1, i ∉ dom h2) ∧ hp = h1 ++ h2
theorem OwnTb.own {v : AV} {t : Tb} {hp : Heap} (h : OwnTb v t hp) : Go.AG.own v = true ∧ (hp.all fun p => p.2.l.all Go.AG.own) = true := by
  obtain ⟨u, w, h1, h2, rfl, hu, hw, hd, rfl⟩ := h
  exact ⟨by simp [Go.AG.own, owns, hw.own.1, (hu.own own_iv1).1], by rw [List.all_append, hw.own.2, (hu.own own_iv1).2]; rfl⟩
theorem OwnTb.nodup {v : AV} {t : Tb} {hp : Heap} (h : OwnTb v t hp) : (dom hp).Nodup := by
  obtain ⟨u, w, h1, h2, rfl, hu, hw, hd, rfl⟩ := h
  rw [dom_append]
  exact List.nodup_append.2 ⟨hu.nodup, hw.nodup, fun a ha b hb e => hd a ha (e ▸ hb)⟩
theorem toInt64SS_fit (rs : List (List Int)) (h : ssTot rs ≤ 1048576) : fitSS rs := fit_of_tot h
noncomputable def orcJ1 : List (Nat × (List AV → Option (Prop × AV))) := (82, o_toInt64S) :: (38, o_toInt64SS) :: (26, o_eqInt64S) :: (12, o_eqInt64SS) :: []
theorem orcJ1_p : Pure Try.prog (lk orcJ1) := (lk_pure o_toInt64S_k (lk_pure o_toInt64SS_k (lk_pure o_eqInt64S_k (lk_pure o_eqInt64SS_k lk_pure0))))
@[simp] theorem orcJ1_l (b : Bool) (g : FuncId) (l : List AV) : lk orcJ1 b g l = if g = 82 then o_toInt64S l else if g = 38 then o_toInt64SS l else if g = 26 then o_eqInt64S l else if g = 12 then o_eqInt64SS l else none := nr rfl
abbrev k61_o0 : List AJ := [.o ⟨(some 1), none, false, .box false 2 (.t 0), none⟩, .o ⟨(some 2), none, false, .alloc true 2 (.agg [.nilsl, .nilsl]), (some [1, 2])⟩]
abbrev k61_o1 : List AJ := [.o ⟨(some 3), none, false, .alloc true 2 (.agg [.nilsl, .nilsl]), (some [1, 2, 3])⟩]
abbrev k61_o2 : List AJ := [.o ⟨(some 4), none, false, .fieldA 0 (.t 1), none⟩, .o ⟨(some 5), none, false, .load 1 false (.t 4), none⟩, .o ⟨(some 6), none, false, .call 82 [(.t 5)], none⟩, .o ⟨(some 7), none, false, .fieldA 0 (.t 3), none⟩, .o ⟨none, none, false, .store 1 (.t 7) (.t 6), (some [1, 2, 3])⟩]
abbrev k61_o3 : List AJ := [.o ⟨(some 8), none, false, .fieldA 1 (.t 1), none⟩, .o ⟨(some 9), none, false, .load 1 false (.t 8), none⟩, .o ⟨(some 10), none, false, .call 38 [(.t 9)], none⟩, .o ⟨(some 11), none, false, .fieldA 1 (.t 3), none⟩, .o ⟨none, none, false, .store 1 (.t 11) (.t 10), (some [2, 3])⟩]
abbrev k61_o4 : List AJ := [.o ⟨(some 12), none, false, .load 2 true (.t 3), none⟩, .o ⟨none, none, false, .store 2 (.t 2) (.t 12), (some [2])⟩]
def k61_5 : ACode := .seq (.region k61_o4) .ret
def k61_6 : ACode := .seq (.region k61_o3) k61_5
def k61_7 : ACode := .seq (.region k61_o2) k61_6
def k61_8 : ACode := .seq (.region k61_o1) k61_7
def k61_9 : ACode := .seq (.region k61_o0) k61_8
@[simp, simp ↓] theorem k61_5r : sR k61_5 k61_o4 .ret := yR rfl
@[simp, simp ↓] theorem k61_6r : sR k61_6 k61_o3 k61_5 := yR rfl
@[simp, simp ↓] theorem k61_7r : sR k61_7 k61_o2 k61_6 := yR rfl
@[simp, simp ↓] theorem k61_8r : sR k61_8 k61_o1 k61_7 := yR rfl
@[simp, simp ↓] theorem k61_9r : sR k61_9 k61_o0 k61_8 := yR rfl
noncomputable abbrev k61_C : Orc → Cx := mkC Try.prog [2, 3] 61 13 [.cell 2 2 true]
theorem k61_of : OfP Try.prog Try.f61 61 13 k61_C k61_9 := @ofP _ _ _ _ _ _ _ _ Try.func61 (by decide +kernel) rfl (by kernel_rfl) rfl (by kernel_rfl)
theorem toTb_c (t : Tb) (h : Heap) (hl : t.tot ≤ 1048576) : ACalls Try.prog 61 [t.av] h (fun v h' => v = t.av ∧ h' = h) := by
  obtain ⟨hl1, hl2, _⟩ := Tb.fit hl
  have hf := fit_of_tot hl2
  refine k61_of rfl orcJ1_p fun I => ?_
  refine Run2.of I 1000 ?_
  simp -implicitDefEqProofs
  intro a ha b hb1 hb2
  refine gK.go ?_
  simp -implicitDefEqProofs [hb1, hl1, hf]
  refine .drop b (.drop a (.base ?_))
  simp -implicitDefEqProofs [hb1]
theorem toTb_o (t : Tb) (h : Heap) (hl : t.tot ≤ 1048576) : ACalls Try.prog 61 [t.av] h (fun v h' => ∃ h1, OwnTb v t h1 ∧ (∀ i ∈ dom h1, i ∉ dom h) ∧ h' = h1 ++ h) := by
  obtain ⟨hl1, hl2, _⟩ := Tb.fit hl
  refine ACalls.permR ?_
  refine k61_of rfl noPure fun I => ?_
  refine Run2.of I 1000 ?_
  simp -implicitDefEqProofs
  intro a ha b hb1 hb2
  refine gK.go ?_
  simp -implicitDefEqProofs [hb1]
  refine (toInt64S_o t.cols _ hl1).mono ?_
  rintro u h' ⟨h1, o, hd, rfl⟩
  have hcell := o.cell
  have hst := stor_of hcell
  have hcl := cells_of hcell
  have hd1 : ∀ i ∈ dom h1, i ≠ b ∧ i ≠ a ∧ i ∉ dom h := fun i hi => by
    have := hd i hi
    simpa [dom] using this
  have hA : a ∉ dom h1 := fun hm => (hd1 a hm).2.1 rfl
  have hB : b ∉ dom h1 := fun hm => (hd1 b hm).1 rfl
  have gA : ∀ z, hget (h1 ++ z) a = hget z a := fun z => hget_app hA
  have gB : ∀ z, hget (h1 ++ z) b = hget z b := fun z => hget_app hB
  have sA : ∀ z c, hset (h1 ++ z) a c = h1 ++ hset z a c := fun z c => hset_app hA
  have sB : ∀ z c, hset (h1 ++ z) b c = h1 ++ hset z b c := fun z c => hset_app hB
  refine gK.go ?_
  simp -implicitDefEqProofs [hb1, hcell, hst, hcl, gA, gB, sA, sB]
  refine (toInt64SS_n t.rows _ hl2).mono ?_
  rintro w h' ⟨h2, o2, hd2, rfl⟩
  have hcell2 := o2.cell
  have hst2 := stor_of hcell2
  have hcl2 := cells_of hcell2
  have hd3 : ∀ i ∈ dom h2, i ∉ dom h1 ∧ i ≠ b ∧ i ≠ a ∧ i ∉ dom h := fun i hi => by
    have := hd2 i hi
    simpa [dom] using this
  have hA2 : a ∉ dom h2 := fun hm => (hd3 a hm).2.2.1 rfl
  have hB2 : b ∉ dom h2 := fun hm => (hd3 b hm).2.1 rfl
  have gA2 : ∀ z, hget (h2 ++ z) a = hget z a := fun z => hget_app hA2
  have gB2 : ∀ z, hget (h2 ++ z) b = hget z b := fun z => hget_app hB2
  have sA2 : ∀ z c, hset (h2 ++ z) a c = h2 ++ hset z a c := fun z c => hset_app hA2
  have sB2 : ∀ z c, hset (h2 ++ z) b c = h2 ++ hset z b c := fun z c => hset_app hB2
  refine gK.go ?_
  simp -implicitDefEqProofs [hb1, hcell, hst, hcl, gA, gB, sA, sB, hst2, hcl2, gA2, gB2, sA2, sB2, hcell2]
  refine .drop b (.drop a (.base ?_))
  rw [hdel_app hB2, hdel_app hB, hdel_app hA2, hdel_app hA]
  intro _
  refine ⟨(h1 ++ h2) ++ h, ?_, h1 ++ h2, ⟨_, _, h1, h2, rfl, o, o2, fun i hi hi2 => (hd3 i hi2).1 hi, rfl⟩, fun i hi => ?_, rfl⟩
  · simp [hdel, hb1]
    rw [← List.append_assoc, ← List.append_assoc]
    exact List.perm_append_comm.append_right h
  · rw [dom_append, List.mem_append] at hi
    rcases hi with hi | hi
    · exact (hd1 i hi).2.2
    · exact (hd3 i hi).2.2.2
abbrev k63_o0 : List AJ := [.o ⟨(some 2), none, false, .box false 2 (.t 0), none⟩, .o ⟨(some 3), none, false, .box false 2 (.t 1), none⟩, .o ⟨(some 4), none, false, .mv (.c (.bool false)), (some [2, 3])⟩]
abbrev k63_o1 : List AJ := [.o ⟨(some 5), none, false, .fieldA 0 (.t 2), none⟩, .o ⟨(some 6), none, false, .load 1 false (.t 5), none⟩, .o ⟨(some 7), none, false, .fieldA 0 (.t 3), none⟩, .o ⟨(some 8), none, false, .load 1 false (.t 7), none⟩, .o ⟨(some 9), none, false, .call 26 [(.t 6), (.t 8)], none⟩, .o ⟨(some 10), none, false, .un .not (.t 9), (some [2, 3, 10])⟩]
abbrev k63_o2 : List AJ := [.o ⟨(some 4), none, false, .mv (.c (.bool false)), (some [4])⟩]
def k63_3 : ACode := .seq (.region k63_o2) .ret
def k63_4 : ACode := .cond (.t 10) k63_3 .skip
def k63_5 : ACode := .seq (.region k63_o1) k63_4
abbrev k63_o3 : List AJ := [.o ⟨(some 11), none, false, .fieldA 1 (.t 2), none⟩, .o ⟨(some 12), none, false, .load 1 false (.t 11), none⟩, .o ⟨(some 13), none, false, .fieldA 1 (.t 3), none⟩, .o ⟨(some 14), none, false, .load 1 false (.t 13), none⟩, .o ⟨(some 15), none, false, .call 12 [(.t 12), (.t 14)], none⟩, .o ⟨(some 16), none, false, .un .not (.t 15), (some [16])⟩]
abbrev k63_o4 : List AJ := [.o ⟨(some 4), none, false, .mv (.c (.bool false)), (some [4])⟩]
def k63_8 : ACode := .seq (.region k63_o4) .ret
def k63_9 : ACode := .cond (.t 16) k63_8 .skip
def k63_10 : ACode := .seq (.region k63_o3) k63_9
abbrev k63_o5 : List AJ := [.o ⟨(some 4), none, false, .mv (.c (.bool true)), (some [4])⟩]
def k63_12 : ACode := .seq (.region k63_o5) .ret
def k63_13 : ACode := .seq k63_10 k63_12
def k63_14 : ACode := .seq k63_5 k63_13
def k63_15 : ACode := .seq (.region k63_o0) k63_14
@[simp, simp ↓] theorem k63_3r : sR k63_3 k63_o2 .ret := yR rfl
@[simp, simp ↓] theorem k63_4r : rC k63_4 (.t 10) k63_3 .skip := zC rfl
@[simp, simp ↓] theorem k63_5r : sR k63_5 k63_o1 k63_4 := yR rfl
@[simp, simp ↓] theorem k63_8r : sR k63_8 k63_o4 .ret := yR rfl
@[simp, simp ↓] theorem k63_9r : rC k63_9 (.t 16) k63_8 .skip := zC rfl
@[simp, simp ↓] theorem k63_10r : sR k63_10 k63_o3 k63_9 := yR rfl
@[simp, simp ↓] theorem k63_12r : sR k63_12 k63_o5 .ret := yR rfl
@[simp, simp ↓] theorem k63_13r : rS k63_13 k63_10 k63_12 := zS rfl
@[simp, simp ↓] theorem k63_14r : rS k63_14 k63_5 k63_13 := zS rfl
@[simp, simp ↓] theorem k63_15r : sR k63_15 k63_o0 k63_14 := yR rfl
noncomputable abbrev k63_C : Orc → Cx := mkC Try.prog [] 63 17 [.tmp 4]
theorem k63_of0 : OfP0 Try.prog Try.f63 63 17 k63_C k63_15 := @ofP0 _ _ _ _ _ _ _ _ Try.func63 (by decide +kernel) rfl (by kernel_rfl) rfl (by kernel_rfl)
theorem eqTb_c (x y : Tb) (h : Heap) (hl : x.tot ≤ 1048576) : ACalls Try.prog 63 [x.av, y.av] h (fun v h' => v = .bool (decide (x = y)) ∧ h' = h) := by
  obtain ⟨hl1, hl2, _⟩ := Tb.fit hl
  have hf := fit_of_tot hl2
  refine k63_of0 rfl orcJ1_p fun I => ?_
  cases x; cases y
  refine Run2.of I 1000 ?_
  simp -implicitDefEqProofs [hl1, hf]
  grind
noncomputable def o_toTb : List AV → Option (Prop × AV) := tab (fun (x : List Int × LS) => match x with | (c, r) => [.agg [.snap 1 (c.map iv), .snap 1 (r.map il)]]) (fun x => match x with | (c, r) => Tb.tot ⟨c, r⟩ ≤ 1048576) (fun x => match x with | (c, r) => .agg [.snap 1 (c.map iv), .snap 1 (r.map il)])
@[simp] theorem o_toTb_e (c : List Int) (r : LS) : o_toTb [.agg [.snap 1 (c.map iv), .snap 1 (r.map il)]] = some (Tb.tot ⟨c, r⟩ ≤ 1048576, .agg [.snap 1 (c.map iv), .snap 1 (r.map il)]) := tab_at (enc := fun (x : List Int × LS) => match x with | (c, r) => [.agg [.snap 1 (c.map iv), .snap 1 (r.map il)]]) (fun x y h => by
  obtain ⟨c1, r1⟩ := x; obtain ⟨c2, r2⟩ := y; simp at h; simp [h] <;> omega) _ _ (c, r)
theorem o_toTb_k : Knows Try.prog 61 o_toTb := tab_knows fun x hx h => by
  obtain ⟨c, r⟩ := x; exact toTb_c ⟨c, r⟩ h hx
noncomputable def o_eqTb : List AV → Option (Prop × AV) := tab (fun (x : List Int × LS × List Int × LS) => match x with | (c, r, c', r') => [.agg [.snap 1 (c.map iv), .snap 1 (r.map il)], .agg [.snap 1 (c'.map iv), .snap 1 (r'.map il)]]) (fun x => match x with | (c, r, c', r') => Tb.tot ⟨c, r⟩ ≤ 1048576) (fun x => match x with | (c, r, c', r') => .bool (decide ((⟨c, r⟩ : Tb) = ⟨c', r'⟩)))
@[simp] theorem o_eqTb_e (c : List Int) (r : LS) (c' : List Int) (r' : LS) : o_eqTb [.agg [.snap 1 (c.map iv), .snap 1 (r.map il)], .agg [.snap 1 (c'.map iv), .snap 1 (r'.map il)]] = some (Tb.tot ⟨c, r⟩ ≤ 1048576, .bool (decide ((⟨c, r⟩ : Tb) = ⟨c', r'⟩))) := tab_at (enc := fun (x : List Int × LS × List Int × LS) => match x with | (c, r, c', r') => [.agg [.snap 1 (c.map iv), .snap 1 (r.map il)], .agg [.snap 1 (c'.map iv), .snap 1 (r'.map il)]]) (fun x y h => by
  obtain ⟨c1, r1, c'1, r'1⟩ := x; obtain ⟨c2, r2, c'2, r'2⟩ := y; simp at h; simp [h] <;> omega) _ _ (c, r, c', r')
theorem o_eqTb_k : Knows Try.prog 63 o_eqTb := tab_knows fun x hx h => by
  obtain ⟨c, r, c', r'⟩ := x; exact eqTb_c ⟨c, r⟩ ⟨c', r'⟩ h hx
noncomputable def orcJ2 : List (Nat × (List AV → Option (Prop × AV))) := (61, o_toTb) :: (63, o_eqTb) :: []
theorem orcJ2_p : Pure Try.prog (lk orcJ2) := (lk_pure o_toTb_k (lk_pure o_eqTb_k lk_pure0))
@[simp] theorem orcJ2_l (b : Bool) (g : FuncId) (l : List AV) : lk orcJ2 b g l = if g = 61 then o_toTb l else if g = 63 then o_eqTb l else none := nr rfl
abbrev k24_o0 : List AJ := [.o ⟨(some 2), none, false, .mv (.c .nilsl), (some [0])⟩]
abbrev k24_o1 : List AJ := [.o ⟨(some 5), none, false, .mv (.t 0), none⟩, .o ⟨(some 6), none, false, .len (.t 5), none⟩, .o ⟨(some 7), none, false, .mksl 2 48 (.agg [.nilsl, .nilsl]) (.t 6) (.t 6), none⟩, .o ⟨(some 3), none, false, .mv (.t 7), (some [0, 3])⟩]
abbrev k24_o2 : List AJ := [.o ⟨(some 4), none, false, .mv (.c (.int .i64 0)), (some [0, 3, 4])⟩]
abbrev k24_o3 : List AJ := [.o ⟨(some 8), none, false, .mv (.t 4), none⟩, .o ⟨(some 9), none, false, .mv (.t 0), none⟩, .o ⟨(some 10), none, false, .len (.t 9), none⟩, .o ⟨(some 11), none, false, .bin .lss (.t 8) (.t 10), (some [0, 3, 4, 11])⟩]
def k24_4 : ACode := .cond (.t 11) .skip (.exit 0)
def k24_5 : ACode := .seq (.region k24_o3) k24_4
abbrev k24_o4 : List AJ := [.o ⟨(some 14), none, false, .mv (.t 3), none⟩, .o ⟨(some 15), none, false, .mv (.t 4), none⟩, .o ⟨(some 16), none, false, .mv (.t 0), none⟩, .o ⟨(some 17), none, false, .mv (.t 4), none⟩, .o ⟨(some 18), none, false, .idxA 2 (.t 16) (.t 17), none⟩, .o ⟨(some 19), none, false, .load 2 true (.t 18), none⟩, .o ⟨(some 20), none, false, .call 61 [(.t 19)], none⟩, .o ⟨(some 21), none, false, .idxA 2 (.t 14) (.t 15), none⟩, .o ⟨none, none, false, .store 2 (.t 21) (.t 20), (some [0, 3, 4])⟩]
def k24_6 : ACode := .region k24_o4
abbrev k24_o5 : List AJ := [.o ⟨(some 12), none, false, .mv (.t 4), none⟩, .o ⟨(some 13), none, true, .bin .add (.t 12) (.c (.int .i64 1)), none⟩, .o ⟨(some 4), none, false, .mv (.t 13), (some [0, 3, 4])⟩]
def k24_8 : ACode := .region k24_o5
def k24_9 : ACode := .seq (.block 1 k24_6) k24_8
def k24_10 : ACode := .seq k24_5 k24_9
def k24_11 : ACode := .loop k24_10
def k24_12 : ACode := .block 0 k24_11
def k24_13 : ACode := .seq (.region k24_o2) k24_12
abbrev k24_o6 : List AJ := [.o ⟨(some 22), none, false, .mv (.t 3), none⟩, .o ⟨(some 2), none, false, .mv (.t 22), (some [2])⟩]
def k24_15 : ACode := .seq (.region k24_o6) .ret
def k24_16 : ACode := .seq k24_13 k24_15
def k24_17 : ACode := .seq (.region k24_o1) k24_16
def k24_18 : ACode := .seq (.region k24_o0) k24_17
@[simp, simp ↓] theorem k24_4r : rC k24_4 (.t 11) .skip (.exit 0) := zC rfl
@[simp, simp ↓] theorem k24_5r : sR k24_5 k24_o3 k24_4 := yR rfl
@[simp, simp ↓] theorem k24_6r : rR k24_6 k24_o4 := zR rfl
@[simp, simp ↓] theorem k24_8r : rR k24_8 k24_o5 := zR rfl
@[simp, simp ↓] theorem k24_9r : sB k24_9 1 k24_6 k24_8 := yB rfl
@[simp, simp ↓] theorem k24_10r : rS k24_10 k24_5 k24_9 := zS rfl
@[simp, simp ↓] theorem k24_11r : rL k24_11 k24_10 := zL rfl
@[simp, simp ↓] theorem k24_12r : rB k24_12 0 k24_11 := zB rfl
@[simp, simp ↓] theorem k24_13r : sR k24_13 k24_o2 k24_12 := yR rfl
@[simp, simp ↓] theorem k24_15r : sR k24_15 k24_o6 .ret := yR rfl
@[simp, simp ↓] theorem k24_16r : rS k24_16 k24_13 k24_15 := zS rfl
@[simp, simp ↓] theorem k24_17r : sR k24_17 k24_o1 k24_16 := yR rfl
@[simp, simp ↓] theorem k24_18r : sR k24_18 k24_o0 k24_17 := yR rfl
noncomputable abbrev k24_C : Orc → Cx := mkC Try.prog [] 24 23 [.tmp 2]
theorem k24_of : OfP Try.prog Try.f24 24 23 k24_C k24_18 := @ofP _ _ _ _ _ _ _ _ Try.func24 (by decide +kernel) rfl (by kernel_rfl) rfl (by kernel_rfl)
theorem k24_of0 : OfP0 Try.prog Try.f24 24 23 k24_C k24_18 := @ofP0 _ _ _ _ _ _ _ _ Try.func24 (by decide +kernel) rfl (by kernel_rfl) rfl (by kernel_rfl)
theorem toTbs_c (ts : List Tb) (h : Heap) (hl : tbsTot ts ≤ 1048576) : ACalls Try.prog 24 [.snap 2 (ts.map Tb.av)] h (fun v h' => v = .snap 2 (ts.map Tb.av) ∧ h' = h) := by
  have hn := tbs_len hl
  refine k24_of rfl orcJ2_p fun I => ?_
  refine Run2.of I 1000 ?_
  simp -implicitDefEqProofs
  refine ⟨by omega, fun id hid => ?_⟩
  refine Run2.loop (fun i => [(0, .snap 2 (ts.map Tb.av)), (3, .sl id 2 0 ts.length (some ts.length)), (4, .int .i64 (i : Nat))]) (fun i => (id, ⟨2, (ts.map Tb.av).take i ++ List.replicate (ts.length - i) (.agg [.nilsl, .nilsl])⟩) :: h) (fun i => ts.length - i) (fun i => i ≤ ts.length) 0 (Nat.zero_le _) fun i hi ih => ?_
  by_cases hlt : i < ts.length
  · have hr : Tb.tot ⟨ts[i].cols, ts[i].rows⟩ ≤ 1048576 := tbs_mem' (List.getElem_mem hlt) hl
    have go := ih (i + 1) (by omega) (by omega)
    rw [← set_fill (ts.map Tb.av) (.agg [.nilsl, .nilsl]) (i := i) (n := ts.length) (by simp) (by simpa using hlt) (x := ts[i].av) (by simp)] at go
    clear ih
    refine Run2.of I 1000 ?_
    simp -implicitDefEqProofs [hlt, hr]
    refine ⟨by omega, by omega, ?_⟩
    simpa using go
  · obtain rfl : i = ts.length := by omega
    refine Run2.of I 1000 ?_
    simp -implicitDefEqProofs
    rw [List.take_of_length_le (by simp)]
    refine .freeze id (by simp [hget]; rfl) (.base ⟨?_, by simp [hdel]⟩)
    simp [fz, List.take_of_length_le]
abbrev k27_o0 : List AJ := [.o ⟨(some 4), none, false, .mv (.c (.bool false)), (some [0, 1])⟩]
abbrev k27_o1 : List AJ := [.o ⟨(some 6), none, false, .mv (.t 0), none⟩, .o ⟨(some 7), none, false, .len (.t 6), none⟩, .o ⟨(some 8), none, false, .mv (.t 1), none⟩, .o ⟨(some 9), none, false, .len (.t 8), none⟩, .o ⟨(some 10), none, false, .bin .neq (.t 7) (.t 9), (some [0, 1, 10])⟩]
abbrev k27_o2 : List AJ := [.o ⟨(some 4), none, false, .mv (.c (.bool false)), (some [4])⟩]
def k27_3 : ACode := .seq (.region k27_o2) .ret
def k27_4 : ACode := .cond (.t 10) k27_3 .skip
def k27_5 : ACode := .seq (.region k27_o1) k27_4
abbrev k27_o3 : List AJ := [.o ⟨(some 5), none, false, .mv (.c (.int .i64 0)), (some [0, 1, 5])⟩]
abbrev k27_o4 : List AJ := [.o ⟨(some 11), none, false, .mv (.t 5), none⟩, .o ⟨(some 12), none, false, .mv (.t 0), none⟩, .o ⟨(some 13), none, false, .len (.t 12), none⟩, .o ⟨(some 14), none, false, .bin .lss (.t 11) (.t 13), (some [0, 1, 5, 14])⟩]
def k27_8 : ACode := .cond (.t 14) .skip (.exit 0)
def k27_9 : ACode := .seq (.region k27_o4) k27_8
abbrev k27_o5 : List AI := [⟨(some 17), none, false, .mv (.t 0), none⟩, ⟨(some 18), none, false, .mv (.t 5), none⟩, ⟨(some 19), none, false, .idxA 2 (.t 17) (.t 18), none⟩, ⟨(some 20), none, false, .load 2 true (.t 19), none⟩, ⟨(some 21), none, false, .mv (.t 1), none⟩, ⟨(some 22), none, false, .mv (.t 5), none⟩, ⟨(some 23), none, false, .idxA 2 (.t 21) (.t 22), none⟩, ⟨(some 24), none, false, .load 2 true (.t 23), none⟩, ⟨(some 25), none, false, .call 63 [(.t 20), (.t 24)], none⟩, ⟨(some 26), none, false, .un .not (.t 25), (some [0, 1, 5, 26])⟩]
abbrev k27_o6 : List AJ := [.o ⟨(some 4), none, false, .mv (.c (.bool false)), (some [4])⟩]
def k27_12 : ACode := .seq (.region k27_o6) .ret
def k27_13 : ACode := .cond (.t 26) k27_12 .skip
def k27_14 : ACode := .seq (.draw k27_o5 [] rfl) k27_13
abbrev k27_o7 : List AJ := [.o ⟨(some 15), none, false, .mv (.t 5), none⟩, .o ⟨(some 16), none, true, .bin .add (.t 15) (.c (.int .i64 1)), none⟩, .o ⟨(some 5), none, false, .mv (.t 16), (some [0, 1, 5])⟩]
def k27_16 : ACode := .region k27_o7
def k27_17 : ACode := .seq (.block 1 k27_14) k27_16
def k27_18 : ACode := .seq k27_9 k27_17
def k27_19 : ACode := .loop k27_18
def k27_20 : ACode := .block 0 k27_19
def k27_21 : ACode := .seq (.region k27_o3) k27_20
abbrev k27_o8 : List AJ := [.o ⟨(some 4), none, false, .mv (.c (.bool true)), (some [4])⟩]
def k27_23 : ACode := .seq (.region k27_o8) .ret
def k27_24 : ACode := .seq k27_21 k27_23
def k27_25 : ACode := .seq k27_5 k27_24
def k27_26 : ACode := .seq (.region k27_o0) k27_25
@[simp, simp ↓] theorem k27_3r : sR k27_3 k27_o2 .ret := yR rfl
@[simp, simp ↓] theorem k27_4r : rC k27_4 (.t 10) k27_3 .skip := zC rfl
@[simp, simp ↓] theorem k27_5r : sR k27_5 k27_o1 k27_4 := yR rfl
@[simp, simp ↓] theorem k27_8r : rC k27_8 (.t 14) .skip (.exit 0) := zC rfl
@[simp, simp ↓] theorem k27_9r : sR k27_9 k27_o4 k27_8 := yR rfl
@[simp, simp ↓] theorem k27_12r : sR k27_12 k27_o6 .ret := yR rfl
@[simp, simp ↓] theorem k27_13r : rC k27_13 (.t 26) k27_12 .skip := zC rfl
@[simp, simp ↓] theorem k27_14r : sD k27_14 k27_o5 [] k27_13 := yD rfl
@[simp, simp ↓] theorem k27_16r : rR k27_16 k27_o7 := zR rfl
@[simp, simp ↓] theorem k27_17r : sB k27_17 1 k27_14 k27_16 := yB rfl
@[simp, simp ↓] theorem k27_18r : rS k27_18 k27_9 k27_17 := zS rfl
@[simp, simp ↓] theorem k27_19r : rL k27_19 k27_18 := zL rfl
@[simp, simp ↓] theorem k27_20r : rB k27_20 0 k27_19 := zB rfl
@[simp, simp ↓] theorem k27_21r : sR k27_21 k27_o3 k27_20 := yR rfl
@[simp, simp ↓] theorem k27_23r : sR k27_23 k27_o8 .ret := yR rfl
@[simp, simp ↓] theorem k27_24r : rS k27_24 k27_21 k27_23 := zS rfl
@[simp, simp ↓] theorem k27_25r : rS k27_25 k27_5 k27_24 := zS rfl
@[simp, simp ↓] theorem k27_26r : sR k27_26 k27_o0 k27_25 := yR rfl
noncomputable abbrev k27_C : Orc → Cx := mkC Try.prog [] 27 27 [.tmp 4]
theorem k27_of0 : OfP0 Try.prog Try.f27 27 27 k27_C k27_26 := @ofP0 _ _ _ _ _ _ _ _ Try.func27 (by decide +kernel) rfl (by kernel_rfl) rfl (by kernel_rfl)
theorem eqTbs_s (l m : List Tb) (h : Heap) (hl : tbsTot l ≤ 1048576) : ACalls Try.prog 27 [.snap 2 (l.map Tb.av), .snap 2 (m.map Tb.av)] h (fun v h' => v = .bool (decide (l = m)) ∧ h' = h) := by
  have hn := tbs_len hl
  refine k27_of0 rfl orcJ2_p fun I => ?_
  refine Run2.of I 1000 ?_
  simp -implicitDefEqProofs
  refine ⟨by rintro hne rfl; exact hne rfl, fun hlen => ?_⟩
  refine Run2.loop (fun i => [(0, .snap 2 (l.map Tb.av)), (1, .snap 2 (m.map Tb.av)), (5, .int .i64 (i : Nat))]) (fun i => h) (fun i => l.length - i) (fun i => i ≤ l.length ∧ l.take i = m.take i) 0 (by simp) fun i hi ih => ?_
  by_cases hlt : i < l.length
  · have hlt' : i < m.length := by omega
    have hr : Tb.tot ⟨l[i].cols, l[i].rows⟩ ≤ 1048576 := tbs_mem' (List.getElem_mem hlt) hl
    have e : ((⟨l[i].cols, l[i].rows⟩ : Tb) = ⟨m[i].cols, m[i].rows⟩) ↔ l[i] = m[i] := Iff.rfl
    refine Run2.of I 1000 ?_
    simp -implicitDefEqProofs [hlt, hlt', hr, -Tb.mk.injEq]
    constructor
    · intro hne he
      subst he
      exact hne rfl
    · intro he
      refine ⟨by omega, ?_⟩
      have := ih (i + 1) ⟨by omega, by rw [List.take_succ_eq_append_getElem hlt, List.take_succ_eq_append_getElem hlt', hi.2, e.1 he]⟩ (by omega)
      simpa using this
  · refine Run2.of I 1000 ?_
    simp -implicitDefEqProofs [hlt]
    have : i = l.length := by omega
    have h2 := hi.2
    rw [List.take_of_length_le (by omega), List.take_of_length_le (by omega)] at h2
    exact h2
end Go.AG
namespace Go.AG
open Go.Proofs Go.Proofs.Ytebkdegjiollbaa
set_option linter.unusedSimpArgs false
set_option linter.unusedVariables false
set_option maxRecDepth 4000
inductive OwnTs : List AV → List Tb → Heap → Prop
  | nil : OwnTs [] [] []
  | cons {u : AV} {t : Tb} {h1 : Heap} {us : List AV} {ts : List Tb} {h2 : Heap} (o : OwnTb u t h1) (os : OwnTs us ts h2) (d : ∀ i ∈ dom h1, i ∉ dom h2) : OwnTs (u :: us) (t :: ts) (h1 ++ h2)
theorem OwnTs.nodup {us : List AV} {ts : List Tb} {hp : Heap} (h : OwnTs us ts hp) : (dom hp).Nodup := by
  induction h with
  | nil => simp [dom]
  | cons o os d ih =>
    rw [dom_append]
    exact List.nodup_append.2 ⟨o.nodup, ih, fun a ha b hb e => d a ha (e ▸ hb)⟩
theorem OwnTs.len {us : List AV} {ts : List Tb} {hp : Heap} (h : OwnTs us ts hp) : us.length = ts.length := by
  induction h with
  | nil => rfl
  | cons o os d ih => simp [ih]
theorem OwnTs.append {us : List AV} {ts : List Tb} {hp : Heap} (h : OwnTs us ts hp) : ∀ {us' : List AV} {ts' : List Tb} {hp' : Heap}, OwnTs us' ts' hp' → (∀ i ∈ dom hp, i ∉ dom hp') → OwnTs (us ++ us') (ts ++ ts') (hp ++ hp') := by
  induction h with
  | nil => intro us' rs' hp' h' _; exact h'
  | cons o os d ih =>
    intro us' rs' hp' h' hd
    rw [List.append_assoc]
    rw [dom_append] at hd
    refine .cons o (ih h' fun i hi => hd i (List.mem_append_right _ hi)) fun i hi => ?_
    rw [dom_append]
    intro hm
    rcases List.mem_append.1 hm with hm | hm
    · exact d i hi hm
    · exact hd i (List.mem_append_left _ hi) hm
theorem OwnTs.one {u : AV} {t : Tb} {hp : Heap} (o : OwnTb u t hp) : OwnTs [u] [t] hp := by
  have := OwnTs.cons o .nil (by simp [dom])
  simpa using this
theorem OwnTs.own {us : List AV} {ts : List Tb} {hp : Heap} (h : OwnTs us ts hp) : us.all Go.AG.own = true ∧ (hp.all fun p => p.2.l.all Go.AG.own) = true := by
  induction h with
  | nil => exact ⟨rfl, rfl⟩
  | cons o os d ih => exact ⟨by simp [o.own.1, ih.1], by rw [List.all_append, o.own.2, ih.2]; rfl⟩
/-- v is a list of tables in blocks of its own. -/
def OwnTT (v : AV) (ts : List Tb) (hp : Heap) : Prop := ∃ id us hi, v = .sl id 2 0 ts.length (some ts.length) ∧ OwnTs us ts hi ∧ id ∉ dom hi ∧ hp = (id, ⟨2, us⟩) :: hi
theorem OwnTT.nodup {v : AV} {ts : List Tb} {hp : Heap} (h : OwnTT v ts hp) : (dom hp).Nodup := by
  obtain ⟨id, us, hi, rfl, o, hid, rfl⟩ := h
  rw [dom_cons, List.nodup_cons]
  exact ⟨hid, o.nodup⟩
theorem toTbs_o (ts : List Tb) (h : Heap) (hl : tbsTot ts ≤ 1048576) : ACalls Try.prog 24 [.snap 2 (ts.map Tb.av)] h (fun v h' => ∃ h1, OwnTT v ts h1 ∧ (∀ i ∈ dom h1, i ∉ dom h) ∧ h' = h1 ++ h) := by
  have hn := tbs_len hl
  refine k24_of0 rfl noPure fun I => ?_
  refine Run2.of I 1000 ?_
  simp -implicitDefEqProofs
  refine ⟨by omega, fun id hid => ?_⟩
  refine Run2.loopE (α := Nat × List AV × Heap) (fun s => [(0, .snap 2 (ts.map Tb.av)), (3, .sl id 2 0 ts.length (some ts.length)), (4, .int .i64 (s.1 : Nat))]) (fun s => (id, ⟨2, s.2.1 ++ List.replicate (ts.length - s.1) (.agg [.nilsl, .nilsl])⟩) :: (s.2.2 ++ h)) (fun s => ts.length - s.1) (fun s => s.1 ≤ ts.length ∧ OwnTs s.2.1 (ts.take s.1) s.2.2 ∧ id ∉ dom s.2.2 ∧ ∀ j ∈ dom s.2.2, j ∉ dom h) (0, [], []) (by simp) (by simp) ⟨Nat.zero_le _, .nil, by simp [dom], by simp [dom]⟩ ?_
  rintro ⟨i, us, hi⟩ ⟨hin, ho, hd1, hd2⟩ ih
  simp only at hin ho hd1 hd2
  have hul : us.length = i := by rw [ho.len, List.length_take]; omega
  by_cases hlt : i < ts.length
  · have hr : ts[i].tot ≤ 1048576 := tbs_mem' (List.getElem_mem hlt) hl
    refine Run2.of I 1000 ?_
    simp -implicitDefEqProofs [hlt]
    refine (toTb_o ts[i] _ hr).mono ?_
    rintro v h' ⟨h1, o, hd, rfl⟩
    have oo := o
    obtain ⟨c, w, ha, hb, rfl, oc, ow, _, _⟩ := oo
    have hcc := oc.cell
    have hwc := ow.cell
    have hid1 : id ∉ dom h1 := fun hm => hd id hm (by simp [dom])
    have hgA : ∀ b, hget (h1 ++ b) id = hget b id := fun b => hget_app hid1
    have hsA : ∀ b c, hset (h1 ++ b) id c = h1 ++ hset b id c := fun b c => hset_app hid1
    have hd' : ∀ j ∈ dom h1, j ∉ dom hi ∧ j ∉ dom h := fun j hj => by
      have := hd j hj
      simp only [dom_cons, dom_append, List.mem_cons, List.mem_append, not_or] at this
      exact this.2
    have go := ih (i + 1, us ++ [.agg [c, w]], hi ++ h1) ⟨by simp; omega, by
      rw [List.take_succ_eq_append_getElem hlt]
      exact ho.append (.one o) fun j hj hm => (hd' j hm).1 hj, by
      simp only [dom_append, List.mem_append, not_or]; exact ⟨hd1, hid1⟩, fun j hj => by
      simp only [dom_append, List.mem_append] at hj
      rcases hj with hj | hj
      · exact hd2 j hj
      · exact (hd' j hj).2⟩ (by simp; omega)
    clear ih
    have hset1 : (us ++ List.replicate (ts.length - i) (AV.agg [.nilsl, .nilsl])).set i (.agg [c, w]) = us ++ [.agg [c, w]] ++ List.replicate (ts.length - (i + 1)) (.agg [.nilsl, .nilsl]) := by
      have hi' : i = us.length := by omega
      rw [List.set_append_right _ _ (by omega), show ts.length - i = (ts.length - (i + 1)) + 1 by omega, List.replicate_succ, List.append_assoc]
      simp [hi']
    have hget1 : (us ++ List.replicate (ts.length - i) (AV.agg [.nilsl, .nilsl]))[i]? = some (.agg [.nilsl, .nilsl]) := by
      rw [List.getElem?_append_right (by omega), List.getElem?_replicate, if_pos (by omega)]
    refine gK.go ?_
    simp -implicitDefEqProofs [hcc, hwc, stor_of hcc, stor_of hwc, hgA, hsA, hlt, hul, hset1, hget1]
    refine ⟨by omega, by omega, ?_⟩
    refine Run2.perm (perm_mid _ _ _ _) ?_
    simpa using go
  · obtain rfl : i = ts.length := by omega
    rw [List.take_length] at ho
    refine Run2.of I 1000 ?_
    simp -implicitDefEqProofs
    refine ⟨(id, ⟨2, us⟩) :: hi, ⟨id, us, hi, rfl, ho, hd1, rfl⟩, ?_, by simp⟩
    simp only [dom_cons, List.mem_cons]
    rintro j (rfl | hj)
    · exact hid
    · exact hd2 j hj
/-! ## Lent -/
theorem lend1_snap' (L : Heap) (sz : Nat) (us : List AV) : lend1 L (.snap sz us) = .snap sz (us.map (lend1 L)) := by
  induction L generalizing us with
  | nil => simp [lend1]
  | cons p L ih =>
    simp only [lend1, fz]
    rw [ih]
    congr 1
    have : ∀ us, (fzs p.1 p.2 us).map (lend1 L) = us.map fun x => lend1 L (fz p.1 p.2 x) := fun us => by
      induction us with
      | nil => rfl
      | cons x us ih => simp [fzs, ih]
    exact this us
/-- A table lent. -/
inductive IsTb : AV → Tb → Prop
  | mk {u w : AV} {t : Tb} (hu : Wk u (.snap 1 (t.cols.map iv))) (hw : Wk w (.snap 1 (t.rows.map il))) (cu : cold u = true) (cw : cold w = true) : IsTb (.agg [u, w]) t
theorem lend1_aggT (L : Heap) (a u : AV) : lend1 L (.agg [a, u]) = .agg [lend1 L a, lend1 L u] := by
  induction L generalizing a u with
  | nil => rfl
  | cons p L ih => simp only [lend1, fz, fzs]; exact ih _ _
theorem OwnTb.lentMid {v : AV} {t : Tb} {hp : Heap} (h : OwnTb v t hp) {A B : Heap} (nd : (dom (A ++ (hp ++ B))).Nodup) : IsTb (lend1 (A ++ (hp ++ B)) v) t := by
  obtain ⟨u, w, h1, h2, rfl, hu, hw, hd, rfl⟩ := h
  rw [lend1_aggT]
  have a1 := hu.lentIn cold_iv1 (L := A ++ (h1 ++ h2 ++ B)) (fun p hp => by simp [hp]) nd
  have a2 := hw.lentMid (A := A ++ h1) (B := B) (by simpa using nd)
  have e : A ++ h1 ++ (h2 ++ B) = A ++ (h1 ++ h2 ++ B) := by simp
  rw [e] at a2
  exact .mk a1.wk a2.wk (a1.cold cold_iv1) a2.cold
theorem OwnTs.lentMid {us : List AV} {ts : List Tb} {hp : Heap} (h : OwnTs us ts hp) : ∀ {A B : Heap}, (dom (A ++ (hp ++ B))).Nodup → All2 IsTb (us.map (lend1 (A ++ (hp ++ B)))) ts := by
  induction h with
  | nil => intro A B _; exact .nil
  | @cons u t h1 us ts h2 o os d ih =>
    intro A B nd
    have e1 : A ++ (h1 ++ h2 ++ B) = A ++ (h1 ++ (h2 ++ B)) := by simp
    have e2 : A ++ (h1 ++ h2 ++ B) = (A ++ h1) ++ (h2 ++ B) := by simp
    refine .cons ?_ ?_
    · have := o.lentMid (A := A) (B := h2 ++ B) (by rw [← e1]; exact nd)
      rw [e1]; exact this
    · have := ih (A := A ++ h1) (B := B) (by rw [← e2]; exact nd)
      rw [e2]; exact this
theorem Elems.tbs {w : World} {D : List Nat} : ∀ {xs : List AV} {ts : List Tb} {b o : Nat}, All2 IsTb xs ts → Elems w D 2 xs b o → Elems w D 2 (ts.map Tb.av) b o
  | _, _, _, _, .nil, h => h
  | _, _, b, o, .cons (.mk hu hw _ _) hs, ⟨⟨h1, h2⟩, h3⟩ => ⟨⟨rfl, Cells.wks (.cons hu (.cons hw .nil)) h2⟩, Elems.tbs hs h3⟩
theorem IsTs.wk {xs : List AV} {ts : List Tb} (h : All2 IsTb xs ts) : Wk (.snap 2 xs) (.snap 2 (ts.map Tb.av)) := by
  have hl := h.length_eq
  rintro w D v ⟨A, c, e, h1, h2, h3⟩
  refine ⟨A, c, by rw [List.length_map, ← hl]; exact e, by rw [List.length_map, ← hl]; exact h1, fun hA => ?_, fun ad had => ?_⟩
  · have := h2 hA
    subst this
    cases h; rfl
  · obtain ⟨g1, g2, g3⟩ := h3 ad had
    have hne : ts.map Tb.av ≠ [] → xs ≠ [] := fun hy hx => hy (by subst hx; cases h; rfl)
    exact ⟨fun hy => g1 (hne hy), fun hy => g2 (hne hy), Elems.tbs h g3⟩
theorem IsTs.cold {xs : List AV} {ts : List Tb} (h : All2 IsTb xs ts) : colds xs = true := by
  induction h with
  | nil => rfl
  | cons h1 _ ih =>
    cases h1 with
    | mk hu hw cu cw => simp [colds, Go.AG.cold, cu, cw, ih]
theorem OwnTT.lentMid {v : AV} {ts : List Tb} {hp : Heap} (h : OwnTT v ts hp) {A B : Heap} (nd : (dom (A ++ (hp ++ B))).Nodup) : Wk (lend1 (A ++ (hp ++ B)) v) (.snap 2 (ts.map Tb.av)) ∧ Go.AG.cold (lend1 (A ++ (hp ++ B)) v) = true := by
  obtain ⟨id, us, hi, rfl, o, hid, rfl⟩ := h
  have hl := o.len
  have nd0 := nd
  simp only [dom_append, dom_cons, List.nodup_append, List.nodup_cons, List.mem_append, List.mem_cons, not_or] at nd
  have hA : id ∉ dom A := fun hm => nd.2.2 id hm id (.inl (.inl rfl)) rfl
  have e0 : lend1 (A ++ (((id, (⟨2, us⟩ : Blk)) :: hi) ++ B)) (.sl id 2 0 ts.length (some ts.length)) = .snap 2 (us.map (lend1 (hi ++ B))) := by
    rw [lend1_append, lend1_out A hA]
    have : lend1 ((id, (⟨2, us⟩ : Blk)) :: (hi ++ B)) (.sl id 2 0 ts.length (some ts.length)) = lend1 (hi ++ B) (.snap 2 us) := by
      simp only [lend1, fz]
      rw [if_pos (by simp; omega)]
      simp only [List.drop_zero]
      rw [List.take_of_length_le (by omega)]
    rw [List.cons_append, this, lend1_snap']
  rw [e0]
  have hB : (dom ([] ++ (hi ++ B))).Nodup := by
    simp only [List.nil_append, dom_append, List.nodup_append]
    exact ⟨nd.2.1.1.2, nd.2.1.2.1, fun a ha b hb => nd.2.1.2.2 a (.inr ha) b hb⟩
  have hT := o.lentMid hB
  simp only [List.nil_append] at hT
  exact ⟨IsTs.wk hT, by simp [Go.AG.cold, IsTs.cold hT]⟩
theorem eqT_own {w : AV} {l m : List Tb} {g h : Heap} (o : OwnTT w l g) (hs : ∀ p ∈ g, p ∈ h) (hl : tbsTot l ≤ 1048576) : ACalls Try.prog 27 [w, .snap 2 (m.map Tb.av)] h (fun r h' => r = .bool (decide (l = m)) ∧ h' = h) := by
  refine ACalls.reads g hs ?_ rfl
  have hL := o.lentMid (A := []) (B := []) (by simpa using o.nodup)
  simp only [List.nil_append, List.append_nil] at hL
  rw [lend_cons, lend_cons, lend_nil', lend1_cold g (x := .snap 2 (m.map Tb.av)) (by simp [cold, colds_Tb])]
  exact ACalls.wk (.cons hL.1 (.refl _)) (eqTbs_s l m [] hl)
/-! ## Marks -/
def Tb.cnt (t : Tb) : Nat := t.cols.length + sumL t.rows
def cntT (ts : List Tb) : Nat := (ts.map Tb.cnt).sum
theorem cntT_take (ts : List Tb) {i : Nat} (hi : i < ts.length) : cntT (ts.take (i + 1)) = cntT (ts.take i) + ts[i].cnt := by
  unfold cntT
  rw [List.take_succ_eq_append_getElem hi, List.map_append, List.sum_append]
  simp
theorem cntT_le (ts : List Tb) (i : Nat) : cntT (ts.take i) ≤ cntT ts := by
  conv => rhs; rw [← List.take_append_drop i ts]
  unfold cntT
  rw [List.map_append, List.sum_append]
  omega
theorem cntT_tot (ts : List Tb) : cntT ts ≤ tbsTot ts := by
  rw [tbsTot_eq]
  unfold cntT sumT
  induction ts with
  | nil => simp
  | cons t ts ih =>
    rw [List.map_cons, List.sum_cons, List.map_cons, List.sum_cons, List.length_cons]
    have : t.cnt ≤ t.tot := by unfold Tb.cnt Tb.tot ssTot; omega
    omega
abbrev k28_o0 : List AJ := [.o ⟨(some 4), none, false, .mv (.c (.int .i64 0)), (some [0, 1])⟩]
abbrev k28_o1 : List AJ := [.o ⟨(some 5), none, false, .mv (.c (.int .i64 0)), (some [0, 1, 5])⟩]
abbrev k28_o2 : List AJ := [.o ⟨(some 6), none, false, .mv (.t 5), none⟩, .o ⟨(some 7), none, false, .mv (.t 0), none⟩, .o ⟨(some 8), none, false, .len (.t 7), none⟩, .o ⟨(some 9), none, false, .bin .lss (.t 6) (.t 8), (some [0, 1, 5, 9])⟩]
def k28_3 : ACode := .cond (.t 9) .skip (.exit 0)
def k28_4 : ACode := .seq (.region k28_o2) k28_3
abbrev k28_o3 : List AJ := [.o ⟨(some 12), none, false, .mv (.t 0), none⟩, .o ⟨(some 13), none, false, .mv (.t 5), none⟩, .o ⟨(some 14), none, false, .idxA 2 (.t 12) (.t 13), none⟩, .o ⟨(some 15), none, false, .fieldA 0 (.t 14), none⟩, .o ⟨(some 16), none, false, .load 1 false (.t 15), none⟩, .o ⟨(some 17), none, false, .mv (.t 1), none⟩, .o ⟨(some 18), none, false, .call 29 [(.t 16), (.t 17)], none⟩, .o ⟨(some 1), none, false, .mv (.t 18), (some [0, 1, 5])⟩]
abbrev k28_o4 : List AJ := [.o ⟨(some 19), none, false, .mv (.t 0), none⟩, .o ⟨(some 20), none, false, .mv (.t 5), none⟩, .o ⟨(some 21), none, false, .idxA 2 (.t 19) (.t 20), none⟩, .o ⟨(some 22), none, false, .fieldA 1 (.t 21), none⟩, .o ⟨(some 23), none, false, .load 1 false (.t 22), none⟩, .o ⟨(some 24), none, false, .mv (.t 1), none⟩, .o ⟨(some 25), none, false, .call 15 [(.t 23), (.t 24)], none⟩, .o ⟨(some 1), none, false, .mv (.t 25), (some [0, 1, 5])⟩]
def k28_6 : ACode := .region k28_o4
def k28_7 : ACode := .seq (.region k28_o3) k28_6
abbrev k28_o5 : List AJ := [.o ⟨(some 10), none, false, .mv (.t 5), none⟩, .o ⟨(some 11), none, true, .bin .add (.t 10) (.c (.int .i64 1)), none⟩, .o ⟨(some 5), none, false, .mv (.t 11), (some [0, 1, 5])⟩]
def k28_9 : ACode := .region k28_o5
def k28_10 : ACode := .seq (.block 1 k28_7) k28_9
def k28_11 : ACode := .seq k28_4 k28_10
def k28_12 : ACode := .loop k28_11
def k28_13 : ACode := .block 0 k28_12
def k28_14 : ACode := .seq (.region k28_o1) k28_13
abbrev k28_o6 : List AJ := [.o ⟨(some 26), none, false, .mv (.t 1), none⟩, .o ⟨(some 4), none, false, .mv (.t 26), (some [4])⟩]
def k28_16 : ACode := .seq (.region k28_o6) .ret
def k28_17 : ACode := .seq k28_14 k28_16
def k28_18 : ACode := .seq (.region k28_o0) k28_17
@[simp, simp ↓] theorem k28_3r : rC k28_3 (.t 9) .skip (.exit 0) := zC rfl
@[simp, simp ↓] theorem k28_4r : sR k28_4 k28_o2 k28_3 := yR rfl
@[simp, simp ↓] theorem k28_6r : rR k28_6 k28_o4 := zR rfl
@[simp, simp ↓] theorem k28_7r : sR k28_7 k28_o3 k28_6 := yR rfl
@[simp, simp ↓] theorem k28_9r : rR k28_9 k28_o5 := zR rfl
@[simp, simp ↓] theorem k28_10r : sB k28_10 1 k28_7 k28_9 := yB rfl
@[simp, simp ↓] theorem k28_11r : rS k28_11 k28_4 k28_10 := zS rfl
@[simp, simp ↓] theorem k28_12r : rL k28_12 k28_11 := zL rfl
@[simp, simp ↓] theorem k28_13r : rB k28_13 0 k28_12 := zB rfl
@[simp, simp ↓] theorem k28_14r : sR k28_14 k28_o1 k28_13 := yR rfl
@[simp, simp ↓] theorem k28_16r : sR k28_16 k28_o6 .ret := yR rfl
@[simp, simp ↓] theorem k28_17r : rS k28_17 k28_14 k28_16 := zS rfl
@[simp, simp ↓] theorem k28_18r : sR k28_18 k28_o0 k28_17 := yR rfl
noncomputable abbrev k28_C : Orc → Cx := mkC Try.prog [] 28 27 [.tmp 4]
theorem k28_of0 : OfP0 Try.prog Try.f28 28 27 k28_C k28_18 := @ofP0 _ _ _ _ _ _ _ _ Try.func28 (by decide +kernel) rfl (by kernel_rfl) rfl (by kernel_rfl)
theorem markTbs_o {v : AV} {ts : List Tb} {hs : Heap} (ho : OwnTT v ts hs) (k : Int) (hk : 0 ≤ k ∧ k ≤ 1048576) (hl : tbsTot ts ≤ 1048576) : ACalls Try.prog 28 [v, .int .i64 k] hs (fun r h' => r = .int .i64 (k + cntT ts) ∧ (h'.all fun p => p.2.l.all Go.AG.own) = true) := by
  obtain ⟨id, us, hi, rfl, o, hid, rfl⟩ := ho
  have hn := tbs_len hl
  have hul := o.len
  have huo := o.own.1
  refine k28_of0 rfl noPure fun I => ?_
  refine Run2.of I 1000 ?_
  simp -implicitDefEqProofs
  refine Run2.loopE (α := Nat × Heap) (fun s => [(0, .sl id 2 0 ts.length (some ts.length)), (1, .int .i64 (k + cntT (ts.take s.1))), (5, .int .i64 (s.1 : Nat))]) (fun s => (id, ⟨2, us⟩) :: s.2) (fun s => ts.length - s.1) (fun s => s.1 ≤ ts.length ∧ OwnTs (us.drop s.1) (ts.drop s.1) s.2 ∧ id ∉ dom s.2) (0, hi) (by simp [cntT]) (by simp) ⟨Nat.zero_le _, by simpa using o, hid⟩ ?_
  rintro ⟨i, hr⟩ ⟨hi', orr, hid2⟩ ih
  simp only at hi' orr hid2 ih ⊢
  have hcle := cntT_tot ts
  by_cases hlt : i < ts.length
  · have hui : i < us.length := by omega
    have hcs := cntT_take ts hlt
    have hcl := cntT_le ts (i + 1)
    have htt := Tb.fit (tbs_mem' (List.getElem_mem hlt) hl)
    have hce : ts[i].cnt = ts[i].cols.length + sumL ts[i].rows := rfl
    rw [List.drop_eq_getElem_cons hlt, List.drop_eq_getElem_cons hui] at orr
    have hg : us[i]? = some us[i] := by simp [hui]
    generalize hu0 : us[i] = u0 at orr hg
    generalize ht0 : ts[i] = t0 at orr hcs htt hce
    generalize hdu : us.drop (i + 1) = du at orr
    generalize hdr : ts.drop (i + 1) = dr at orr
    cases orr with
    | @cons _ _ g _ _ hr' o1 os1 d1 =>
      obtain ⟨c, w, ha, hb, rfl, oc, ow, hab, rfl⟩ := o1
      have hcc := oc.cell
      have hwc := ow.cell
      have go := ih (i + 1, hr') ⟨by simp only; omega, by simp only; rw [hdu, hdr]; exact os1, fun hm => hid2 (by rw [dom_append]; exact List.mem_append_right _ hm)⟩ (by simp only; omega)
      simp only at go
      clear ih
      rw [dom_append, dom_append, List.mem_append, List.mem_append, not_or, not_or] at hid2
      refine Run2.of I 1000 ?_
      simp -implicitDefEqProofs [hlt, hg, hcc, hwc]
      have hss : sumL t0.rows ≤ ssTot t0.rows := by unfold ssTot; omega
      refine (markI_drop oc ((id, ⟨2, us⟩) :: (hb ++ hr')) (fun p hp => by simp [hp]) (fun p hp => ?_) (fun nd => ?_) _ (by omega) (by omega)).mono ?_
      · rcases List.mem_cons.1 hp with rfl | hp
        · exact ⟨List.mem_cons_self .., hid2.1.1⟩
        · rcases List.mem_append.1 hp with hp | hp
          · exact ⟨by simp [hp], fun hm => hab p.1 hm (List.mem_map.2 ⟨p, hp, rfl⟩)⟩
          · exact ⟨by simp [hp], fun hm => d1 p.1 (by rw [dom_append]; exact List.mem_append_left _ hm) (List.mem_map.2 ⟨p, hp, rfl⟩)⟩
      · exact nd.sublist ((List.Sublist.cons_cons _ (List.sublist_append_right ha _)).map _)
      rintro r h' ⟨rfl, rfl⟩
      refine gK.go ?_
      simp -implicitDefEqProofs [hlt, hg, hcc, hwc]
      refine (markL_drop ow ((id, ⟨2, us⟩) :: hr') (fun p hp => by simp [hp]) (fun p hp => ?_) (fun nd => ?_) _ (by omega) (by omega)).mono ?_
      · rcases List.mem_cons.1 hp with rfl | hp
        · exact ⟨List.mem_cons_self .., hid2.1.2⟩
        · exact ⟨by simp [hp], fun hm => d1 p.1 (by rw [dom_append]; exact List.mem_append_right _ hm) (List.mem_map.2 ⟨p, hp, rfl⟩)⟩
      · exact nd.sublist ((List.Sublist.cons_cons _ (List.sublist_append_right hb _)).map _)
      rintro r h' ⟨rfl, rfl⟩
      have e : k + ((cntT (ts.take (i + 1)) : Nat) : Int) = k + cntT (ts.take i) + t0.cols.length + sumL t0.rows := by omega
      rw [e] at go
      refine gK.go ?_
      simp -implicitDefEqProofs
      exact ⟨by omega, by simpa using go⟩
  · obtain rfl : i = ts.length := by omega
    rw [List.take_length]
    rw [List.drop_length, List.drop_of_length_le (by omega)] at orr
    cases orr
    refine Run2.of I 1000 ?_
    simp -implicitDefEqProofs
    simpa using huo
theorem markT_drop {w : AV} {l : List Tb} {g h : Heap} (o : OwnTT w l g) (keep : Heap) (hs : ∀ p ∈ g, p ∈ h) (hk : ∀ p ∈ keep, p ∈ h ∧ p.1 ∉ dom g) (nk : (dom h).Nodup → (dom keep).Nodup) (k : Int) (hk1 : 0 ≤ k ∧ k ≤ 1048576) (hl : tbsTot l ≤ 1048576) : ACalls Try.prog 28 [w, .int .i64 k] h (fun r h' => r = .int .i64 (k + cntT l) ∧ h' = keep) :=
  ACalls.marks g keep o.nodup hs hk nk (S := fun h' => (h'.all fun p => p.2.l.all Go.AG.own) = true) (markTbs_o o k hk1 hl) ⟨rfl, fun h' ho => ho⟩
end Go.AG
namespace Go.AG
open Go.Proofs Go.Proofs.Ytebkdegjiollbaa
set_option linter.unusedSimpArgs false
set_option linter.unusedVariables false
set_option maxRecDepth 4000
noncomputable def o_szTbs : List AV → Option (Prop × AV) := tab (fun (x : List Tb × Int) => match x with | (ts, k) => [.snap 2 (ts.map Tb.av), .int .i64 k]) (fun x => match x with | (ts, k) => ((0 ≤ k ∧ k ≤ 1048576) ∧ wfTs ts)) (fun x => match x with | (ts, k) => .int .i64 (if k < tbsTot ts then -1 else k - tbsTot ts))
@[simp] theorem o_szTbs_e (ts : List Tb) (k : Int) : o_szTbs [.snap 2 (ts.map Tb.av), .int .i64 k] = some (((0 ≤ k ∧ k ≤ 1048576) ∧ wfTs ts), .int .i64 (if k < tbsTot ts then -1 else k - tbsTot ts)) := tab_at (enc := fun (x : List Tb × Int) => match x with | (ts, k) => [.snap 2 (ts.map Tb.av), .int .i64 k]) (fun x y h => by
  obtain ⟨ts1, k1⟩ := x; obtain ⟨ts2, k2⟩ := y; simp at h; simp [h] <;> omega) _ _ (ts, k)
theorem o_szTbs_k : Knows Try.prog 22 o_szTbs := tab_knows fun x hx h => by
  obtain ⟨ts, k⟩ := x; exact szTbs_c ts k h hx.1 hx.2
noncomputable def orcN : List (Nat × (List AV → Option (Prop × AV))) := (22, o_szTbs) :: []
theorem orcN_p : Pure Try.prog (lk orcN) := (lk_pure o_szTbs_k lk_pure0)
@[simp] theorem orcN_l (b : Bool) (g : FuncId) (l : List AV) : lk orcN b g l = if g = 22 then o_szTbs l else none := nr rfl
theorem glRows_tot (ts : List Tb) (k : Int) : ssTot (glRows ts k) ≤ 200000 := by
  obtain ⟨_, h1, h2⟩ := glRows_bd ts k
  have : ∀ rs : List (List Int), (∀ r ∈ rs, r.length ≤ 8) → sumL rs ≤ 8 * rs.length := fun rs => by
    induction rs with
    | nil => intro _; simp [sumL]
    | cons r rs ih =>
      intro h
      have a := ih fun r hr => h r (List.mem_cons_of_mem _ hr)
      have b := h r (List.mem_cons_self ..)
      have e : sumL (r :: rs) = r.length + sumL rs := by simp [sumL]
      rw [e, List.length_cons]; omega
  have := this _ h2
  unfold ssTot; omega
theorem glOwn_own {ts : List Tb} {k : Int} {v : AV} {h' : Heap} (H : ∃ wc w gc gf, v = .tup [wc, w, .int .i64 (glC ts k)] ∧ OwnL iv 1 wc (glCols ts k) gc ∧ OwnLL w (glRows ts k) gf ∧ (∀ i ∈ dom gc, i ∉ dom gf) ∧ h' = gc ++ gf) : own v = true ∧ (h'.all fun p => p.2.l.all own) = true := by
  obtain ⟨wc, w, gc, gf, rfl, oc, ow, _, rfl⟩ := H
  have a := oc.own own_iv1
  have b := ow.own
  exact ⟨by simp [own, owns, a.1, b.1], by rw [List.all_append, a.2, b.2]; rfl⟩
abbrev k5_o0 : List AJ := [.o ⟨(some 4), none, false, .mv (.c (.bool false)), (some [0, 1])⟩]
abbrev k5_o1 : List AJ := [.o ⟨(some 5), none, false, .mv (.c (.int .i64 1048576)), (some [0, 1, 5])⟩]
abbrev k5_o2 : List AJ := [.o ⟨(some 19), none, false, .mv (.t 0), none⟩, .o ⟨(some 20), none, false, .mv (.t 5), none⟩, .o ⟨(some 21), none, false, .call 22 [(.t 19), (.t 20)], none⟩, .o ⟨(some 5), none, false, .mv (.t 21), (some [0, 1, 5])⟩]
abbrev k5_o3 : List AJ := [.o ⟨(some 22), none, false, .mv (.t 5), none⟩, .o ⟨(some 23), none, false, .bin .lss (.t 22) (.c (.int .i64 0)), (some [0, 1, 23])⟩]
abbrev k5_o4 : List AJ := [.o ⟨(some 4), none, false, .mv (.c (.bool true)), (some [4])⟩]
def k5_5 : ACode := .seq (.region k5_o4) .ret
def k5_6 : ACode := .cond (.t 23) k5_5 .skip
def k5_7 : ACode := .seq (.region k5_o3) k5_6
abbrev k5_o5 : List AJ := [.o ⟨(some 25), none, false, .mv (.t 0), none⟩, .o ⟨(some 26), none, false, .call 24 [(.t 25)], none⟩, .o ⟨(some 27), none, false, .mv (.t 1), none⟩, .o ⟨(some 28), none, false, .call 23 [(.t 26), (.t 27)], none⟩, .o ⟨(some 24), none, false, .mv (.t 28), none⟩, .o ⟨(some 29), none, false, .extract (.t 24) 0, none⟩, .o ⟨(some 30), none, false, .extract (.t 24) 1, none⟩, .o ⟨(some 31), none, false, .extract (.t 24) 2, none⟩, .o ⟨(some 6), none, false, .mv (.t 29), none⟩, .o ⟨(some 7), none, false, .mv (.t 30), none⟩, .o ⟨(some 8), none, false, .mv (.t 31), (some [0, 1, 6, 7, 8])⟩]
abbrev k5_o6 : List AJ := [.o ⟨(some 32), none, false, .mv (.t 0), none⟩, .o ⟨(some 33), none, false, .call 24 [(.t 32)], none⟩, .o ⟨(some 9), none, false, .mv (.t 33), (some [0, 1, 6, 7, 8, 9])⟩]
abbrev k5_o7 : List AJ := [.o ⟨(some 35), none, false, .mv (.t 9), none⟩, .o ⟨(some 36), none, false, .mv (.t 1), none⟩, .o ⟨(some 37), none, false, .call 25 [(.t 35), (.t 36)], none⟩, .o ⟨(some 34), none, false, .mv (.t 37), none⟩, .o ⟨(some 38), none, false, .extract (.t 34) 0, none⟩, .o ⟨(some 39), none, false, .extract (.t 34) 1, none⟩, .o ⟨(some 40), none, false, .extract (.t 34) 2, none⟩, .o ⟨(some 10), none, false, .mv (.t 38), none⟩, .o ⟨(some 11), none, false, .mv (.t 39), none⟩, .o ⟨(some 12), none, false, .mv (.t 40), (some [0, 1, 6, 7, 8, 9, 10, 11, 12])⟩]
abbrev k5_o8 : List AJ := [.o ⟨(some 41), none, false, .mv (.t 10), none⟩, .o ⟨(some 42), none, false, .mv (.t 6), none⟩, .o ⟨(some 43), none, false, .call 26 [(.t 41), (.t 42)], none⟩, .o ⟨(some 44), none, false, .un .not (.t 43), none⟩, .o ⟨(some 45), none, false, .mv (.t 44), none⟩, .o ⟨(some 46), (some (45, false)), false, .mv (.t 11), none⟩, .o ⟨(some 47), (some (45, false)), false, .mv (.t 7), none⟩, .o ⟨(some 48), (some (45, false)), false, .call 12 [(.t 46), (.t 47)], none⟩, .o ⟨(some 49), (some (45, false)), false, .un .not (.t 48), none⟩, .o ⟨(some 50), none, false, .pick (.t 45) (.c (.bool true)) (.t 49), (some [0, 1, 6, 7, 8, 9, 10, 11, 12, 50])⟩, .o ⟨(some 51), none, false, .mv (.t 50), none⟩, .o ⟨(some 52), (some (51, false)), false, .mv (.t 12), none⟩, .o ⟨(some 53), (some (51, false)), false, .mv (.t 8), none⟩, .o ⟨(some 54), (some (51, false)), false, .bin .neq (.t 52) (.t 53), none⟩, .o ⟨(some 55), none, false, .pick (.t 51) (.c (.bool true)) (.t 54), (some [0, 1, 6, 7, 8, 9, 10, 11, 12, 55])⟩]
abbrev k5_o9 : List AJ := [.o ⟨(some 4), none, false, .mv (.c (.bool false)), (some [4])⟩]
def k5_13 : ACode := .seq (.region k5_o9) .ret
def k5_14 : ACode := .cond (.t 55) k5_13 .skip
def k5_15 : ACode := .seq (.region k5_o8) k5_14
abbrev k5_o10 : List AJ := [.o ⟨(some 56), none, false, .mv (.t 9), none⟩, .o ⟨(some 57), none, false, .mv (.t 0), none⟩, .o ⟨(some 58), none, false, .call 24 [(.t 57)], none⟩, .o ⟨(some 59), none, false, .call 27 [(.t 56), (.t 58)], none⟩, .o ⟨(some 60), none, false, .un .not (.t 59), (some [0, 1, 6, 7, 8, 9, 10, 11, 12, 60])⟩]
abbrev k5_o11 : List AJ := [.o ⟨(some 4), none, false, .mv (.c (.bool false)), (some [4])⟩]
def k5_18 : ACode := .seq (.region k5_o11) .ret
def k5_19 : ACode := .cond (.t 60) k5_18 .skip
def k5_20 : ACode := .seq (.region k5_o10) k5_19
abbrev k5_o12 : List AJ := [.o ⟨(some 13), none, false, .mv (.c (.int .i64 1)), (some [0, 1, 6, 7, 8, 9, 10, 11, 12, 13])⟩]
abbrev k5_o13 : List AJ := [.o ⟨(some 61), none, false, .mv (.t 9), none⟩, .o ⟨(some 62), none, false, .mv (.t 13), none⟩, .o ⟨(some 63), none, false, .call 28 [(.t 61), (.t 62)], none⟩, .o ⟨(some 13), none, false, .mv (.t 63), (some [0, 1, 6, 7, 8, 10, 11, 12, 13])⟩]
abbrev k5_o14 : List AJ := [.o ⟨(some 64), none, false, .mv (.t 13), none⟩, .o ⟨(some 65), none, false, .bin .lss (.t 64) (.c (.int .i64 0)), none⟩, .o ⟨(some 66), none, false, .mv (.t 65), none⟩, .o ⟨(some 67), (some (66, false)), false, .mv (.t 10), none⟩, .o ⟨(some 68), (some (66, false)), false, .mv (.t 6), none⟩, .o ⟨(some 69), (some (66, false)), false, .call 26 [(.t 67), (.t 68)], none⟩, .o ⟨(some 70), (some (66, false)), false, .un .not (.t 69), none⟩, .o ⟨(some 71), none, false, .pick (.t 66) (.c (.bool true)) (.t 70), none⟩, .o ⟨(some 72), none, false, .mv (.t 71), none⟩, .o ⟨(some 73), (some (72, false)), false, .mv (.t 11), (some [0, 1, 6, 7, 8, 10, 11, 12, 72, 73])⟩, .o ⟨(some 74), (some (72, false)), false, .mv (.t 7), none⟩, .o ⟨(some 75), (some (72, false)), false, .call 12 [(.t 73), (.t 74)], none⟩, .o ⟨(some 76), (some (72, false)), false, .un .not (.t 75), none⟩, .o ⟨(some 77), none, false, .pick (.t 72) (.c (.bool true)) (.t 76), none⟩, .o ⟨(some 78), none, false, .mv (.t 77), none⟩, .o ⟨(some 79), (some (78, false)), false, .mv (.t 12), none⟩, .o ⟨(some 80), (some (78, false)), false, .mv (.t 8), none⟩, .o ⟨(some 81), (some (78, false)), false, .bin .neq (.t 79) (.t 80), (some [0, 1, 6, 7, 8, 10, 11, 78, 81])⟩, .o ⟨(some 82), none, false, .pick (.t 78) (.c (.bool true)) (.t 81), (some [0, 1, 6, 7, 8, 10, 11, 82])⟩]
abbrev k5_o15 : List AJ := [.o ⟨(some 4), none, false, .mv (.c (.bool false)), (some [4])⟩]
def k5_25 : ACode := .seq (.region k5_o15) .ret
def k5_26 : ACode := .cond (.t 82) k5_25 .skip
def k5_27 : ACode := .seq (.region k5_o14) k5_26
abbrev k5_o16 : List AJ := [.o ⟨(some 14), none, false, .mv (.c (.int .i64 1)), (some [0, 1, 6, 7, 8, 10, 11, 14])⟩]
abbrev k5_o17 : List AJ := [.o ⟨(some 83), none, false, .mv (.t 10), none⟩, .o ⟨(some 84), none, false, .mv (.t 14), none⟩, .o ⟨(some 85), none, false, .call 29 [(.t 83), (.t 84)], none⟩, .o ⟨(some 14), none, false, .mv (.t 85), (some [0, 1, 6, 7, 8, 10, 11, 14])⟩]
abbrev k5_o18 : List AJ := [.o ⟨(some 86), none, false, .mv (.t 11), none⟩, .o ⟨(some 87), none, false, .mv (.t 14), none⟩, .o ⟨(some 88), none, false, .call 15 [(.t 86), (.t 87)], none⟩, .o ⟨(some 14), none, false, .mv (.t 88), (some [0, 1, 6, 7, 8, 10, 11, 14])⟩]
abbrev k5_o19 : List AJ := [.o ⟨(some 15), none, false, .mv (.c (.int .i64 1)), (some [0, 1, 6, 7, 8, 10, 11, 14, 15])⟩]
abbrev k5_o20 : List AJ := [.o ⟨(some 89), none, false, .mv (.t 10), none⟩, .o ⟨(some 90), none, false, .mv (.t 15), none⟩, .o ⟨(some 91), none, false, .call 30 [(.t 89), (.t 90)], none⟩, .o ⟨(some 15), none, false, .mv (.t 91), (some [0, 1, 6, 7, 8, 10, 11, 14, 15])⟩]
abbrev k5_o21 : List AJ := [.o ⟨(some 92), none, false, .mv (.t 15), none⟩, .o ⟨(some 93), none, false, .bin .lss (.t 92) (.c (.int .i64 0)), (some [0, 1, 6, 7, 8, 10, 11, 14, 15, 93])⟩]
abbrev k5_o22 : List AJ := [.o ⟨(some 4), none, false, .mv (.c (.bool false)), (some [4])⟩]
def k5_35 : ACode := .seq (.region k5_o22) .ret
def k5_36 : ACode := .cond (.t 93) k5_35 .skip
def k5_37 : ACode := .seq (.region k5_o21) k5_36
abbrev k5_o23 : List AJ := [.o ⟨(some 94), none, false, .mv (.t 11), none⟩, .o ⟨(some 95), none, false, .mv (.t 15), none⟩, .o ⟨(some 96), none, false, .call 16 [(.t 94), (.t 95)], none⟩, .o ⟨(some 15), none, false, .mv (.t 96), (some [0, 1, 6, 7, 8, 10, 11, 14, 15])⟩]
abbrev k5_o24 : List AJ := [.o ⟨(some 97), none, false, .mv (.t 15), none⟩, .o ⟨(some 98), none, false, .bin .lss (.t 97) (.c (.int .i64 0)), (some [0, 1, 6, 7, 8, 10, 11, 14, 15, 98])⟩]
abbrev k5_o25 : List AJ := [.o ⟨(some 4), none, false, .mv (.c (.bool false)), (some [4])⟩]
def k5_41 : ACode := .seq (.region k5_o25) .ret
def k5_42 : ACode := .cond (.t 98) k5_41 .skip
def k5_43 : ACode := .seq (.region k5_o24) k5_42
abbrev k5_o26 : List AJ := [.o ⟨(some 99), none, false, .mv (.t 15), none⟩, .o ⟨(some 100), none, false, .mv (.t 14), none⟩, .o ⟨(some 101), none, false, .bin .neq (.t 99) (.t 100), (some [0, 1, 6, 7, 8, 10, 11, 14, 101])⟩]
abbrev k5_o27 : List AJ := [.o ⟨(some 4), none, false, .mv (.c (.bool false)), (some [4])⟩]
def k5_46 : ACode := .seq (.region k5_o27) .ret
def k5_47 : ACode := .cond (.t 101) k5_46 .skip
def k5_48 : ACode := .seq (.region k5_o26) k5_47
abbrev k5_o28 : List AJ := [.o ⟨(some 103), none, false, .mv (.t 0), none⟩, .o ⟨(some 104), none, false, .call 24 [(.t 103)], none⟩, .o ⟨(some 105), none, false, .mv (.t 1), none⟩, .o ⟨(some 106), none, false, .call 25 [(.t 104), (.t 105)], none⟩, .o ⟨(some 102), none, false, .mv (.t 106), none⟩, .o ⟨(some 107), none, false, .extract (.t 102) 0, none⟩, .o ⟨(some 108), none, false, .extract (.t 102) 1, none⟩, .o ⟨(some 109), none, false, .extract (.t 102) 2, none⟩, .o ⟨(some 16), none, false, .mv (.t 107), none⟩, .o ⟨(some 17), none, false, .mv (.t 108), none⟩, .o ⟨(some 18), none, false, .mv (.t 109), (some [6, 7, 8, 10, 11, 14, 16, 17, 18])⟩]
abbrev k5_o29 : List AJ := [.o ⟨(some 110), none, false, .mv (.t 16), none⟩, .o ⟨(some 111), none, false, .mv (.t 6), none⟩, .o ⟨(some 112), none, false, .call 26 [(.t 110), (.t 111)], none⟩, .o ⟨(some 113), none, false, .un .not (.t 112), none⟩, .o ⟨(some 114), none, false, .mv (.t 113), none⟩, .o ⟨(some 115), (some (114, false)), false, .mv (.t 17), none⟩, .o ⟨(some 116), (some (114, false)), false, .mv (.t 7), none⟩, .o ⟨(some 117), (some (114, false)), false, .call 12 [(.t 115), (.t 116)], none⟩, .o ⟨(some 118), (some (114, false)), false, .un .not (.t 117), none⟩, .o ⟨(some 119), none, false, .pick (.t 114) (.c (.bool true)) (.t 118), (some [8, 10, 11, 14, 18, 119])⟩, .o ⟨(some 120), none, false, .mv (.t 119), none⟩, .o ⟨(some 121), (some (120, false)), false, .mv (.t 18), none⟩, .o ⟨(some 122), (some (120, false)), false, .mv (.t 8), none⟩, .o ⟨(some 123), (some (120, false)), false, .bin .neq (.t 121) (.t 122), none⟩, .o ⟨(some 124), none, false, .pick (.t 120) (.c (.bool true)) (.t 123), (some [10, 11, 14, 124])⟩]
abbrev k5_o30 : List AJ := [.o ⟨(some 4), none, false, .mv (.c (.bool false)), (some [4])⟩]
def k5_52 : ACode := .seq (.region k5_o30) .ret
def k5_53 : ACode := .cond (.t 124) k5_52 .skip
def k5_54 : ACode := .seq (.region k5_o29) k5_53
abbrev k5_o31 : List AJ := [.o ⟨(some 15), none, false, .mv (.c (.int .i64 1)), (some [10, 11, 14, 15])⟩]
abbrev k5_o32 : List AJ := [.o ⟨(some 125), none, false, .mv (.t 10), none⟩, .o ⟨(some 126), none, false, .mv (.t 15), none⟩, .o ⟨(some 127), none, false, .call 30 [(.t 125), (.t 126)], none⟩, .o ⟨(some 15), none, false, .mv (.t 127), (some [11, 14, 15])⟩]
abbrev k5_o33 : List AJ := [.o ⟨(some 128), none, false, .mv (.t 15), none⟩, .o ⟨(some 129), none, false, .bin .lss (.t 128) (.c (.int .i64 0)), (some [11, 14, 15, 129])⟩]
abbrev k5_o34 : List AJ := [.o ⟨(some 4), none, false, .mv (.c (.bool false)), (some [4])⟩]
def k5_59 : ACode := .seq (.region k5_o34) .ret
def k5_60 : ACode := .cond (.t 129) k5_59 .skip
def k5_61 : ACode := .seq (.region k5_o33) k5_60
abbrev k5_o35 : List AJ := [.o ⟨(some 130), none, false, .mv (.t 11), none⟩, .o ⟨(some 131), none, false, .mv (.t 15), none⟩, .o ⟨(some 132), none, false, .call 16 [(.t 130), (.t 131)], none⟩, .o ⟨(some 15), none, false, .mv (.t 132), (some [14, 15])⟩]
abbrev k5_o36 : List AJ := [.o ⟨(some 133), none, false, .mv (.t 15), none⟩, .o ⟨(some 134), none, false, .bin .lss (.t 133) (.c (.int .i64 0)), (some [14, 15, 134])⟩]
abbrev k5_o37 : List AJ := [.o ⟨(some 4), none, false, .mv (.c (.bool false)), (some [4])⟩]
def k5_65 : ACode := .seq (.region k5_o37) .ret
def k5_66 : ACode := .cond (.t 134) k5_65 .skip
def k5_67 : ACode := .seq (.region k5_o36) k5_66
abbrev k5_o38 : List AJ := [.o ⟨(some 135), none, false, .mv (.t 15), none⟩, .o ⟨(some 136), none, false, .mv (.t 14), none⟩, .o ⟨(some 137), none, false, .bin .neq (.t 135) (.t 136), (some [137])⟩]
abbrev k5_o39 : List AJ := [.o ⟨(some 4), none, false, .mv (.c (.bool false)), (some [4])⟩]
def k5_70 : ACode := .seq (.region k5_o39) .ret
def k5_71 : ACode := .cond (.t 137) k5_70 .skip
def k5_72 : ACode := .seq (.region k5_o38) k5_71
abbrev k5_o40 : List AJ := [.o ⟨(some 4), none, false, .mv (.c (.bool true)), (some [4])⟩]
def k5_74 : ACode := .seq (.region k5_o40) .ret
def k5_75 : ACode := .seq k5_72 k5_74
def k5_76 : ACode := .seq k5_67 k5_75
def k5_77 : ACode := .seq (.region k5_o35) k5_76
def k5_78 : ACode := .seq k5_61 k5_77
def k5_79 : ACode := .seq (.region k5_o32) k5_78
def k5_80 : ACode := .seq (.region k5_o31) k5_79
def k5_81 : ACode := .seq k5_54 k5_80
def k5_82 : ACode := .seq (.region k5_o28) k5_81
def k5_83 : ACode := .seq k5_48 k5_82
def k5_84 : ACode := .seq k5_43 k5_83
def k5_85 : ACode := .seq (.region k5_o23) k5_84
def k5_86 : ACode := .seq k5_37 k5_85
def k5_87 : ACode := .seq (.region k5_o20) k5_86
def k5_88 : ACode := .seq (.region k5_o19) k5_87
def k5_89 : ACode := .seq (.region k5_o18) k5_88
def k5_90 : ACode := .seq (.region k5_o17) k5_89
def k5_91 : ACode := .seq (.region k5_o16) k5_90
def k5_92 : ACode := .seq k5_27 k5_91
def k5_93 : ACode := .seq (.region k5_o13) k5_92
def k5_94 : ACode := .seq (.region k5_o12) k5_93
def k5_95 : ACode := .seq k5_20 k5_94
def k5_96 : ACode := .seq k5_15 k5_95
def k5_97 : ACode := .seq (.region k5_o7) k5_96
def k5_98 : ACode := .seq (.region k5_o6) k5_97
def k5_99 : ACode := .seq (.region k5_o5) k5_98
def k5_100 : ACode := .seq k5_7 k5_99
def k5_101 : ACode := .seq (.region k5_o2) k5_100
def k5_102 : ACode := .seq (.region k5_o1) k5_101
def k5_103 : ACode := .seq (.region k5_o0) k5_102
@[simp, simp ↓] theorem k5_5r : sR k5_5 k5_o4 .ret := yR rfl
@[simp, simp ↓] theorem k5_6r : rC k5_6 (.t 23) k5_5 .skip := zC rfl
@[simp, simp ↓] theorem k5_7r : sR k5_7 k5_o3 k5_6 := yR rfl
@[simp, simp ↓] theorem k5_13r : sR k5_13 k5_o9 .ret := yR rfl
@[simp, simp ↓] theorem k5_14r : rC k5_14 (.t 55) k5_13 .skip := zC rfl
@[simp, simp ↓] theorem k5_15r : sR k5_15 k5_o8 k5_14 := yR rfl
@[simp, simp ↓] theorem k5_18r : sR k5_18 k5_o11 .ret := yR rfl
@[simp, simp ↓] theorem k5_19r : rC k5_19 (.t 60) k5_18 .skip := zC rfl
@[simp, simp ↓] theorem k5_20r : sR k5_20 k5_o10 k5_19 := yR rfl
@[simp, simp ↓] theorem k5_25r : sR k5_25 k5_o15 .ret := yR rfl
@[simp, simp ↓] theorem k5_26r : rC k5_26 (.t 82) k5_25 .skip := zC rfl
@[simp, simp ↓] theorem k5_27r : sR k5_27 k5_o14 k5_26 := yR rfl
@[simp, simp ↓] theorem k5_35r : sR k5_35 k5_o22 .ret := yR rfl
@[simp, simp ↓] theorem k5_36r : rC k5_36 (.t 93) k5_35 .skip := zC rfl
@[simp, simp ↓] theorem k5_37r : sR k5_37 k5_o21 k5_36 := yR rfl
@[simp, simp ↓] theorem k5_41r : sR k5_41 k5_o25 .ret := yR rfl
@[simp, simp ↓] theorem k5_42r : rC k5_42 (.t 98) k5_41 .skip := zC rfl
@[simp, simp ↓] theorem k5_43r : sR k5_43 k5_o24 k5_42 := yR rfl
@[simp, simp ↓] theorem k5_46r : sR k5_46 k5_o27 .ret := yR rfl
@[simp, simp ↓] theorem k5_47r : rC k5_47 (.t 101) k5_46 .skip := zC rfl
@[simp, simp ↓] theorem k5_48r : sR k5_48 k5_o26 k5_47 := yR rfl
@[simp, simp ↓] theorem k5_52r : sR k5_52 k5_o30 .ret := yR rfl
@[simp, simp ↓] theorem k5_53r : rC k5_53 (.t 124) k5_52 .skip := zC rfl
@[simp, simp ↓] theorem k5_54r : sR k5_54 k5_o29 k5_53 := yR rfl
@[simp, simp ↓] theorem k5_59r : sR k5_59 k5_o34 .ret := yR rfl
@[simp, simp ↓] theorem k5_60r : rC k5_60 (.t 129) k5_59 .skip := zC rfl
@[simp, simp ↓] theorem k5_61r : sR k5_61 k5_o33 k5_60 := yR rfl
@[simp, simp ↓] theorem k5_65r : sR k5_65 k5_o37 .ret := yR rfl
@[simp, simp ↓] theorem k5_66r : rC k5_66 (.t 134) k5_65 .skip := zC rfl
@[simp, simp ↓] theorem k5_67r : sR k5_67 k5_o36 k5_66 := yR rfl
@[simp, simp ↓] theorem k5_70r : sR k5_70 k5_o39 .ret := yR rfl
@[simp, simp ↓] theorem k5_71r : rC k5_71 (.t 137) k5_70 .skip := zC rfl
@[simp, simp ↓] theorem k5_72r : sR k5_72 k5_o38 k5_71 := yR rfl
@[simp, simp ↓] theorem k5_74r : sR k5_74 k5_o40 .ret := yR rfl
@[simp, simp ↓] theorem k5_75r : rS k5_75 k5_72 k5_74 := zS rfl
@[simp, simp ↓] theorem k5_76r : rS k5_76 k5_67 k5_75 := zS rfl
@[simp, simp ↓] theorem k5_77r : sR k5_77 k5_o35 k5_76 := yR rfl
@[simp, simp ↓] theorem k5_78r : rS k5_78 k5_61 k5_77 := zS rfl
@[simp, simp ↓] theorem k5_79r : sR k5_79 k5_o32 k5_78 := yR rfl
@[simp, simp ↓] theorem k5_80r : sR k5_80 k5_o31 k5_79 := yR rfl
@[simp, simp ↓] theorem k5_81r : rS k5_81 k5_54 k5_80 := zS rfl
@[simp, simp ↓] theorem k5_82r : sR k5_82 k5_o28 k5_81 := yR rfl
@[simp, simp ↓] theorem k5_83r : rS k5_83 k5_48 k5_82 := zS rfl
@[simp, simp ↓] theorem k5_84r : rS k5_84 k5_43 k5_83 := zS rfl
@[simp, simp ↓] theorem k5_85r : sR k5_85 k5_o23 k5_84 := yR rfl
@[simp, simp ↓] theorem k5_86r : rS k5_86 k5_37 k5_85 := zS rfl
@[simp, simp ↓] theorem k5_87r : sR k5_87 k5_o20 k5_86 := yR rfl
@[simp, simp ↓] theorem k5_88r : sR k5_88 k5_o19 k5_87 := yR rfl
@[simp, simp ↓] theorem k5_89r : sR k5_89 k5_o18 k5_88 := yR rfl
@[simp, simp ↓] theorem k5_90r : sR k5_90 k5_o17 k5_89 := yR rfl
@[simp, simp ↓] theorem k5_91r : sR k5_91 k5_o16 k5_90 := yR rfl
@[simp, simp ↓] theorem k5_92r : rS k5_92 k5_27 k5_91 := zS rfl
@[simp, simp ↓] theorem k5_93r : sR k5_93 k5_o13 k5_92 := yR rfl
@[simp, simp ↓] theorem k5_94r : sR k5_94 k5_o12 k5_93 := yR rfl
@[simp, simp ↓] theorem k5_95r : rS k5_95 k5_20 k5_94 := zS rfl
@[simp, simp ↓] theorem k5_96r : rS k5_96 k5_15 k5_95 := zS rfl
@[simp, simp ↓] theorem k5_97r : sR k5_97 k5_o7 k5_96 := yR rfl
@[simp, simp ↓] theorem k5_98r : sR k5_98 k5_o6 k5_97 := yR rfl
@[simp, simp ↓] theorem k5_99r : sR k5_99 k5_o5 k5_98 := yR rfl
@[simp, simp ↓] theorem k5_100r : rS k5_100 k5_7 k5_99 := zS rfl
@[simp, simp ↓] theorem k5_101r : sR k5_101 k5_o2 k5_100 := yR rfl
@[simp, simp ↓] theorem k5_102r : sR k5_102 k5_o1 k5_101 := yR rfl
@[simp, simp ↓] theorem k5_103r : sR k5_103 k5_o0 k5_102 := yR rfl
noncomputable abbrev k5_C : Orc → Cx := mkC Try.prog [] 5 138 [.tmp 4]
theorem k5_of : OfP Try.prog Try.f5 5 138 k5_C k5_103 := @ofP _ _ _ _ _ _ _ _ Try.func5 (by decide +kernel) rfl (by kernel_rfl) rfl (by kernel_rfl)
theorem gl_law (x : List Tb) (hx : wfTs x) (k : Int) (hk : in64 k) : ACalls Try.prog 5 [.snap 2 (x.map Tb.av), .int .i64 k] [] (fun v h' => v = .bool true ∧ h' = []) := by
  refine k5_of rfl orcN_p fun I => ?_
  have hx2_x := hx
  have hc8 := (glRows_bd x k).1
  have hrt := glRows_tot x k
  refine Run2.of I 1000 ?_
  by_cases kx : (tbsTot x : Int) ≤ (1048576 : Int)
  · have hAx : ¬ (1048576 : Int) < (tbsTot x) := by omega
    have hBx : ¬ (1048576 : Int) - (tbsTot x) < 0 := by omega
    have hCx : (0 : Int) ≤ (1048576 : Int) - (tbsTot x) := by omega
    have lx : (tbsTot x) ≤ 1048576 := by omega
    have hDx : (1048576 : Int) - (tbsTot x) ≤ 1048576 := by omega
    simp -implicitDefEqProofs [hx2_x, hAx, hBx, hCx, hDx, kx]
    first | refine dcallK (toTbs_c x _ lx) ?_ | (refine (toTbs_c x _ lx).mono ?_; rintro v h' ⟨rfl, rfl⟩; refine gK.go ?_)
    simp -implicitDefEqProofs
    first | refine dcallK (specGl_s x k _ lx) ?_ | (refine (specGl_s x k _ lx).mono ?_; rintro v h' ⟨rfl, rfl⟩; refine gK.go ?_)
    simp -implicitDefEqProofs
    refine (toTbs_o x _ lx).monoN ?_
    rintro v0 h' ⟨g0, o0, d0, rfl⟩ n0
    refine gK.go ?_
    simp -implicitDefEqProofs
    simp only [List.append_nil] at n0
    have L0 := o0.lentMid (A := []) (B := []) (by simpa only [List.nil_append, List.append_nil, List.append_assoc] using n0)
    simp only [List.nil_append, List.append_nil, List.append_assoc] at L0
    refine (ACalls.gives g0 (fun p hp => hp) (S := fun v h' => ∃ wc w gc gf, v = .tup [wc, w, .int .i64 (glC x k)] ∧ OwnL iv 1 wc (glCols x k) gc ∧ OwnLL w (glRows x k) gf ∧ (∀ i ∈ dom gc, i ∉ dom gf) ∧ h' = gc ++ gf) ?_ (fun v h' => glOwn_own)).monoN ?_
    · rw [lend_cons, lend_cons, lend_nil', lend1_cold g0 (x := (.int .i64 k)) rfl]
      exact ACalls.wk (.cons L0.1 (.cons (.refl _) .nil)) (implGl_o x k lx)
    rintro v h' ⟨_, ⟨wc, w, gc, gf, rfl, oc, ow, hcf, rfl⟩, dg, rfl⟩ ng
    have cc := oc.cell
    have cw := ow.cell
    refine gK.go ?_
    simp -implicitDefEqProofs [cc, cw]
    first | refine dcallK (eqI_own oc (.snap _) (fun p hp => List.mem_append_left _ hp) (by omega)) ?_ | (refine (eqI_own oc (.snap _) (fun p hp => List.mem_append_left _ hp) (by omega)).mono ?_; rintro v h' ⟨rfl, rfl⟩; refine gK.go ?_)
    simp -implicitDefEqProofs [cc, cw]
    first | refine dcallK (eqL_own ow (.is _) (fun p hp => List.mem_append_right _ (List.mem_append_left _ hp)) (by omega)) ?_ | (refine (eqL_own ow (.is _) (fun p hp => List.mem_append_right _ (List.mem_append_left _ hp)) (by omega)).mono ?_; rintro v h' ⟨rfl, rfl⟩; refine gK.go ?_)
    simp -implicitDefEqProofs [cc, cw]
    first | refine dcallK (toTbs_c x _ lx) ?_ | (refine (toTbs_c x _ lx).mono ?_; rintro v h' ⟨rfl, rfl⟩; refine gK.go ?_)
    simp -implicitDefEqProofs [cc, cw]
    first | refine dcallK (eqT_own o0 (fun p hp => List.mem_append_right _ (List.mem_append_right _ hp)) lx) ?_ | (refine (eqT_own o0 (fun p hp => List.mem_append_right _ (List.mem_append_right _ hp)) lx).mono ?_; rintro v h' ⟨rfl, rfl⟩; refine gK.go ?_)
    simp -implicitDefEqProofs [cc, cw]
    have hcnt := cntT_tot x
    refine (markT_drop o0 (gc ++ gf) (fun p hp => List.mem_append_right _ (List.mem_append_right _ hp)) ?_ ?_ 1 (by omega) lx).monoN ?_
    · simpa only [List.append_assoc] using keepL (a := gc ++ gf) (b := g0) (by simpa only [List.append_assoc] using ng)
    · exact fun nd => nodupL (a := gc ++ gf) (b := g0) (by simpa only [List.append_assoc] using nd)
    rintro _ _ ⟨e1, e2⟩ nk0
    rw [e1, e2]; rw [e2] at nk0
    refine gK.go ?_
    have hk : ¬ (1 + (cntT x : Int)) < 0 := by omega
    simp -implicitDefEqProofs [hk, cc, cw]
    first | refine dcallK (eqI_own oc (.snap _) (fun p hp => List.mem_append_left _ hp) (by omega)) ?_ | (refine (eqI_own oc (.snap _) (fun p hp => List.mem_append_left _ hp) (by omega)).mono ?_; rintro v h' ⟨rfl, rfl⟩; refine gK.go ?_)
    simp -implicitDefEqProofs [hk, cc, cw]
    first | refine dcallK (eqL_own ow (.is _) (fun p hp => List.mem_append_right _ hp) (by omega)) ?_ | (refine (eqL_own ow (.is _) (fun p hp => List.mem_append_right _ hp) (by omega)).mono ?_; rintro v h' ⟨rfl, rfl⟩; refine gK.go ?_)
    simp -implicitDefEqProofs [hk, cc, cw]
    have nk1 := nk0
    rw [dom_append, List.nodup_append] at nk1
    refine (markI_keep oc gf (fun p hp => List.mem_append_left _ hp) (fun p hp => ⟨List.mem_append_right _ hp, fun hm => hcf p.1 hm (List.mem_map.2 ⟨p, hp, rfl⟩)⟩) (fun _ => nk1.2.1) 1 (by omega) (by omega)).monoN ?_
    rintro _ _ ⟨gm, rfl, om, rfl⟩ nk2
    rw [dom_append, List.nodup_append] at nk2
    refine gK.go ?_
    simp -implicitDefEqProofs [cc, cw]
    refine (markL_keep ow gm (fun p hp => List.mem_append_right _ hp) (fun p hp => ⟨List.mem_append_left _ hp, fun hm => nk2.2.2 p.1 (List.mem_map.2 ⟨p, hp, rfl⟩) p.1 hm rfl⟩) (fun _ => nk2.1) (1 + (glCols x k).length) (by omega) (by omega)).mono ?_
    rintro _ _ ⟨gl, rfl, ol, rfl⟩
    have hsl : sumL (glRows x k) ≤ ssTot (glRows x k) := by unfold ssTot; omega
    refine gK.go ?_
    simp -implicitDefEqProofs [cc, cw]
    have hq : ¬ (1 + ((glCols x k).length : Int) < 0) := by omega
    have hq2 : ¬ (1 + ((glCols x k).length : Int) + (sumL (glRows x k) : Int) < 0) := by omega
    first | refine dcallK (heldI_own om (fun p hp => List.mem_append_right _ hp) 1 (by omega) (by simp; omega)) ?_ | (refine (heldI_own om (fun p hp => List.mem_append_right _ hp) 1 (by omega) (by simp; omega)).mono ?_; rintro v h' ⟨rfl, rfl⟩; refine gK.go ?_)
    simp -implicitDefEqProofs [hq, hq2, cc, cw]
    first | refine dcallK (heldL_own ol (fun p hp => List.mem_append_left _ hp) (1 + (glCols x k).length) (by omega) (by simp; omega)) ?_ | (refine (heldL_own ol (fun p hp => List.mem_append_left _ hp) (1 + (glCols x k).length) (by omega) (by simp; omega)).mono ?_; rintro v h' ⟨rfl, rfl⟩; refine gK.go ?_)
    simp -implicitDefEqProofs [hq, hq2, cc, cw]
    first | refine dcallK (toTbs_c x _ lx) ?_ | (refine (toTbs_c x _ lx).mono ?_; rintro v h' ⟨rfl, rfl⟩; refine gK.go ?_)
    simp -implicitDefEqProofs [hq, hq2, cc, cw]
    refine (ACalls.gives [] (by simp) (S := fun v h' => ∃ wc w gc gf, v = .tup [wc, w, .int .i64 (glC x k)] ∧ OwnL iv 1 wc (glCols x k) gc ∧ OwnLL w (glRows x k) gf ∧ (∀ i ∈ dom gc, i ∉ dom gf) ∧ h' = gc ++ gf) (implGl_o x k lx) (fun v h' => glOwn_own)).mono ?_
    rintro _ _ ⟨_, ⟨wc9, w9, gc9, gf9, rfl, oc9, ow9, _, rfl⟩, d9, rfl⟩
    have cc9 := oc9.cell
    have cw9 := ow9.cell
    refine gK.go ?_
    simp -implicitDefEqProofs [hq, hq2, cc, cw, cc9, cw9]
    first | refine dcallK (eqI_own oc9 (.snap _) (fun p hp => List.mem_append_left _ hp) (by omega)) ?_ | (refine (eqI_own oc9 (.snap _) (fun p hp => List.mem_append_left _ hp) (by omega)).mono ?_; rintro v h' ⟨rfl, rfl⟩; refine gK.go ?_)
    simp -implicitDefEqProofs [hq, hq2, cc, cw, cc9, cw9]
    first | refine dcallK (eqL_own ow9 (.is _) (fun p hp => List.mem_append_right _ (List.mem_append_left _ hp)) (by omega)) ?_ | (refine (eqL_own ow9 (.is _) (fun p hp => List.mem_append_right _ (List.mem_append_left _ hp)) (by omega)).mono ?_; rintro v h' ⟨rfl, rfl⟩; refine gK.go ?_)
    simp -implicitDefEqProofs [hq, hq2, cc, cw, cc9, cw9]
    first | refine dcallK (heldI_own om (fun p hp => List.mem_append_right _ (List.mem_append_right _ (List.mem_append_right _ hp))) 1 (by omega) (by simp; omega)) ?_ | (refine (heldI_own om (fun p hp => List.mem_append_right _ (List.mem_append_right _ (List.mem_append_right _ hp))) 1 (by omega) (by simp; omega)).mono ?_; rintro v h' ⟨rfl, rfl⟩; refine gK.go ?_)
    simp -implicitDefEqProofs [hq, hq2, cc, cw]
    first | refine dcallK (heldL_own ol (fun p hp => List.mem_append_right _ (List.mem_append_right _ (List.mem_append_left _ hp))) (1 + (glCols x k).length) (by omega) (by simp; omega)) ?_ | (refine (heldL_own ol (fun p hp => List.mem_append_right _ (List.mem_append_right _ (List.mem_append_left _ hp))) (1 + (glCols x k).length) (by omega) (by simp; omega)).mono ?_; rintro v h' ⟨rfl, rfl⟩; refine gK.go ?_)
    simp -implicitDefEqProofs [hq, hq2, cc, cw]
    exact Post.none ⟨rfl, rfl⟩
  · have hAx : (1048576 : Int) < (tbsTot x) := by omega
    simp -implicitDefEqProofs [hx2_x, hAx]
    exact .base ⟨rfl, rfl⟩
end Go.AG
namespace Go.Proofs.Ytebkdegjiollbaa
open Go.ChangeShapes Go.WideShapes Go.ChangeAt Go.RowKit Go.AG
theorem own : ownKnob Try.prog.godebug = none := by kernel_rfl
theorem laidOut : laidOutB Try.prog = true := by kernel_rfl
set_option maxRecDepth 100000 in
theorem fnExactGlobalRows_lifted (os : Os) (started : os.Started) (H : Type) (enc : TypeId × Value → H) :
    ReturnsInHanded {} Try.checked os 5 .any (Rows.fnExactGlobalRowsSpec.pre6 enc Try.prog Try.f5 Rows.fnExactGlobalRowsRow.domain false) (Rows.fnExactGlobalRowsSpec.post enc Try.prog Try.f5 false true false false) := by
  refine returnsInHanded_of_change (C := Try.checked) own started (by kernel_rfl) Try.func5
    (ChangeSpec.witness6 (enc := enc) (C := Try.checked) false ⟨#[], #[.slice none 0 0, .int .i64 0], []⟩ 8 (by kernel_rfl) (by kernel_rfl) (by kernel_rfl) (by kernel_rfl)) ?_
  intro W base args ds gs before hval0 hW _ _
  have hval : ∀ (j : Nat) t v, Try.f5.params[j]? = some t → args[j]? = some v → Value.okWide Try.prog W .any base t v := hval0
  refine law_post (tys := [tyTs, (.int .i64)]) (tb := 4) laidOut rfl (by kernel_rfl) (by kernel_rfl) (by kernel_rfl) (by kernel_rfl) hval hW ?_ ?_ ⟨fun p hp => by simp [laidV] at hp, fun p hp => by simp [laidS] at hp⟩
  · intro ds h
    match ds, h with
    | [a0, a1], _ => rfl
  · rintro xs ⟨x0, r0, rfl, h0, x1, r1, rfl, h1, hr⟩
    have hr0 : r1 = [] := hr
    subst hr0
    obtain ⟨p0, rfl, q0⟩ := Tbs_of_shape h0
    obtain ⟨p1, rfl, q1⟩ := Int_of_shape h1
    exact gl_law p0 q0 p1 q1
theorem fnExactGlobalRows_holds : Rows.FnExactGlobalRowsSaid :=
  OpenClaim.holds_of_wide 5 Try.f5 rfl rfl rfl rfl rfl rfl rfl ⟨rfl, rfl, rfl, rfl, rfl⟩ rfl rfl rfl rfl rfl (by kernel_rfl) Try.func5 (by kernel_rfl)
    (of_decide_eq_true (by kernel_rfl)) (by unfold Func.isWrapper; first | (rw [if_pos (by decide +kernel)]; kernel_rfl) | (rw [if_neg (by decide +kernel)]; exact ⟨rfl, rfl⟩))
    (fun os started H enc _ => fnExactGlobalRows_lifted os started H enc)
end Go.Proofs.Ytebkdegjiollbaa
