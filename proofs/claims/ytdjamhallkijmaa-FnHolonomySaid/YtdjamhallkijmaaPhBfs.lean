/- The program's phases along a forest: the functions that it calls. No statement is made here. -/
import Derived.Test.YtdjamhallkijmaaPhForI
import Derived.Test.YtdjamhallkijmaaPhHolA
namespace Go.AG
open Go.Proofs Go.Proofs.Ytdjamhallkijmaa
set_option linter.unusedSimpArgs false
set_option linter.unusedVariables false
set_option maxRecDepth 4000
def Ph.bnd (x : Ph) : Prop := 2 ≤ x.m ∧ x.m ≤ 360 ∧ x.ts.length ≤ 24 ∧ ∀ (i : Nat) (hi : i < x.ts.length), 0 ≤ x.ts[i].s ∧ x.ts[i].s < x.m
noncomputable def o_shiftB : List AV → Option (Prop × AV) := tab (fun (x : Int × Int × List T × Int × Int) => match x with | (n, m, ts, a, b) => [.agg [.int .i64 n, .int .i64 m, .snap 3 (ts.map T.av)], .int .i64 a, .int .i64 b]) (fun x => match x with | (n, m, ts, a, b) => (Ph.bnd ⟨n, m, ts⟩)) (fun x => match x with | (n, m, ts, a, b) => stepAV (Ph.step ⟨n, m, ts⟩ a b))
@[simp] theorem o_shiftB_e (n : Int) (m : Int) (ts : List T) (a : Int) (b : Int) : o_shiftB [.agg [.int .i64 n, .int .i64 m, .snap 3 (ts.map T.av)], .int .i64 a, .int .i64 b] = some ((Ph.bnd ⟨n, m, ts⟩), stepAV (Ph.step ⟨n, m, ts⟩ a b)) := tab_at (enc := fun (x : Int × Int × List T × Int × Int) => match x with | (n, m, ts, a, b) => [.agg [.int .i64 n, .int .i64 m, .snap 3 (ts.map T.av)], .int .i64 a, .int .i64 b]) (fun x y h => by
  obtain ⟨n1, m1, ts1, a1, b1⟩ := x; obtain ⟨n2, m2, ts2, a2, b2⟩ := y; simp at h; simp [h] <;> omega) _ _ (n, m, ts, a, b)
theorem o_shiftB_k : Knows Try.prog 61 o_shiftB := tab_knows fun x hx h => by
  obtain ⟨n, m, ts, a, b⟩ := x; exact shiftBetween_w ⟨n, m, ts⟩ a b h hx.1 hx.2.1 hx.2.2.1 hx.2.2.2
abbrev k63_o0 : List AJ := [.o ⟨(some 4), none, false, .mv (.c (.int .i64 0)), (some [0, 1])⟩]
abbrev k63_o1 : List AJ := [.o ⟨(some 6), none, false, .mv (.t 0), none⟩, .o ⟨(some 7), none, false, .len (.t 6), none⟩, .o ⟨(some 8), none, false, .mv (.c (.int .i64 0)), (some [0, 1, 7, 8])⟩]
abbrev k63_o2 : List AJ := [.o ⟨(some 9), none, false, .bin .lss (.t 8) (.t 7), (some [0, 1, 7, 8, 9])⟩]
abbrev k63_o3 : List AJ := [.o ⟨(some 10), none, false, .mv (.t 8), none⟩, .o ⟨(some 5), none, false, .mv (.t 10), (some [0, 1, 5, 7, 8])⟩]
abbrev k63_o4 : List AJ := [.o ⟨(some 11), none, false, .mv (.t 1), none⟩, .o ⟨(some 12), none, false, .mv (.t 0), none⟩, .o ⟨(some 13), none, false, .mv (.t 5), none⟩, .o ⟨(some 14), none, false, .idxA 1 (.t 12) (.t 13), none⟩, .o ⟨(some 15), none, false, .load 1 false (.t 14), none⟩, .o ⟨(some 16), none, false, .bin .eql (.t 11) (.t 15), (some [0, 1, 5, 7, 8, 16])⟩]
abbrev k63_o5 : List AJ := [.o ⟨(some 17), none, false, .mv (.t 5), none⟩, .o ⟨(some 4), none, false, .mv (.t 17), (some [4])⟩]
def k63_7 : ACode := .seq (.region k63_o5) .ret
def k63_8 : ACode := .cond (.t 16) k63_7 .skip
def k63_9 : ACode := .seq (.region k63_o4) k63_8
def k63_10 : ACode := .seq (.region k63_o3) k63_9
abbrev k63_o6 : List AJ := [.o ⟨(some 18), none, true, .bin .add (.t 8) (.c (.int .i64 1)), none⟩, .o ⟨(some 8), none, false, .mv (.t 18), (some [0, 1, 7, 8])⟩]
def k63_12 : ACode := .region k63_o6
def k63_13 : ACode := .seq (.block 1 k63_10) k63_12
def k63_14 : ACode := .seq (.cond (.t 9) .skip (.exit 0)) k63_13
def k63_15 : ACode := .seq (.region k63_o2) k63_14
def k63_16 : ACode := .loop k63_15
def k63_17 : ACode := .block 0 k63_16
def k63_18 : ACode := .seq (.region k63_o1) k63_17
abbrev k63_o7 : List AJ := [.o ⟨(some 4), none, false, .mv (.c (.int .i64 (-1))), (some [4])⟩]
def k63_20 : ACode := .seq (.region k63_o7) .ret
def k63_21 : ACode := .seq k63_18 k63_20
def k63_22 : ACode := .seq (.region k63_o0) k63_21
@[simp, simp ↓] theorem k63_7r : sR k63_7 k63_o5 .ret := yR rfl
@[simp, simp ↓] theorem k63_8r : rC k63_8 (.t 16) k63_7 .skip := zC rfl
@[simp, simp ↓] theorem k63_9r : sR k63_9 k63_o4 k63_8 := yR rfl
@[simp, simp ↓] theorem k63_10r : sR k63_10 k63_o3 k63_9 := yR rfl
@[simp, simp ↓] theorem k63_12r : rR k63_12 k63_o6 := zR rfl
@[simp, simp ↓] theorem k63_13r : sB k63_13 1 k63_10 k63_12 := yB rfl
@[simp, simp ↓] theorem k63_14r : sC k63_14 (.t 9) .skip (.exit 0) k63_13 := yC rfl
@[simp, simp ↓] theorem k63_15r : sR k63_15 k63_o2 k63_14 := yR rfl
@[simp, simp ↓] theorem k63_16r : rL k63_16 k63_15 := zL rfl
@[simp, simp ↓] theorem k63_17r : rB k63_17 0 k63_16 := zB rfl
@[simp, simp ↓] theorem k63_18r : sR k63_18 k63_o1 k63_17 := yR rfl
@[simp, simp ↓] theorem k63_20r : sR k63_20 k63_o7 .ret := yR rfl
@[simp, simp ↓] theorem k63_21r : rS k63_21 k63_18 k63_20 := zS rfl
@[simp, simp ↓] theorem k63_22r : sR k63_22 k63_o0 k63_21 := yR rfl
noncomputable abbrev k63_C : Orc → Cx := mkC Try.prog [] 63 19 [.tmp 4]
theorem k63_of0 : OfP0 Try.prog Try.f63 63 19 k63_C k63_22 := @ofP0 _ _ _ _ _ _ _ _ Try.func63 (by decide +kernel) rfl (by kernel_rfl) rfl (by kernel_rfl)
theorem Index_c (l : List Int) (n : Int) (h : Heap) (hl : l.length ≤ 1048576) : ACalls Try.prog 63 [.snap 1 (l.map iv), .int .i64 n] h (fun v h' => v = .int .i64 (idxf (fun c => decide (n = c)) l) ∧ h' = h) := by
  refine k63_of0 rfl noPure fun I => ?_
  refine Run2.of I 1000 ?_
  simp -implicitDefEqProofs
  refine Run2.loopE (fun i => [(0, .snap 1 (l.map iv)), (1, .int .i64 n), (7, .int .i64 l.length), (8, .int .i64 (i : Nat))]) (fun i => h) (fun i => l.length - i) (fun i => i ≤ l.length ∧ ∀ j (hj : j < l.length), j < i → ¬ n = l[j]) 0 (by simp) rfl (by simp) fun i hi ih => ?_
  by_cases hlt : i < l.length
  · have go := fun (h1 : ¬ n = l[i]) => ih (i + 1) ⟨by omega, fun j hj hji => by
      rcases Nat.lt_or_ge j i with h' | h'
      · exact hi.2 j hj h'
      · obtain rfl : j = i := by omega
        exact h1⟩ (by omega)
    have ht := fun (h1 : n = l[i]) => idxf_at (q := fun c => decide (n = c)) hlt (fun j hj hji => by simpa using hi.2 j hj hji) (by simpa using h1)
    clear ih
    refine Run2.of I 1000 ?_
    simp -implicitDefEqProofs [hlt]
    exact ⟨fun h1 => (ht h1).symm, fun h1 => ⟨by omega, by simpa using go h1⟩⟩
  · obtain rfl : i = l.length := by omega
    have := idxf_none (q := fun c => decide (n = c)) (l := l) fun j hj => by simpa using hi.2 j hj hj
    refine Run2.of I 1000 ?_
    simp -implicitDefEqProofs [this]
noncomputable def o_Index : List AV → Option (Prop × AV) := tab (fun (x : List Int × Int) => match x with | (l, n) => [.snap 1 (l.map iv), .int .i64 n]) (fun x => match x with | (l, n) => l.length ≤ 1048576) (fun x => match x with | (l, n) => .int .i64 (idxf (fun c => decide (n = c)) l))
@[simp] theorem o_Index_e (l : List Int) (n : Int) : o_Index [.snap 1 (l.map iv), .int .i64 n] = some (l.length ≤ 1048576, .int .i64 (idxf (fun c => decide (n = c)) l)) := tab_at (enc := fun (x : List Int × Int) => match x with | (l, n) => [.snap 1 (l.map iv), .int .i64 n]) (fun x y h => by
  obtain ⟨l1, n1⟩ := x; obtain ⟨l2, n2⟩ := y; simp at h; simp [h] <;> omega) _ _ (l, n)
theorem o_Index_k : Knows Try.prog 63 o_Index := tab_knows fun x hx h => by
  obtain ⟨l, n⟩ := x; exact Index_c l n h hx
noncomputable def orcB1 : List (Nat × (List AV → Option (Prop × AV))) := (63, o_Index) :: orcF
theorem orcB1_p : Pure Try.prog (lk orcB1) := (lk_pure o_Index_k orcF_p)
@[simp] theorem orcB1_l (b : Bool) (g : FuncId) (l : List AV) : lk orcB1 b g l = if g = 63 then o_Index l else lk orcF b g l := nr rfl
abbrev k37_o0 : List AJ := [.o ⟨(some 4), none, false, .mv (.c (.bool false)), (some [0, 1])⟩]
abbrev k37_o1 : List AJ := [.o ⟨(some 5), none, false, .mv (.t 0), none⟩, .o ⟨(some 6), none, false, .mv (.t 1), none⟩, .o ⟨(some 7), none, false, .call 63 [(.t 5), (.t 6)], none⟩, .o ⟨(some 8), none, false, .bin .geq (.t 7) (.c (.int .i64 0)), none⟩, .o ⟨(some 4), none, false, .mv (.t 8), (some [4])⟩]
def k37_2 : ACode := .seq (.region k37_o1) .ret
def k37_3 : ACode := .seq (.region k37_o0) k37_2
@[simp, simp ↓] theorem k37_2r : sR k37_2 k37_o1 .ret := yR rfl
@[simp, simp ↓] theorem k37_3r : sR k37_3 k37_o0 k37_2 := yR rfl
noncomputable abbrev k37_C : Orc → Cx := mkC Try.prog [] 37 9 [.tmp 4]
theorem k37_of0 : OfP0 Try.prog Try.f37 37 9 k37_C k37_3 := @ofP0 _ _ _ _ _ _ _ _ Try.func37 (by decide +kernel) rfl (by kernel_rfl) rfl (by kernel_rfl)
theorem Contains_c (l : List Int) (n : Int) (h : Heap) (hl : l.length ≤ 1048576) : ACalls Try.prog 37 [.snap 1 (l.map iv), .int .i64 n] h (fun v h' => v = .bool (decide (n ∈ l)) ∧ h' = h) := by
  have hi := idxf_ge (fun c => decide (n = c)) l
  simp only [decide_eq_true_eq] at hi
  refine k37_of0 rfl orcB1_p fun I => ?_
  refine Run2.of I 1000 ?_
  simp -implicitDefEqProofs [hl, hi]
noncomputable def o_Contains : List AV → Option (Prop × AV) := tab (fun (x : List Int × Int) => match x with | (l, n) => [.snap 1 (l.map iv), .int .i64 n]) (fun x => match x with | (l, n) => l.length ≤ 1048576) (fun x => match x with | (l, n) => .bool (decide (n ∈ l)))
@[simp] theorem o_Contains_e (l : List Int) (n : Int) : o_Contains [.snap 1 (l.map iv), .int .i64 n] = some (l.length ≤ 1048576, .bool (decide (n ∈ l))) := tab_at (enc := fun (x : List Int × Int) => match x with | (l, n) => [.snap 1 (l.map iv), .int .i64 n]) (fun x y h => by
  obtain ⟨l1, n1⟩ := x; obtain ⟨l2, n2⟩ := y; simp at h; simp [h] <;> omega) _ _ (l, n)
theorem o_Contains_k : Knows Try.prog 37 o_Contains := tab_knows fun x hx h => by
  obtain ⟨l, n⟩ := x; exact Contains_c l n h hx
noncomputable def orcB2 : List (Nat × (List AV → Option (Prop × AV))) := (37, o_Contains) :: orcB1
theorem orcB2_p : Pure Try.prog (lk orcB2) := (lk_pure o_Contains_k orcB1_p)
@[simp] theorem orcB2_l (b : Bool) (g : FuncId) (l : List AV) : lk orcB2 b g l = if g = 37 then o_Contains l else lk orcB1 b g l := nr rfl
abbrev k60_o0 : List AJ := [.o ⟨(some 3), none, false, .mv (.c (.bool false)), (some [0, 1])⟩]
abbrev k60_o1 : List AJ := [.o ⟨(some 4), none, false, .load 1 false (.t 1), none⟩, .o ⟨(some 5), none, false, .mv (.t 0), none⟩, .o ⟨(some 6), none, false, .call 37 [(.t 4), (.t 5)], none⟩, .o ⟨(some 3), none, false, .mv (.t 6), (some [3])⟩]
def k60_2 : ACode := .seq (.region k60_o1) .ret
def k60_3 : ACode := .seq (.region k60_o0) k60_2
@[simp, simp ↓] theorem k60_2r : sR k60_2 k60_o1 .ret := yR rfl
@[simp, simp ↓] theorem k60_3r : sR k60_3 k60_o0 k60_2 := yR rfl
noncomputable abbrev k60_C : Orc → Cx := mkC Try.prog [] 60 7 [.tmp 3]
theorem k60_of0 : OfP0 Try.prog Try.f60 60 7 k60_C k60_3 := @ofP0 _ _ _ _ _ _ _ _ Try.func60 (by decide +kernel) rfl (by kernel_rfl) rfl (by kernel_rfl)
theorem fp1_c (k : Int) (l : List Int) (h : Heap) (hl : l.length ≤ 1048576) : ACalls Try.prog 60 [.int .i64 k, .ip [.snap 1 (l.map iv)]] h (fun v h' => v = .bool (decide (k ∈ l)) ∧ h' = h) := by
  refine k60_of0 rfl orcB2_p fun I => ?_
  refine Run2.of I 1000 ?_
  simp -implicitDefEqProofs [hl]
abbrev k27_o0 : List AJ := [.o ⟨(some 2), none, false, .mv (.c .nilsl), (some [0])⟩]
abbrev k27_o1 : List AJ := [.o ⟨(some 3), none, false, .mv (.t 0), none⟩, .o ⟨(some 4), none, false, .eqn 0 false (.t 3), (some [0, 4])⟩]
abbrev k27_o2 : List AJ := [.o ⟨(some 2), none, false, .mv (.c .nilsl), (some [2])⟩]
def k27_3 : ACode := .seq (.region k27_o2) .ret
def k27_4 : ACode := .cond (.t 4) k27_3 .skip
def k27_5 : ACode := .seq (.region k27_o1) k27_4
abbrev k27_o3 : List AJ := [.e 5 1 none, .o ⟨(some 6), none, false, .mv (.t 0), none⟩, .o ⟨(some 7), none, false, .append 1 8 (.t 5) (.t 6), none⟩, .o ⟨(some 2), none, false, .mv (.t 7), (some [2])⟩]
def k27_7 : ACode := .seq (.region k27_o3) .ret
def k27_8 : ACode := .seq k27_5 k27_7
def k27_9 : ACode := .seq (.region k27_o0) k27_8
@[simp, simp ↓] theorem k27_3r : sR k27_3 k27_o2 .ret := yR rfl
@[simp, simp ↓] theorem k27_4r : rC k27_4 (.t 4) k27_3 .skip := zC rfl
@[simp, simp ↓] theorem k27_5r : sR k27_5 k27_o1 k27_4 := yR rfl
@[simp, simp ↓] theorem k27_7r : sR k27_7 k27_o3 .ret := yR rfl
@[simp, simp ↓] theorem k27_8r : rS k27_8 k27_5 k27_7 := zS rfl
@[simp, simp ↓] theorem k27_9r : sR k27_9 k27_o0 k27_8 := yR rfl
noncomputable abbrev k27_C : Orc → Cx := mkC Try.prog [5] 27 8 [.tmp 2]
theorem k27_of0 : OfP0 Try.prog Try.f27 27 8 k27_C k27_9 := @ofP0 _ _ _ _ _ _ _ _ Try.func27 (by decide +kernel) rfl (by kernel_rfl) rfl (by kernel_rfl)
theorem Clone_w (l : List Int) (h : Heap) (hl : l.length ≤ 1048576) : ACalls Try.prog 27 [.snap 1 (l.map iv)] h (fun v h' => ∃ hp, Grow 1 v (l.map iv) hp ∧ (∀ j ∈ dom hp, j ∉ dom h) ∧ h' = hp ++ h) := by
  refine k27_of0 rfl noPure fun I => ?_
  refine Run2.of I 1000 ?_
  cases l with
  | nil =>
    simp -implicitDefEqProofs
    exact ⟨.nil, .emp⟩
  | cons a l =>
    simp at hl
    simp -implicitDefEqProofs
    exact ⟨by omega, fun id hid => ⟨[(id, ⟨1, _⟩)], .sl id _ _ (by simp), fun j hj => by simp only [dom, List.map_cons, List.map_nil, List.mem_singleton] at hj; subst hj; exact hid, rfl⟩⟩
def keptTo (ts : List T) (q : Int → Bool) (i : Nat) : List T := ((List.range i).filter fun (k : Nat) => q k).map fun k => ts.getD k default
theorem keptTo_succ (ts : List T) (q : Int → Bool) {i : Nat} (hi : i < ts.length) : keptTo ts q (i + 1) = keptTo ts q i ++ if q i then [ts[i]] else [] := by
  unfold keptTo
  rw [List.range_succ, List.filter_append, List.map_append]
  congr 1
  simp only [List.filter_cons, List.filter_nil]
  split <;> simp_all
theorem keptTo_len (ts : List T) (q : Int → Bool) (i : Nat) : (keptTo ts q i).length ≤ i := by
  unfold keptTo
  rw [List.length_map]
  exact Nat.le_trans (List.length_filter_le _ _) (by simp)
def Ph.kept (x : Ph) (q : Int → Bool) : Ph := ⟨x.n, x.m, keptTo x.ts q x.ts.length⟩
abbrev k35_o0 : List AJ := [.o ⟨(some 2), none, false, .box false 3 (.t 0), none⟩, .o ⟨(some 4), none, false, .alloc true 3 (.agg [(.int .i64 0), (.int .i64 0), .nilsl]), (some [1, 2, 4])⟩]
abbrev k35_o1 : List AJ := [.o ⟨(some 8), none, false, .fieldA 0 (.t 2), none⟩, .o ⟨(some 9), none, false, .load 1 false (.t 8), none⟩, .o ⟨(some 10), none, false, .fieldA 1 (.t 2), none⟩, .o ⟨(some 11), none, false, .load 1 false (.t 10), none⟩, .o ⟨(some 12), none, false, .build [(.int .i64 0), (.int .i64 0), .nilsl] [(0, 1, (.t 9)), (1, 1, (.t 11))], none⟩, .o ⟨(some 5), none, false, .alloc true 3 (.agg [(.int .i64 0), (.int .i64 0), .nilsl]), none⟩, .o ⟨none, none, false, .store 3 (.t 5) (.t 12), (some [1, 2, 4, 5])⟩]
abbrev k35_o2 : List AJ := [.o ⟨(some 13), none, false, .fieldA 2 (.t 2), none⟩, .o ⟨(some 14), none, false, .load 1 false (.t 13), none⟩, .o ⟨(some 15), none, false, .len (.t 14), none⟩, .o ⟨(some 16), none, false, .mv (.c (.int .i64 0)), (some [1, 4, 5, 14, 15, 16])⟩]
abbrev k35_o3 : List AJ := [.o ⟨(some 17), none, false, .bin .lss (.t 16) (.t 15), (some [1, 4, 5, 14, 15, 16, 17])⟩]
abbrev k35_o4 : List AJ := [.o ⟨(some 18), none, false, .mv (.t 16), none⟩, .o ⟨(some 19), none, false, .idxA 3 (.t 14) (.t 16), none⟩, .o ⟨(some 20), none, false, .load 3 true (.t 19), none⟩, .v 7 3 (.agg [(.int .i64 0), (.int .i64 0), (.int .i64 0)]) [(6, (.t 18))] (.t 20) (some [1, 4, 5, 6, 7, 14, 15, 16])]
abbrev k35_o5 : List AJ := [.o ⟨(some 21), none, false, .mv (.t 1), none⟩, .o ⟨(some 22), none, false, .mv (.t 6), none⟩, .o ⟨(some 23), none, false, .callv (.t 21) [(.t 22)], (some [1, 4, 5, 7, 14, 15, 16, 23])⟩]
abbrev k35_o6 : List AJ := [.o ⟨(some 24), none, false, .fieldA 2 (.t 5), none⟩, .o ⟨(some 25), none, false, .load 1 false (.t 24), none⟩, .o ⟨(some 26), none, false, .load 3 true (.t 7), none⟩, .o ⟨(some 27), none, false, .bsl false 3 [(.t 26)], none⟩, .o ⟨(some 28), none, false, .append 3 24 (.t 25) (.t 27), none⟩, .o ⟨(some 29), none, false, .fieldA 2 (.t 5), none⟩, .o ⟨none, none, false, .store 1 (.t 29) (.t 28), (some [1, 4, 5, 14, 15, 16])⟩]
def k35_7 : ACode := .region k35_o6
def k35_8 : ACode := .cond (.t 23) k35_7 .skip
def k35_9 : ACode := .seq (.region k35_o5) k35_8
def k35_10 : ACode := .seq (.region k35_o4) k35_9
abbrev k35_o7 : List AJ := [.o ⟨(some 30), none, true, .bin .add (.t 16) (.c (.int .i64 1)), none⟩, .o ⟨(some 16), none, false, .mv (.t 30), (some [1, 4, 5, 14, 15, 16])⟩]
def k35_12 : ACode := .region k35_o7
def k35_13 : ACode := .seq (.block 1 k35_10) k35_12
def k35_14 : ACode := .seq (.cond (.t 17) .skip (.exit 0)) k35_13
def k35_15 : ACode := .seq (.region k35_o3) k35_14
def k35_16 : ACode := .loop k35_15
def k35_17 : ACode := .block 0 k35_16
def k35_18 : ACode := .seq (.region k35_o2) k35_17
abbrev k35_o8 : List AJ := [.o ⟨(some 31), none, false, .load 3 true (.t 5), none⟩, .o ⟨none, none, false, .store 3 (.t 4) (.t 31), (some [4])⟩]
def k35_20 : ACode := .seq (.region k35_o8) .ret
def k35_21 : ACode := .seq k35_18 k35_20
def k35_22 : ACode := .seq (.region k35_o1) k35_21
def k35_23 : ACode := .seq (.region k35_o0) k35_22
@[simp, simp ↓] theorem k35_7r : rR k35_7 k35_o6 := zR rfl
@[simp, simp ↓] theorem k35_8r : rC k35_8 (.t 23) k35_7 .skip := zC rfl
@[simp, simp ↓] theorem k35_9r : sR k35_9 k35_o5 k35_8 := yR rfl
@[simp, simp ↓] theorem k35_10r : sR k35_10 k35_o4 k35_9 := yR rfl
@[simp, simp ↓] theorem k35_12r : rR k35_12 k35_o7 := zR rfl
@[simp, simp ↓] theorem k35_13r : sB k35_13 1 k35_10 k35_12 := yB rfl
@[simp, simp ↓] theorem k35_14r : sC k35_14 (.t 17) .skip (.exit 0) k35_13 := yC rfl
@[simp, simp ↓] theorem k35_15r : sR k35_15 k35_o3 k35_14 := yR rfl
@[simp, simp ↓] theorem k35_16r : rL k35_16 k35_15 := zL rfl
@[simp, simp ↓] theorem k35_17r : rB k35_17 0 k35_16 := zB rfl
@[simp, simp ↓] theorem k35_18r : sR k35_18 k35_o2 k35_17 := yR rfl
@[simp, simp ↓] theorem k35_20r : sR k35_20 k35_o8 .ret := yR rfl
@[simp, simp ↓] theorem k35_21r : rS k35_21 k35_18 k35_20 := zS rfl
@[simp, simp ↓] theorem k35_22r : sR k35_22 k35_o1 k35_21 := yR rfl
@[simp, simp ↓] theorem k35_23r : sR k35_23 k35_o0 k35_22 := yR rfl
noncomputable abbrev k35_C : Orc → Cx := mkC Try.prog [4, 5, 7] 35 32 [.cell 4 3 true]
theorem k35_of : OfP Try.prog Try.f35 35 32 k35_C k35_23 := @ofP _ _ _ _ _ _ _ _ Try.func35 (by decide +kernel) rfl (by kernel_rfl) rfl (by kernel_rfl)
theorem onlyTurns_w (x : Ph) (g : FuncId) (caps : List AV) (q : Int → Bool) (h : Heap) (hl : x.ts.length ≤ 1048576) (hq : ∀ (k : Nat) (h : Heap), k < x.ts.length → ACalls Try.prog g (.int .i64 k :: caps) h (fun v h' => v = .bool (q k) ∧ h' = h)) :
    ACalls Try.prog 35 [x.av, .fn g caps] h (fun v h' => ∃ u hp, v = .agg [.int .i64 x.n, .int .i64 x.m, u] ∧ Grow 3 u ((x.kept q).ts.map T.av) hp ∧ h' = hp ++ h) := by
  refine k35_of rfl noPure fun I => ?_
  refine Run2.of I 1000 ?_
  simp -implicitDefEqProofs
  intro a ha b hba hb
  refine gK.go ?_
  simp -implicitDefEqProofs [hba]
  refine Run2.loopE (α := Nat × AV × Heap) (fun s => [(1, .fn g caps), (4, .ptr a 3 0 0), (5, .ptr b 3 0 0), (14, .snap 3 (x.ts.map T.av)), (15, .int .i64 x.ts.length), (16, .int .i64 (s.1 : Nat))])
    (fun s => s.2.2 ++ ((b, ⟨3, [.agg [.int .i64 x.n, .int .i64 x.m, s.2.1]]⟩) :: (a, ⟨3, [.agg [.int .i64 0, .int .i64 0, .nilsl]]⟩) :: h)) (fun s => x.ts.length - s.1) (fun s => s.1 ≤ x.ts.length ∧ Grow 3 s.2.1 ((keptTo x.ts q s.1).map T.av) s.2.2 ∧ b ∉ dom s.2.2 ∧ a ∉ dom s.2.2) (0, .nilsl, []) (by simp) rfl ⟨Nat.zero_le _, by simpa [keptTo] using Grow.nil, by simp [dom], by simp [dom]⟩ ?_
  rintro ⟨i, u, hp'⟩ ⟨hi, hg, hpb, hpa⟩ ih
  simp only at hi hg hpb hpa ih ⊢
  have hcw := hg.cell
  by_cases hlt : i < x.ts.length
  · have hs := keptTo_succ x.ts q hlt
    have hsl := keptTo_len x.ts q i
    have go := fun w' hp'' hg' hb' ha' => ih (i + 1, w', hp'') ⟨by simp; omega, hg', hb', ha'⟩ (by simp; omega)
    clear ih
    refine Run2.of I 1000 ?_
    simp -implicitDefEqProofs [hlt]
    refine (hq i _ hlt).mono ?_
    rintro v h' ⟨rfl, rfl⟩
    refine gK.go ?_
    simp -implicitDefEqProofs [hlt, hget_app hpb, hget_app hpa]
    refine ⟨fun h1 => ?_, fun h1 => ⟨by omega, ?_⟩⟩
    · rw [if_pos h1] at hs
      refine Grow.app_mid (pre := []) hg (fun j hj => by simp [dom]) (by simp; omega) (by simp) fun w' hp2 hg' hf => ?_
      have hfb : b ∉ dom hp2 := fun h => hf b h (by simp [dom])
      have hfa : a ∉ dom hp2 := fun h => hf a h (by simp [dom])
      simp -implicitDefEqProofs [hcw, hg'.cell, cells_of hg'.cell, stor_of hg'.cell, hget_app hfb, hset_app hfb]
      refine ⟨by omega, ?_⟩
      have := go w' hp2 (by simp only; rw [hs]; simpa using hg') hfb hfa
      simpa using this
    · rw [if_neg (by simp [h1])] at hs
      have := go u hp' (by simp only; rw [hs]; simpa using hg) hpb hpa
      simpa using this
  · obtain rfl : i = x.ts.length := by omega
    refine Run2.of I 1000 ?_
    simp -implicitDefEqProofs [hget_app hpb, hget_app hpa, hset_app hpa, hba, Ne.symm hba, hcw]
    refine .drop a (.drop b (.base ?_))
    rw [hdel_app hpa, hdel_app hpb]
    simp [hdel, hba]
    exact hg
theorem forestOf_c (x : Ph) (h : Heap) (hv : x.valid) : ACalls Try.prog 39 [x.av] h (fun v h' => v = .snap 1 (x.forest.map iv) ∧ h' = h) :=
  ACalls.post ((forestOf_w x h hv).mono fun v h' ⟨hp, hg, hd, e⟩ => by subst e; exact Grow.froze hg (fun w => w) (fun _ _ _ => rfl) (fun _ _ h => h) (.base ⟨rfl, rfl⟩))
theorem onlyTurns_c (x : Ph) (g : FuncId) (caps : List AV) (q : Int → Bool) (h : Heap) (hl : x.ts.length ≤ 1048576) (hq : ∀ (k : Nat) (h : Heap), k < x.ts.length → ACalls Try.prog g (.int .i64 k :: caps) h (fun v h' => v = .bool (q k) ∧ h' = h)) :
    ACalls Try.prog 35 [x.av, .fn g caps] h (fun v h' => v = (x.kept q).av ∧ h' = h) :=
  ACalls.post ((onlyTurns_w x g caps q h hl hq).mono fun v h' ⟨u, hp, e1, hg, e⟩ => by
    subst e; subst e1
    exact Grow.froze hg (fun u => .agg [.int .i64 x.n, .int .i64 x.m, u]) (fun id b u => by simp [fz]) (fun _ _ h => .agg (.cons (.refl _) (.cons (.refl _) (.cons h .nil)))) (.base ⟨rfl, rfl⟩))
/-- The graph of the forest's edges. -/
def Ph.fgraph (x : Ph) : Ph := x.kept fun k => decide (k ∈ x.forest)
theorem fgraph_c (x : Ph) (h : Heap) (hl : x.ts.length ≤ 24) : ACalls Try.prog 35 [x.av, .fn 60 [.ip [.snap 1 (x.forest.map iv)]]] h (fun v h' => v = x.fgraph.av ∧ h' = h) :=
  onlyTurns_c x _ _ _ h (by omega) fun k h _ => fp1_c k x.forest h (by have := fstate_len x x.ts.length; unfold Ph.forest; omega)
theorem kept_mem {ts : List T} {q : Int → Bool} {t : T} {n : Nat} (hn : n ≤ ts.length) : t ∈ keptTo ts q n ↔ ∃ (k : Nat) (hk : k < ts.length), k < n ∧ q k = true ∧ t = ts[k] := by
  unfold keptTo
  simp only [List.mem_map, List.mem_filter, List.mem_range]
  constructor
  · rintro ⟨k, ⟨h1, h2⟩, rfl⟩
    exact ⟨k, by omega, h1, h2, by simp [show k < ts.length by omega]⟩
  · rintro ⟨k, hk, h1, h2, rfl⟩
    exact ⟨k, ⟨h1, h2⟩, by simp [hk]⟩
theorem Ph.kept_bnd {x : Ph} (hv : x.valid) (q : Int → Bool) : (x.kept q).bnd := by
  refine ⟨hv.2.2.1, hv.2.2.2.1, ?_, fun i hi => ?_⟩
  · have := keptTo_len x.ts q x.ts.length
    have := hv.2.2.2.2.2
    simp only [Ph.kept]; omega
  · obtain ⟨k, hk, _, _, e⟩ := (kept_mem (ts := x.ts) (q := q) (Nat.le_refl _)).1 (List.getElem_mem hi)
    simp only [Ph.kept] at e ⊢
    rw [e]
    exact (Ph.edge hv hk).2.2.2
end Go.AG
